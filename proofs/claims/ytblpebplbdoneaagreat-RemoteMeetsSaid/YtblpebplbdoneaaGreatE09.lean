/- Tools and contracts under the laws of this seat: DrE6 to DrE15. -/
import Derived.Test.YtblpebplbdoneaaGreatE07
import Derived.Test.YtblpebplbdoneaaGreatE08
import Derived.Test.YtblpebplbdoneaaGreatE05
import Derived.Test.YtblpebplbdoneaaGreatE03
set_option linter.unusedVariables false
set_option linter.unusedSimpArgs false
namespace Go.Ev
noncomputable section
open Go.Proofs Ty
set_option maxRecDepth 10000
set_option maxHeartbeats 4000000
def e47 : List O → Option (Prop × O)
 | [.d x_l, .d (.b back), .d x_w] => match decL 8 q0v x_l, qp8 x_w with
   | some l, some w => some (l.length ≤ 1000000, .d (.sl 5 ((qfx w back l).map q0s)))
   | _, _ => none
 | _ => none
def q8m : FuncId → List O → Option (Prop × O) := addT q8k 47 e47
def e46 : List O → Option (Prop × O)
 | [.d x_ts, .d x_cs] => match decL 6 q0y x_ts, decL 5 q0x x_cs with
   | some ts, some cs => some (okTs ts ∧ cs.length ≤ 1000000, .tup [.d (.sl 6 ((qc4 ts cs).1.map q0c)), .d (.i .i64 (qc4 ts cs).2.1), .d (.i .i64 (qc4 ts cs).2.2)])
   | _, _ => none
 | _ => none
def q8n : FuncId → List O → Option (Prop × O) := addT q8m 46 e46
end
end Go.Ev
namespace Go.Ev
theorem qn8 {l : List Entry} (h : (qbv l).2 = 0) {j : Nat} (hj : j < l.length) : 1 ≤ (l.getD j q0i).number ∧ (l.getD j q0i).number ≤ 9999 := qv7 (qg5 h hj).1
theorem qjm {ts : List Table} {l : List Entry} (h : chkE ts l = 0) : qci ts = 0 ∧ (qbv l).2 = 0 := by
 unfold chkE at h
 split at h
 ·contradiction
 ·rename_i h2; exact ⟨Decidable.not_not.1 h2, h⟩
theorem qja (w : Want) (back : Bool) (l : List Entry) : (qfx w back l).length ≤ l.length := by
 have := qbf2 w back l
 unfold qfx
 split
 ·rw [List.length_reverse]; exact this
 ·exact this
def qlk (l : List Entry) : Int := if 0 < l.length then (l.getD 0 q0i).number - 1 else 0
def qm6 (l : List Entry) : Int := if 0 < l.length then (l.getD (l.length - 1) q0i).number else 9999
def qni (l : List Entry) : Int := if 0 < l.length then (l.getD 0 q0i).number else 1
def qpa (l : List Entry) : Int := if 0 < l.length then (l.getD (l.length - 1) q0i).number + 1 else 10000
def qgn (ts : List Table) (l : List Entry) (n : Int) : List Table × Int × Int :=
 if chkE ts l ≠ 0 then ([], 0, chkE ts l) else if n < qlk l ∨ qm6 l < n then ([], 0, 3) else qc4 ts (qfx ⟨true, n⟩ false l)
def qfb (ts : List Table) (l : List Entry) (n : Int) : List Table × Int × Int :=
 if chkE ts l ≠ 0 then ([], 0, chkE ts l) else if n < qni l ∨ qpa l < n then ([], 0, 3) else qc4 ts (qfx ⟨false, n⟩ true l)
section
variable {ts : List Table} {l : List Entry} {n : Int}
theorem qnj (h : ¬chkE ts l = 0) : qgn ts l n = ([], 0, chkE ts l) := by unfold qgn; rw [if_pos h]
theorem qpb (h : chkE ts l = 0) (h2 : n < qlk l ∨ qm6 l < n) : qgn ts l n = ([], 0, 3) := by unfold qgn; rw [if_neg (fun e => e h), if_pos h2]
theorem qq5 (h : chkE ts l = 0) (h2 : qlk l ≤ n ∧ n ≤ qm6 l) : qgn ts l n = qc4 ts (qfx ⟨true, n⟩ false l) := by unfold qgn; rw [if_neg (fun e => e h), if_neg (by omega)]
theorem qk3 (h : ¬chkE ts l = 0) : qfb ts l n = ([], 0, chkE ts l) := by unfold qfb; rw [if_pos h]
theorem qk4 (h : chkE ts l = 0) (h2 : n < qni l ∨ qpa l < n) : qfb ts l n = ([], 0, 3) := by unfold qfb; rw [if_neg (fun e => e h), if_pos h2]
theorem qnk (h : chkE ts l = 0) (h2 : qni l ≤ n ∧ n ≤ qpa l) : qfb ts l n = qc4 ts (qfx ⟨false, n⟩ true l) := by unfold qfb; rw [if_neg (fun e => e h), if_neg (by omega)]
theorem qsj (h : 0 < (l.length : Int)) : qlk l = (l.getD 0 q0i).number - 1 ∧ qm6 l = (l.getD (l.length - 1) q0i).number ∧ qni l = (l.getD 0 q0i).number ∧ qpa l = (l.getD (l.length - 1) q0i).number + 1 := by
 have h : 0 < l.length := by omega
 simp [qlk, qm6, qni, qpa, h]
theorem qsk (h : (l.length : Int) ≤ 0) : qlk l = 0 ∧ qm6 l = 9999 ∧ qni l = 1 ∧ qpa l = 10000 := by
 have h : ¬0 < l.length := by omega
 simp [qlk, qm6, qni, qpa, h]
end
theorem qsl {a b : Fmt} (h1 : a.name = b.name) (h2 : a.fields = b.fields) : a = b := by cases a; cases b; simp_all
theorem qp9 {a b : File} (h1 : a.name = b.name) (h2 : a.unique = b.unique) (h3 : a.format = b.format) (h4 : a.keys = b.keys) : a = b := by cases a; cases b; simp_all
theorem qnl (a b : Table) : decide (a = b) = (decide (a.file = b.file) && decide (a.records = b.records)) := by
 rw [Bool.eq_iff_iff]; cases a; cases b; simp
end Go.Ev
namespace Go.Ev
noncomputable section
open Go.Proofs Ty
set_option maxRecDepth 10000
set_option maxHeartbeats 4000000
def e19 : List O → Option (Prop × O)
 | [.d x_ts, .d x_l, .d (.i .i64 n)] => match decL 6 q0y x_ts, decL 8 q0v x_l with
   | some ts, some l => some (okTs ts ∧ l.length ≤ 1000000, .tup [.d (.sl 6 ((qgn ts l n).1.map q0c)), .d (.i .i64 (qgn ts l n).2.1), .d (.i .i64 (qgn ts l n).2.2)])
   | _, _ => none
 | _ => none
def q8o : FuncId → List O → Option (Prop × O) := addT q8n 19 e19
def e27 : List O → Option (Prop × O)
 | [.d x_ts, .d x_l, .d (.i .i64 n)] => match decL 6 q0y x_ts, decL 8 q0v x_l with
   | some ts, some l => some (okTs ts ∧ l.length ≤ 1000000, .tup [.d (.sl 6 ((qfb ts l n).1.map q0c)), .d (.i .i64 (qfb ts l n).2.1), .d (.i .i64 (qfb ts l n).2.2)])
   | _, _ => none
 | _ => none
def q8p : FuncId → List O → Option (Prop × O) := addT q8o 27 e27
def e88 : List O → Option (Prop × O)
 | [.d x_f] => match qb8 x_f with
   | some f => some (f.fields.length ≤ 1000000, .d (qb1 f))
   | _ => none
 | _ => none
def q8q : FuncId → List O → Option (Prop × O) := addT q8p 88 e88
def e56 : List O → Option (Prop × O)
 | [.d x_f] => match qcm x_f with
   | some f => some (f.format.fields.length ≤ 1000000 ∧ f.keys.length ≤ 1000000, .d (qcb f))
   | _ => none
 | _ => none
def q8r : FuncId → List O → Option (Prop × O) := addT q8q 56 e56
def e31 : List O → Option (Prop × O)
 | [.d x_t] => match q0y x_t with
   | some t => some ((t.file.format.fields.length ≤ 1000000 ∧ t.file.keys.length ≤ 1000000 ∧ t.records.length ≤ 1000000), .d (q0c t))
   | _ => none
 | _ => none
def q8s : FuncId → List O → Option (Prop × O) := addT q8r 31 e31
def e12 : List O → Option (Prop × O)
 | [.d x_ts] => match decL 6 q0y x_ts with
   | some ts => some (okTs ts, .own 69 6 (ts.map q0c))
   | _ => none
 | _ => none
def q8t : FuncId → List O → Option (Prop × O) := addT q8s 12 e12
def e64 : List O → Option (Prop × O)
 | [.d x_a, .d x_b] => match decL 2 qdm x_a, decL 2 qdm x_b with
   | some a, some b => some (a.length ≤ 1000000, .d (.b (decide (a = b))))
   | _, _ => none
 | _ => none
def q8u : FuncId → List O → Option (Prop × O) := addT q8t 64 e64
def e93 : List O → Option (Prop × O)
 | [.d x_a, .d x_b] => match qb8 x_a, qb8 x_b with
   | some a, some b => some (a.fields.length ≤ 1000000, .d (.b (decide (a = b))))
   | _, _ => none
 | _ => none
def q8v : FuncId → List O → Option (Prop × O) := addT q8u 93 e93
def e63 : List O → Option (Prop × O)
 | [.d x_a, .d x_b] => match qcm x_a, qcm x_b with
   | some a, some b => some (a.format.fields.length ≤ 1000000 ∧ a.keys.length ≤ 1000000, .d (.b (decide (a = b))))
   | _, _ => none
 | _ => none
def q8w : FuncId → List O → Option (Prop × O) := addT q8v 63 e63
def e38 : List O → Option (Prop × O)
 | [.d x_a, .d x_b] => match q0y x_a, q0y x_b with
   | some a, some b => some (okT a, .d (.b (decide (a = b))))
   | _, _ => none
 | _ => none
def q8x : FuncId → List O → Option (Prop × O) := addT q8w 38 e38
def e23 : List O → Option (Prop × O)
 | [.d x_f] => match qb8 x_f with
   | some f => some (True, .d (.b (decide ((f.fields.length : Int) ≤ 22))))
   | _ => none
 | _ => none
def q8y : FuncId → List O → Option (Prop × O) := addT q8x 23 e23
end
end Go.Ev
namespace Go.Ev
def qor (t : Table) (k : Nat) : Int := if 220 < ((t.records.getD k zRec).bytes.size : Int) then 1 else 0
def qjn (t : Table) : Prop := 22 < (t.file.format.fields.length : Int) ∨ 6 < (t.file.keys.length : Int) ∨ 62 < (t.records.length : Int)
instance (t : Table) : Decidable (qjn t) := by unfold qjn; infer_instance
def qi0 (l : List Table) (i : Nat) : Int := if qjn (l.getD i q0z) then 1 else match qcf (qor (l.getD i q0z)) (l.getD i q0z).records.length with
 | some _ => 1
 | none => 0
def qk5 (l : List Table) : Bool := if 10 < (l.length : Int) then false else (qcf (qi0 l) l.length).isNone
section
variable {l : List Table} {i k : Nat}
theorem qbf5 (h : 10 < (l.length : Int)) : qk5 l = false := by unfold qk5; rw [if_pos h]
theorem q5v (h10 : (l.length : Int) ≤ 10) (h : ∀ j, j < i → qi0 l j = 0) (hi : i < l.length) (hg : ¬qi0 l i = 0) : qk5 l = false := by
 unfold qk5
 rw [if_neg (by omega), qeu h hi hg]; rfl
theorem q5w (h10 : (l.length : Int) ≤ 10) (h : ∀ j, j < i → qi0 l j = 0) (hi : l.length ≤ i) : qk5 l = true := by
 unfold qk5
 rw [if_neg (by omega), qev fun j hj => h j (by omega)]; rfl
theorem q4y (h : qjn (l.getD i q0z)) : ¬qi0 l i = 0 := by unfold qi0; rw [if_pos h]; decide
theorem q8z (h : ∀ j, j < k → qor (l.getD i q0z) j = 0) (hk : k < (l.getD i q0z).records.length) (hg : 220 < (((l.getD i q0z).records.getD k zRec).bytes.size : Int)) : ¬qi0 l i = 0 := by
 unfold qi0
 split
 ·decide
 ·rw [qeu h hk (by unfold qor; rw [if_pos hg]; decide)]; exact (by decide : ¬(1 : Int) = 0)
theorem qwi (hh : ¬qjn (l.getD i q0z)) (h : ∀ j, j < k → qor (l.getD i q0z) j = 0) (hk : (l.getD i q0z).records.length ≤ k) : qi0 l i = 0 := by
 unfold qi0
 rw [if_neg hh, qev fun j hj => h j (by omega)]
theorem qzb {t : Table} (h : ((t.records.getD k zRec).bytes.size : Int) ≤ 220) : qor t k = 0 := by unfold qor; rw [if_neg (by omega)]
theorem quv (h : qk5 l = true) : okTs l ∧ l.length ≤ 10 := by
 unfold qk5 at h
 split at h
 ·cases h
 refine ⟨⟨by omega, fun i => ?_⟩, by omega⟩
 by_cases hi : i < l.length
 ·have hz : qi0 l i = 0 := by
   cases hf : qcf (qi0 l) l.length with
   | some j => rw [hf] at h; cases h
   | none =>
     unfold qcf at hf
     rw [List.find?_eq_none] at hf
     have := hf i (by simpa using hi)
     simpa using this
  unfold qi0 at hz
  split at hz
  ·cases hz
  ·rename_i hh
   unfold qjn at hh
   refine ⟨?_, ?_, ?_⟩ <;> omega
 ·have : l.getD i q0z = q0z := by simp [List.getD, List.getElem?_eq_none (Nat.le_of_not_lt hi)]
  rw [this]
  exact ⟨by decide, by decide, by decide⟩
end
end Go.Ev
namespace Go.Ev
noncomputable section
open Go.Proofs Ty
set_option maxRecDepth 10000
set_option maxHeartbeats 4000000
def e15 : List O → Option (Prop × O)
 | [.d x_a, .d x_b] => match decL 6 q0y x_a, decL 6 q0y x_b with
   | some a, some b => some (okTs a, .d (.b (decide (a = b))))
   | _, _ => none
 | _ => none
def q80 : FuncId → List O → Option (Prop × O) := addT q8y 15 e15
def e8 : List O → Option (Prop × O)
 | [.d x_l] => match decL 6 q0y x_l with
   | some l => some (True, .d (.b (qk5 l)))
   | _ => none
 | _ => none
def tab8 : FuncId → List O → Option (Prop × O) := addT q80 8 e8
end
end Go.Ev
namespace Go.Ev
def qn1 (l : List Rec) : List Rec := (l.reverse.dropWhile fun r => r.deleted).reverse
def qh5 (t : Table) : Table := ⟨t.file, qn1 t.records⟩
theorem q5x {α : Type} (p : α → Bool) (z : α) : ∀ {l : List α} {k : Nat}, (∀ j, j < k → p (l.getD j z) = true) → k ≤ l.length → (k = l.length ∨ p (l.getD k z) = false) → l.dropWhile p = l.drop k
 | [], k, _, hi, _ => by simp at hi; subst hi; rfl
 | x :: l, 0, _, _, h => by
   have : p x = false := by rcases h with h | h; cases h; simpa using h
   simp [this]
 | x :: l, k + 1, h, hi, h2 => by
   have hx : p x = true := by simpa using h 0 (by omega)
   have h1 : ∀ j, j < k → p (l.getD j z) = true := fun j hj => by
    have := h (j + 1) (by omega)
    simpa using this
   rw [List.dropWhile_cons, if_pos hx, List.drop_succ_cons, q5x p z h1 (by simpa using hi) (by rcases h2 with h2 | h2; left; simpa using h2; right; simpa using h2)]
theorem q2e (l : List Rec) {j : Nat} (hj : j < l.length) : l.reverse.getD j zRec = l.getD (l.length - 1 - j) zRec := by
 simp only [List.getD]; rw [List.getElem?_reverse hj]
theorem qbni {l : List Rec} {n : Nat} (hn : n ≤ l.length) (h : ∀ j, n ≤ j → j < l.length → (l.getD j zRec).deleted = true) (h2 : n = 0 ∨ (l.getD (n - 1) zRec).deleted = false) : qn1 l = l.take n := by
 unfold qn1
 rw [q5x (fun r => r.deleted) zRec (k := l.length - n) (fun j hj => by rw [q2e l (by omega)]; exact h _ (by omega) (by omega)) (by simp) (by
  rcases h2 with h2 | h2
  ·left; simp; omega
  ·by_cases h0 : n = 0
   ·left; simp; omega
   ·right; rw [q2e l (by omega), show l.length - 1 - (l.length - n) = n - 1 by omega]; exact h2)]
 rw [List.drop_reverse, List.reverse_reverse, show l.length - (l.length - n) = n by omega]
def qi1 (l : List Table) (i : Nat) : List Table := (l.take i).map qh5 ++ l.drop i
theorem qmj (l : List Table) (i : Nat) : (qi1 l i).length = l.length := by simp [qi1]; omega
theorem q4z (l : List Table) {i : Nat} (hi : i < l.length) : (qi1 l i).getD i q0z = l.getD i q0z := by
 simp only [qi1, List.getD]
 rw [List.getElem?_append_right (by simp; omega)]
 simp [Nat.min_eq_left (Nat.le_of_lt hi)]
theorem q81 {l : List Table} {i : Nat} (hi : i < l.length) (z : D) : ((qi1 l i).map q0c).getD i z = q0c (l.getD i q0z) := by
 rw [qfr (by rw [qmj]; exact hi), q4z l hi]
theorem q40 {l : List Table} {i : Nat} (hi : i < l.length) : (qi1 l i).set i (qh5 (l.getD i q0z)) = qi1 l (i + 1) := by
 have e : l.drop i = l.getD i q0z :: l.drop (i + 1) := by
  rw [List.drop_eq_getElem_cons hi]; simp [List.getD, List.getElem?_eq_getElem hi]
 simp only [qi1]
 rw [e, List.set_append_right _ _ (by simp; omega), qdx q0z hi, List.map_append]
 simp [Nat.min_eq_left (Nat.le_of_lt hi)]
theorem q82 {l : List Table} {i : Nat} (hi : l.length ≤ i) : qi1 l i = l.map qh5 := by simp [qi1, List.take_of_length_le hi, List.drop_eq_nil_of_le hi]
def qos (a b : List Table) : Bool := qk5 a && decide (a.map qh5 = b.map qh5)
theorem qbbo (l : List Rec) : (qn1 l).length ≤ l.length := by
 unfold qn1
 rw [List.length_reverse]
 have := (List.dropWhile_suffix (l := l.reverse) fun r => r.deleted).length_le
 simpa using this
theorem qi2 {l : List Table} (h : okTs l) : okTs (l.map qh5) := by
 refine ⟨by rw [List.length_map]; exact h.1, fun i => ?_⟩
 have e : (l.map qh5).getD i q0z = qh5 (l.getD i q0z) := by
  simp only [List.getD, List.getElem?_map]
  cases l[i]? <;> rfl
 rw [e]
 have hi := h.2 i
 have := qbbo (l.getD i q0z).records
 exact ⟨hi.1, hi.2.1, by have := hi.2.2; show (qn1 _).length ≤ _; omega⟩
end Go.Ev
namespace Go.Ev
noncomputable section
open Go.Proofs Ty
set_option maxRecDepth 10000
set_option maxHeartbeats 4000000
def e21 : List O → Option (Prop × O)
 | [.d x_l] => match decL 6 q0y x_l with
   | some l => some (okTs l, .d (.sl 6 ((l.map qh5).map q0c)))
   | _ => none
 | _ => none
def q83 : FuncId → List O → Option (Prop × O) := addT tab8 21 e21
end
end Go.Ev
namespace Go.Ev
section
variable {ts : List Table} {l : List Entry} {c : Change} {i : Nat}
end
end Go.Ev
namespace Go.Ev
open Go.Proofs Ty
set_option maxRecDepth 10000
set_option maxHeartbeats 4000000
end Go.Ev
namespace Go.Ev
theorem qjo {g : Nat → Int} {n : Nat} (h : qcf g n = none) : ∀ j, j < n → g j = 0 := by
 unfold qcf at h
 rw [List.find?_eq_none] at h
 intro j hj
 have := h j (by simpa using hj)
 simpa using this
theorem qmk {g : Nat → Int} {n i : Nat} (h : qcf g n = some i) : ¬g i = 0 := by
 unfold qcf at h
 have := List.find?_some h
 simpa using this
theorem q5y {ts : List Table} {cs : List Change} (h : (qc4 ts cs).2.2 = 0) : (∀ k, k < cs.length → mErr ts cs k = 0) ∧ qc4 ts cs = ((mTo ts cs cs.length).1, (mTo ts cs cs.length).2, 0) := by
 unfold qc4 at h ⊢
 cases hf : qcf (mErr ts cs) cs.length with
 | some k => rw [hf] at h; exact absurd h (qmk hf)
 | none => exact ⟨qjo hf, rfl⟩
theorem qku : okTs [] := ⟨by simp, fun i => by
 have : ([] : List Table).getD i q0z = q0z := rfl
 rw [this]; exact ⟨by decide, by decide, by decide⟩⟩
theorem qpc {ts : List Table} {cs : List Change} (h : okTs ts) : okTs (qc4 ts cs).1 := by
 unfold qc4
 cases hf : qcf (mErr ts cs) cs.length with
 | some k => exact qku
 | none => exact qsi h (qjo hf)
theorem qge {ts : List Table} {l : List Entry} {n : Int} (h : okTs ts) : okTs (qgn ts l n).1 := by
 unfold qgn
 split
 ·exact qku
 split
 ·exact qku
 ·exact qpc h
theorem qbf6 {ts : List Table} {l : List Entry} {n : Int} (h : (qgn ts l n).2.2 = 0) : chkE ts l = 0 ∧ qlk l ≤ n ∧ n ≤ qm6 l ∧ qgn ts l n = qc4 ts (qfx ⟨true, n⟩ false l) := by
 by_cases h1 : chkE ts l = 0
 ·by_cases h2 : n < qlk l ∨ qm6 l < n
  ·rw [qpb h1 h2] at h; cases h
  ·exact ⟨h1, by omega, by omega, qq5 h1 (by omega)⟩
 ·rw [qnj h1] at h; exact absurd h h1
theorem qbf7 {l : List Entry} (h : (qbv l).2 = 0) {j : Nat} (hj : j < l.length) : (l.getD j q0i).number ≤ (l.getD (l.length - 1) q0i).number := by
 by_cases e : j = l.length - 1
 ·rw [e]; exact Int.le_refl _
 ·have := q5p (fun j hj => qg5 h hj) j (l.length - 1) (by omega) (by omega)
  omega
theorem qbbp {l : List Entry} (h : (qbv l).2 = 0) : qfu ⟨true, (l.getD (l.length - 1) q0i).number⟩ false l = (l.filter fun x => decide (x.kind = 0)).map (·.change) := by
 unfold qfu
 have e : l.filter (qka ⟨true, (l.getD (l.length - 1) q0i).number⟩) = l.filter fun x => decide (x.kind = 0) := by
  apply List.filter_congr
  intro x hx
  obtain ⟨j, hj, rfl⟩ := List.getElem_of_mem hx
  have := qbf7 h hj
  have g : l.getD j q0i = l[j] := by simp [List.getD, List.getElem?_eq_getElem hj]
  rw [g] at this
  generalize (l.getD (l.length - 1) q0i).number = q at this ⊢
  simp [qka, Want.has, this]
 rw [e]
 rfl
theorem qzc (l : List Table) (i : Nat) (n : Int) (r : Rec) : (l.set i (qek (l.getD i q0z) n r)).map (·.file) = l.map (·.file) := by
 rw [List.map_set]
 show (l.map (·.file)).set i (l.getD i q0z).file = _
 by_cases h : i < l.length
 ·have e : (l.getD i q0z).file = (l.map (·.file))[i]'(by simpa using h) := by simp [List.getD, List.getElem?_eq_getElem h]
  rw [e, List.set_getElem_self]
 ·rw [List.set_eq_of_length_le (by simpa using h)]
theorem qzd (ts : List Table) (cs : List Change) : ∀ k, (mTo ts cs k).1.map (·.file) = ts.map (·.file)
 | 0 => rfl
 | k + 1 => by
   have ih := qzd ts cs k
   simp only [mTo, qcc]
   split
   ·exact ih
   ·simp only
    rw [qzc]
    exact ih
theorem qjb {a b : List Table} (h : a.map (·.file) = b.map (·.file)) (n : ByteArray) : qbg a n = qbg b n := by
 have hl : a.length = b.length := by have := congrArg List.length h; simpa using this
 have hg : qf9 a n = qf9 b n := by
  funext i
  unfold qf9
  have e : ∀ l : List Table, (l.getD i q0z).file = (l.map (·.file)).getD i qv8 := fun l => by
   simp only [List.getD, List.getElem?_map]
   cases l[i]? <;> rfl
  rw [e a, e b, h]
 unfold qbg
 rw [hg, hl]
theorem qbf8 (ts : List Table) (cs : List Change) (k : Nat) (n : ByteArray) : qbg (mTo ts cs k).1 n = qbg ts n := qjb (qzd ts cs k) n
theorem qze {l : List Table} {n : ByteArray} (h : 0 ≤ qbg l n) : (l.getD (qbg l n).toNat q0z).file.name = n := by
 unfold qbg at h ⊢
 cases hf : qcf (qf9 l n) l.length with
 | none => rw [hf] at h; simp at h
 | some i =>
   have := qmk hf
   unfold qf9 at this
   simp only [Int.toNat_natCast]
   split at this
   ·assumption
   ·exact absurd rfl this
theorem qsm {t : Table} {n : Int} {r : Rec} (h1 : 1 ≤ n) (h2 : n ≤ (t.records.length : Int) + 1) : n ≤ ((qek t n r).records.length : Int) ∧ (qek t n r).records.getD (n - 1).toNat zRec = r := by
 unfold qek
 simp only
 split
 ·have e : (n - 1).toNat = t.records.length := by omega
  refine ⟨by simp; omega, ?_⟩
  rw [e]
  simp [List.getD]
 ·refine ⟨by simp; omega, ?_⟩
  rw [qiz, if_pos ⟨rfl, by omega⟩]
theorem qwj {t : Table} {n m : Int} {r : Rec} (h1 : 1 ≤ n) (h3 : 1 ≤ m) (hm : m ≤ (t.records.length : Int)) (hne : ¬n = m) : m ≤ ((qek t n r).records.length : Int) ∧ (qek t n r).records.getD (m - 1).toNat zRec = t.records.getD (m - 1).toNat zRec := by
 unfold qek
 simp only
 split
 ·refine ⟨by simp; omega, ?_⟩
  simp only [List.getD]
  rw [List.getElem?_append_left (by omega)]
 ·refine ⟨by simp; omega, ?_⟩
  rw [qiz, if_neg (by omega)]
end Go.Ev
namespace Go.Ev
open Go.Proofs Ty
set_option maxRecDepth 10000
set_option maxHeartbeats 4000000
end Go.Ev
namespace Go.Ev
def recR (f : Fmt) (r : Rec) : Int := if r.deleted = true then (if r.bytes ≠ ⟨#[]⟩ then 5 else 0) else (qds f r.bytes).2.2
structure RightT (t : Table) : Prop where
 file : (qcs t.file).2 = 0
 len : t.records.length ≤ 60
 recs : ∀ i, i < t.records.length → recR t.file.format (t.records.getD i zRec) = 0
theorem q2f {t : Table} (h : (qbd t).2 = 0) : RightT t := by
 unfold qbd at h
 split at h
 ·rename_i h2; exact absurd h h2
 split at h
 ·cases h
 rename_i h1 h2
 cases hf : qcf (recE t) t.records.length with
 | some i => rw [hf] at h; exact absurd h (qmk hf)
 | none => exact ⟨Decidable.not_not.1 h1, by omega, fun i hi => qjo hf i hi⟩
theorem q2g {t : Table} (h : RightT t) : (qbd t).2 = 0 := by
 rw [qsf ⟨h.file, h.len⟩ (fun j hj => h.recs j hj) (Nat.le_refl _)]
structure ChgOk (t : Table) (c : Change) : Prop where
 right : RightT t
 file : c.file = t.file.name
 kind : c.kind = 0 ∨ c.kind = 1 ∨ c.kind = 2
 lo : 1 ≤ c.rrn
 form0 : c.kind = 0 → c.before = ⟨#[]⟩
 form2 : c.kind = 2 → c.after = ⟨#[]⟩
 ins : c.kind = 0 → c.rrn ≤ (t.records.length : Int) + 1 ∧ c.rrn ≤ 60 ∧ (c.rrn ≤ (t.records.length : Int) → (qkj t c).deleted = true)
 upd : c.kind ≠ 0 → c.rrn ≤ (t.records.length : Int) ∧ (qkj t c).deleted = false ∧ (qkj t c).bytes = c.before
 val : c.kind ≠ 2 → (qds t.file.format c.after).2.2 = 0
theorem qmy {t : Table} {c : Change} (h : qc7 t c = 0) : ChgOk t c := by
 have hh := qsh h
 obtain ⟨h1, h2, h3, h4, h5, h6, h7⟩ := qsg hh
 have hp : qgu t c = 0 := by
  unfold qc7 at h
  rw [if_neg (fun e => e hh)] at h
  split at h
  ·exact h
  ·rename_i q; exact Decidable.byContradiction fun e => q (.inl e)
 have hv : c.kind ≠ 2 → (qds t.file.format c.after).2.2 = 0 := by
  intro h2
  unfold qc7 at h
  rw [if_neg (fun e => e hh), if_neg (by rintro (e | e); exact e hp; exact h2 e)] at h
  exact h
 refine ⟨q2f h1, h2, by omega, h5, ?_, ?_, ?_, ?_, hv⟩
 ·intro k; unfold qg3 at h7; simp [k] at h7; exact h7
 ·intro k; unfold qg3 at h7; simp [k] at h7; exact h7
 ·intro k
  unfold qli at h6
  rw [if_pos k] at h6
  unfold qgu at hp
  rw [if_pos k] at hp
  have hg : qho t c = true := by
   cases e : qho t c with
   | true => rfl
   | false => simp [qb2, e] at hp
  have h60 : ¬60 < c.rrn := by
   intro e
   simp [qb2, hg, e] at hp
  refine ⟨h6, by omega, fun hl => ?_⟩
  unfold qho at hg
  rw [show decide (c.rrn = (t.records.length : Int) + 1) = false by simp; omega, Bool.false_or] at hg
  exact hg
 ·intro k
  unfold qli at h6
  rw [if_neg k] at h6
  unfold qgu at hp
  rw [if_neg k] at hp
  have hg : qho t c = false := by
   cases e : qho t c with
   | false => rfl
   | true => rw [e] at hp; simp at hp
  rw [if_neg (by simp [hg])] at hp
  refine ⟨h6, ?_, ?_⟩
  ·unfold qho at hg
   rw [Bool.or_eq_false_iff] at hg
   exact hg.2
  ·split at hp
   ·cases hp
   ·rename_i q; exact Decidable.not_not.1 q
theorem q2h {t : Table} {c : Change} (h : ChgOk t c) : qc7 t c = 0 := by
 have hm : c.rrn ≤ qli t c := by
  unfold qli
  split
  ·exact (h.ins ‹_›).1
  ·exact (h.upd ‹_›).1
 have hf : qg3 c = false := by
  unfold qg3
  have f0 := h.form0; have f2 := h.form2
  rw [Bool.or_eq_false_iff]
  constructor
  ·by_cases k : c.kind = 0
   ·simp [k, f0 k]
   ·simp [k]
  ·by_cases k : c.kind = 2
   ·simp [k, f2 k]
   ·simp [k]
 have hk := h.kind
 have hlo := h.lo
 have hh : qg9 t c = 0 := by
  unfold qg9
  rw [if_neg (fun e => e (q2g h.right)), if_neg (fun e => e h.file), if_neg (by omega), if_neg (by omega), if_neg (by simp [hf])]
 have hp : qgu t c = 0 := by
  unfold qgu
  by_cases k : c.kind = 0
  ·rw [if_pos k]
   obtain ⟨i1, i2, i3⟩ := h.ins k
   have hg : qho t c = true := by
    unfold qho
    by_cases e : c.rrn = (t.records.length : Int) + 1
    ·simp [e]
    ·rw [i3 (by omega)]; simp
   have e60 : ¬60 < c.rrn := by omega
   simp [qb2, hg, e60]
  ·rw [if_neg k]
   obtain ⟨u1, u2, u3⟩ := h.upd k
   have hg : qho t c = false := by
    unfold qho
    have e : ¬c.rrn = (t.records.length : Int) + 1 := by omega
    simp [e, u2]
   rw [if_neg (by simp [hg]), if_neg (fun e => e u3)]
 unfold qc7
 rw [if_neg (fun e => e hh)]
 split
 ·exact hp
 ·rename_i q; exact h.val fun e => q (.inr e)
theorem qsn (t : Table) (n : Int) (r : Rec) : ((qek t n r).records.length : Int) = if (t.records.length : Int) < n then (t.records.length : Int) + 1 else t.records.length := by
 unfold qek
 simp only
 split
 ·simp
 ·simp
theorem q84 {t : Table} {c : Change} (h : ChgOk t c) : RightT (qek t c.rrn (qdo c)) := by
 have hl := qsn t c.rrn (qdo c)
 have hp : c.rrn ≤ (t.records.length : Int) + 1 ∧ c.rrn ≤ 60 := by
  have := h.right.len
  by_cases k : c.kind = 0
  ·have := h.ins k; omega
  ·have := h.upd k; omega
 have h60 := h.right.len
 have hlo := h.lo
 refine ⟨h.right.file, by split at hl <;> omega, fun i hi => ?_⟩
 show recR t.file.format _ = 0
 by_cases e : i = (c.rrn - 1).toNat
 ·subst e
  rw [(qsm (r := qdo c) h.lo hp.1).2]
  unfold recR qdo
  by_cases k : c.kind = 2
  ·rw [if_pos (by simp [k]), if_neg (fun e => e (h.form2 k))]
  ·rw [if_neg (by simp [k])]; exact h.val k
 ·have hi2 : i < t.records.length := by split at hl <;> omega
  have hw := (qwj (t := t) (r := qdo c) (n := c.rrn) (m := (i : Int) + 1) h.lo (by omega) (by omega) (by omega)).2
  rw [show ((i : Int) + 1 - 1).toNat = i by omega] at hw
  rw [hw]
  exact h.right.recs i hi2
def delR : Rec := ⟨true, ⟨#[]⟩⟩
def extT (a b : Table) : Prop := b.file = a.file ∧ ∃ k, b.records = a.records ++ List.replicate k delR
def rv (c : Change) : Change := (qgm c).1
theorem qwk {c : Change} (h : c.kind = 0 ∨ c.kind = 1 ∨ c.kind = 2) : rv c = ⟨c.file, qea c.kind, c.rrn, c.after, c.before⟩ := by
 unfold rv qgm
 rw [if_pos (by omega)]
theorem qbnj {t u : Table} {c : Change} (h : ChgOk t c) (hx : extT (qek t c.rrn (qdo c)) u) (hu : RightT u) : ChgOk u (rv c) ∧ extT t (qek u (rv c).rrn (qdo (rv c))) := by
 have hlo := h.lo
 obtain ⟨hf, k, hr⟩ := hx
 have hf : u.file = t.file := hf
 have hp : c.rrn ≤ (t.records.length : Int) + 1 := by
  by_cases k : c.kind = 0
  ·exact (h.ins k).1
  ·have := (h.upd k).1; omega
 have hw := qsm (r := qdo c) hlo hp
 have hul : u.records.length = (qek t c.rrn (qdo c)).records.length + k := by rw [hr]; simp
 have hat : u.records.getD (c.rrn - 1).toNat zRec = qdo c := by
  have e : u.records.getD (c.rrn - 1).toNat zRec = (qek t c.rrn (qdo c)).records.getD (c.rrn - 1).toNat zRec := by
   simp only [List.getD]
   rw [hr, List.getElem?_append_left (by omega)]
  rw [e]; exact hw.2
 have hkr : c.kind = 0 ∧ qea c.kind = 2 ∨ c.kind = 1 ∧ qea c.kind = 1 ∨ c.kind = 2 ∧ qea c.kind = 0 := by
  rcases h.kind with e | e | e <;> rw [e] <;> simp [qea]
 have hk2 : qea c.kind = 2 ↔ c.kind = 0 := by omega
 have hk0 : qea c.kind = 0 ↔ c.kind = 2 := by omega
 rw [qwk h.kind]
 have hu60 := hu.len
 constructor
 ·refine ⟨hu, by rw [hf]; exact h.file, by simp only; omega, hlo, fun e => h.form2 (hk0.1 e), fun e => h.form0 (hk2.1 e), fun e => ⟨by simp only; omega, by simp only; omega, fun _ => ?_⟩, fun e => ⟨by simp only; omega, ?_, ?_⟩, fun e => ?_⟩
  ·show (u.records.getD (c.rrn - 1).toNat zRec).deleted = true
   rw [hat]; simp [qdo, hk0.1 e]
  ·show (u.records.getD (c.rrn - 1).toNat zRec).deleted = false
   have : ¬c.kind = 2 := fun q => e (hk0.2 q)
   rw [hat]; simp [qdo, this]
  ·show (u.records.getD (c.rrn - 1).toNat zRec).bytes = c.after
   rw [hat]; rfl
  ·have k0 : c.kind ≠ 0 := fun q => e (hk2.2 q)
   obtain ⟨u1, u2, u3⟩ := h.upd k0
   have hg := h.right.recs (c.rrn - 1).toNat (by omega)
   unfold recR at hg
   unfold qkj at u2 u3
   rw [if_neg (by rw [u2]; decide), u3] at hg
   rw [hf]; exact hg
 ·refine ⟨hf, ?_⟩
  by_cases hn : (t.records.length : Int) < c.rrn
  ·have k0 : c.kind = 0 := Decidable.byContradiction fun e => by have := (h.upd e).1; omega
   have hi : (c.rrn - 1).toNat = t.records.length := by omega
   have hul2 := qsn t c.rrn (qdo c)
   rw [if_pos hn] at hul2
   refine ⟨k + 1, ?_⟩
   have he : u.records = t.records ++ qdo c :: List.replicate k delR := by
    rw [hr]; unfold qek; simp only [if_pos hn]; simp
   unfold qek
   simp only
   rw [if_neg (by omega), he, hi, List.set_append_right _ _ (Nat.le_refl _), Nat.sub_self, List.set_cons_zero, List.replicate_succ]
   have : qdo ⟨c.file, qea c.kind, c.rrn, c.after, c.before⟩ = delR := by
    simp [qdo, delR, hk2.2 k0, h.form0 k0]
   rw [this]
  ·refine ⟨k, ?_⟩
   have hi : (c.rrn - 1).toNat < t.records.length := by omega
   have he : u.records = t.records.set (c.rrn - 1).toNat (qdo c) ++ List.replicate k delR := by
    rw [hr]; unfold qek; simp only [if_neg hn]
   unfold qek
   simp only
   rw [if_neg (by omega), he, List.set_append_left _ _ (by simpa using hi), List.set_set]
   congr 1
   have hx : qdo ⟨c.file, qea c.kind, c.rrn, c.after, c.before⟩ = t.records.getD (c.rrn - 1).toNat zRec := by
    by_cases k0 : c.kind = 0
    ·have hd := (h.ins k0).2.2 (by omega)
     have hg := h.right.recs (c.rrn - 1).toNat hi
     unfold qkj at hd
     unfold recR at hg
     rw [if_pos hd] at hg
     have hb : (t.records.getD (c.rrn - 1).toNat zRec).bytes = ⟨#[]⟩ := by
      split at hg
      ·cases hg
      ·rename_i q; exact Decidable.not_not.1 q
     simp only [qdo, hk2.2 k0, h.form0 k0]
     generalize t.records.getD (c.rrn - 1).toNat zRec = r at hd hb
     cases r; simp_all
    ·obtain ⟨u1, u2, u3⟩ := h.upd k0
     have hnk : ¬qea c.kind = 2 := fun e => k0 (hk2.1 e)
     unfold qkj at u2 u3
     simp only [qdo]
     generalize t.records.getD (c.rrn - 1).toNat zRec = r at u2 u3
     cases r; simp_all
   rw [hx]
   have e : t.records.getD (c.rrn - 1).toNat zRec = t.records[(c.rrn - 1).toNat]'hi := by simp only [List.getD, List.getElem?_eq_getElem hi, Option.getD_some]
   rw [e, List.set_getElem_self]
structure TabsR (l : List Table) : Prop where
 len : l.length ≤ 8
 right : ∀ i, i < l.length → RightT (l.getD i q0z)
 once : ∀ i, i < l.length → (i : Int) ≤ qbg l (l.getD i q0z).file.name
theorem qbnk {l : List Table} (h : qci l = 0) : TabsR l := by
 unfold qci at h
 split at h
 ·cases h
 cases hf : qcf (tabE l) l.length with
 | some i => rw [hf] at h; exact absurd h (qmk hf)
 | none =>
   have ha := qjo hf
   refine ⟨by omega, fun i hi => ?_, fun i hi => ?_⟩
   ·have := ha i hi
    unfold tabE at this
    split at this
    ·rename_i q; exact absurd this q
    ·rename_i q; exact q2f (Decidable.not_not.1 q)
   ·have := ha i hi
    unfold tabE at this
    split at this
    ·rename_i q; exact absurd this q
    split at this
    ·cases this
    ·omega
theorem qbnl {l : List Table} (h : TabsR l) : qci l = 0 :=
 q2d h.len (fun j hj => qxu (q2g (h.right j hj)) (h.once j hj)) (Nat.le_refl _)
def cond (s : List Table) (c : Change) : Int := if qbg s c.file < 0 then 0 else qc7 (s.getD (qbg s c.file).toNat q0z) c
def qgw (s : List Table × Int) (cs : List Change) : Prop := ∀ k, k < cs.length → cond ((cs.take k).foldl qcc s).1 (cs.getD k q08) = 0
theorem qgx {s : List Table × Int} {c : Change} {cs : List Change} : qgw s (c :: cs) ↔ cond s.1 c = 0 ∧ qgw (qcc s c) cs := by
 constructor
 ·intro h
  refine ⟨by simpa using h 0 (by simp), fun k hk => ?_⟩
  simpa using h (k + 1) (by simpa using hk)
 ·rintro ⟨h1, h2⟩ k hk
  cases k with
  | zero => simpa using h1
  | succ k => simpa using h2 k (by simpa using hk)
theorem qkv {s : List Table × Int} : qgw s [] := fun k hk => by simp at hk
theorem qgc {a b : List Change} : ∀ {s : List Table × Int}, qgw s (a ++ b) ↔ qgw s a ∧ qgw (a.foldl qcc s) b := by
 induction a with
 | nil => intro s; simp [qkv]
 | cons c a ih =>
   intro s
   rw [List.cons_append, qgx, qgx, ih, List.foldl_cons, and_assoc]
theorem qn9 {ts : List Table} {cs : List Change} : ∀ {k : Nat}, k ≤ cs.length → mTo ts cs k = (cs.take k).foldl qcc (ts, 0)
 | 0, _ => rfl
 | k + 1, h => by
   rw [mTo, qn9 (by omega), qdx q08 (by omega), List.foldl_append]
   rfl
theorem qot {ts : List Table} {cs : List Change} : (qc4 ts cs).2.2 = 0 ↔ qgw (ts, 0) cs := by
 constructor
 ·intro h k hk
  have := (q5y h).1 k hk
  unfold mErr at this
  rw [qn9 (by omega)] at this
  exact this
 ·intro h
  rw [qmx (k := cs.length) (fun j hj => ?_) rfl]
  have := h j hj
  unfold mErr
  rw [qn9 (by omega)]
  exact this
theorem qoa {ts : List Table} {cs : List Change} (h : qgw (ts, 0) cs) : qc4 ts cs = ((cs.foldl qcc (ts, 0)).1, (cs.foldl qcc (ts, 0)).2, 0) := by
 rw [(q5y (qot.2 h)).2, qn9 (Nat.le_refl _), List.take_length]
def extL (a b : List Table) : Prop := a.length = b.length ∧ ∀ i, i < a.length → extT (a.getD i q0z) (b.getD i q0z)
theorem qbbq (t : Table) : extT t t := ⟨rfl, 0, by simp⟩
theorem qbbr (l : List Table) : extL l l := ⟨rfl, fun _ _ => qbbq _⟩
theorem qbbs {a b : List Table} (h : extL a b) : a.map (·.file) = b.map (·.file) := by
 apply List.ext_getElem
 ·simpa using h.1
 ·intro i h1 h2
  have h1 : i < a.length := by simpa using h1
  have h2 : i < b.length := by simpa using h2
  have := (h.2 i h1).1
  simp only [List.getD, List.getElem?_eq_getElem h1, List.getElem?_eq_getElem h2, Option.getD_some] at this
  simpa using this.symm
theorem ql8 (l : List Table) (i : Nat) : (l.getD i q0z).file = (l.map (·.file)).getD i qv8 := by
 simp only [List.getD, List.getElem?_map]
 cases l[i]? <;> rfl
theorem qn2 (s : List Table × Int) (c : Change) : (qcc s c).1.map (·.file) = s.1.map (·.file) := by
 unfold qcc
 split
 ·rfl
 ·simp only
  rw [qzc]
theorem qq6 {s : List Table × Int} {c : Change} (h : TabsR s.1) (hc : cond s.1 c = 0) : TabsR (qcc s c).1 := by
 have hf := qn2 s c
 have hl : (qcc s c).1.length = s.1.length := by have := congrArg List.length hf; simpa using this
 refine ⟨by rw [hl]; exact h.len, fun i hi => ?_, fun i hi => ?_⟩
 ·rw [hl] at hi
  unfold qcc
  split
  ·exact h.right i hi
  ·rename_i hn
   simp only
   unfold cond at hc
   rw [if_neg hn] at hc
   rw [qiz]
   split
   ·exact q84 (qmy hc)
   ·exact h.right i hi
 ·rw [hl] at hi
  rw [qjb hf, ql8, hf, ← ql8]
  exact h.once i hi
theorem qpd {cs : List Change} : ∀ {s : List Table × Int}, TabsR s.1 → qgw s cs → TabsR (cs.foldl qcc s).1 := by
 induction cs with
 | nil => intro s h _; exact h
 | cons c cs ih =>
   intro s h hr
   have hr := qgx.1 hr
   exact ih (qq6 h hr.1) hr.2
theorem qbbt {s v : List Table × Int} {c : Change} (hk : c.kind = 0 ∨ c.kind = 1 ∨ c.kind = 2) (hc : cond s.1 c = 0) (hx : extL (qcc s c).1 v.1) (hv : TabsR v.1) :
 cond v.1 (rv c) = 0 ∧ extL s.1 (qcc v (rv c)).1 ∧ (qcc v (rv c)).2 - v.2 = (qcc s c).2 - s.2 := by
 have hfv : qbg v.1 (rv c).file = qbg s.1 c.file := by
  rw [qwk hk]
  rw [← qjb (qbbs hx), qjb (qn2 s c)]
 have hlt := qhe s.1 c.file
 unfold cond at hc ⊢
 unfold qcc at hx ⊢
 rw [hfv]
 by_cases hn : qbg s.1 c.file < 0
 ·rw [if_pos hn, if_pos hn, if_pos hn]
  rw [if_pos hn] at hx
  exact ⟨rfl, hx, by omega⟩
 ·rw [if_neg hn, if_neg hn, if_neg hn]
  rw [if_neg hn] at hx hc
  generalize hj : (qbg s.1 c.file).toNat = j at *
  simp only at hx ⊢
  obtain ⟨hl, hx⟩ := hx
  rw [List.length_set] at hl hx
  have hjl : j < s.1.length := by omega
  have hj2 := hx j hjl
  rw [qiz, if_pos ⟨rfl, hjl⟩] at hj2
  obtain ⟨u1, u2⟩ := qbnj (qmy hc) hj2 (hv.right j (by omega))
  refine ⟨q2h u1, ⟨by simpa using hl, fun i hi => ?_⟩, by omega⟩
  rw [qiz]
  by_cases e : j = i
  ·subst e
   rw [if_pos ⟨rfl, by omega⟩]
   exact u2
  ·rw [if_neg (fun q => e q.1)]
   have := hx i hi
   rw [qiz, if_neg (fun q => e q.1)] at this
   exact this
theorem qbf9 {cs : List Change} : ∀ {s u : List Table × Int}, (∀ c ∈ cs, c.kind = 0 ∨ c.kind = 1 ∨ c.kind = 2) → TabsR s.1 → qgw s cs → extL (cs.foldl qcc s).1 u.1 → TabsR u.1 →
 qgw u (cs.map rv).reverse ∧ extL s.1 ((cs.map rv).reverse.foldl qcc u).1 ∧ TabsR ((cs.map rv).reverse.foldl qcc u).1 ∧ ((cs.map rv).reverse.foldl qcc u).2 - u.2 = (cs.foldl qcc s).2 - s.2 := by
 induction cs with
 | nil => intro s u _ _ _ hx hu; exact ⟨qkv, hx, hu, by simp⟩
 | cons c cs ih =>
   intro s u hk hs hr hx hu
   have hr := qgx.1 hr
   rw [List.foldl_cons] at hx
   obtain ⟨i1, i2, i3, i4⟩ := ih (fun q hq => hk q (List.mem_cons_of_mem _ hq)) (qq6 hs hr.1) hr.2 hx hu
   obtain ⟨j1, j2, j3⟩ := qbbt (hk c (List.mem_cons_self ..)) hr.1 i2 i3
   rw [List.map_cons, List.reverse_cons, List.foldl_append, List.foldl_cons, List.foldl_nil, List.foldl_cons]
   refine ⟨qgc.2 ⟨i1, qgx.2 ⟨j1, qkv⟩⟩, j2, qq6 i3 j1, by omega⟩
theorem qbga (l : List Rec) (k : Nat) : qn1 (l ++ List.replicate k delR) = qn1 l := by
 unfold qn1
 rw [List.reverse_append, List.reverse_replicate]
 congr 1
 induction k with
 | zero => rfl
 | succ k ih =>
   rw [List.replicate_succ, List.cons_append, List.dropWhile_cons, if_pos (show delR.deleted = true from rfl)]
   exact ih
theorem qbgb {a b : Table} (h : extT a b) : qh5 b = qh5 a := by
 obtain ⟨h1, k, h2⟩ := h
 unfold qh5
 rw [h1, h2, qbga]
theorem qbbu {a b : List Table} (h : extL a b) : b.map qh5 = a.map qh5 := by
 apply List.ext_getElem
 ·simpa using h.1.symm
 ·intro i h1 h2
  have h1 : i < b.length := by simpa using h1
  have h2 : i < a.length := by simpa using h2
  have := qbgb (h.2 i h2)
  simp only [List.getD, List.getElem?_eq_getElem h1, List.getElem?_eq_getElem h2, Option.getD_some] at this
  simpa using this
theorem qbgc {f : Fmt} {b : ByteArray} (h : (qds f b).2.2 = 0) : (b.size : Int) ≤ 200 := by
 by_cases h1 : (qco f).2 = 0
 ·by_cases h2 : (b.size : Int) = qfw f
  ·have := (qwd h1).2.2.2.2.1
   rw [h2]; exact this
  ·rw [qtk h1 h2] at h; cases h
 ·rw [qtj h1] at h; exact absurd h h1
theorem qbbv {l : List Table} (h : TabsR l) : qk5 l = true := by
 refine q5w (by have := h.len; omega) (fun i hi => ?_) (Nat.le_refl _)
 have hr := h.right i hi
 have hf := qbne hr.file
 have hm := qwd hf.2.1
 refine qwi (k := (l.getD i q0z).records.length) ?_ (fun k hk => ?_) (Nat.le_refl _)
 ·unfold qjn
  have := hr.len
  omega
 ·have hg := hr.recs k hk
  apply qzb
  unfold recR at hg
  split at hg
  ·split at hg
   ·cases hg
   ·rename_i q
    rw [Decidable.not_not.1 q]; decide
  ·have := qbgc hg; omega
theorem qbbw {a b : List Table} (h : extL a b) (hb : TabsR b) : qos b a = true := by
 unfold qos
 rw [qbbv hb, qbbu h]
 simp
end Go.Ev
namespace Go.Ev
theorem qso {l : List Entry} : ∀ (n i : Nat), (∀ j, i ≤ j → j < i + n → chk l j) → (qel l n i).2 = 0
 | 0, _, _ => rfl
 | n + 1, i, h => by
   obtain ⟨c1, c2, c3⟩ := h i (Nat.le_refl _) (by omega)
   unfold qel
   rw [if_neg (fun e => e c1), if_neg c2, if_neg (fun e => e c3)]
   exact qso n (i + 1) fun j h1 h2 => h j (by omega) (by omega)
theorem qbs3 (l : List Entry) : l.map (qn0 false) = l.map (·.change) := rfl
theorem qk6 {e : Entry} (h : qde e = 0) (hk : e.kind = 0) : e.change.kind = 0 ∨ e.change.kind = 1 ∨ e.change.kind = 2 := by
 unfold qde at h
 split at h
 ·cases h
 split at h
 ·cases h
 split at h
 ·cases h
 split at h
 ·cases h
 split at h
 ·cases h
 split at h
 ·rename_i q; exact absurd hk q.1
 split at h
 ·cases h
 split at h
 ·rename_i q; omega
 unfold qjs at h
 split at h
 ·cases h
 omega
theorem q2i {l : List Entry} (h : (qbv l).2 = 0) {p : Entry → Bool} (hp : ∀ x, p x = true → x.kind = 0) : ∀ c ∈ (l.filter p).map (·.change), c.kind = 0 ∨ c.kind = 1 ∨ c.kind = 2 := by
 intro c hc
 obtain ⟨x, hx, rfl⟩ := List.mem_map.1 hc
 obtain ⟨h1, h2⟩ := List.mem_filter.1 hx
 obtain ⟨j, hj, rfl⟩ := List.getElem_of_mem h1
 have := (qg5 h hj).1
 simp only [List.getD, List.getElem?_eq_getElem hj, Option.getD_some] at this
 exact qk6 this (hp _ h2)
end Go.Ev
namespace Go.Ev
open Go.Proofs Ty
set_option maxRecDepth 10000
set_option maxHeartbeats 4000000
end Go.Ev
namespace Go.Ev
theorem qbs4 {c : Int} (h0 : 0 ≤ c) (h1 : c < 256) : loB c = c % 16 := by
 have key : ∀ k : Fin 256, loB ((k.1 : Nat) : Int) = ((k.1 : Nat) : Int) % 16 := by decide +kernel
 have := key ⟨c.toNat, by omega⟩
 simpa [Int.toNat_of_nonneg h0] using this
theorem qbbx (c : Int) : hiB c = c / 16 := by
 unfold hiB
 rw [Int.fdiv_eq_ediv_of_nonneg _ (by decide)]
 rfl
theorem qil (b : ByteArray) (i : Nat) : 0 ≤ chr b i ∧ chr b i < 256 := by
 have := q001 b i; omega
theorem qbby (b : ByteArray) (i : Nat) : loB (chr b i) = chr b i % 16 := qbs4 (qil b i).1 (qil b i).2
theorem q2j (b : ByteArray) (i : Nat) : (chr b i).tmod 16 = loB (chr b i) := by
 rw [qbby, Int.tmod_eq_emod_of_nonneg (qil b i).1]
theorem q2k (b : ByteArray) (i : Nat) : (chr b i).tdiv 16 = hiB (chr b i) := by
 rw [qbbx, Int.tdiv_eq_ediv_of_nonneg (qil b i).1]
theorem qwl (b : ByteArray) (i : Nat) : 0 ≤ loB (chr b i) ∧ loB (chr b i) ≤ 15 := by rw [qbby]; omega
theorem qwm (b : ByteArray) (i : Nat) : 0 ≤ hiB (chr b i) ∧ hiB (chr b i) ≤ 15 := by
 have := qil b i
 rw [qbbx]; omega
theorem qsp {t : DType} {b : ByteArray} (h : t.kind = 1) : ∀ {n i : Nat}, i < 2 * n → (qgp t b n).getD i 0 = if i % 2 = 1 then loB (chr b (i / 2)) else hiB (chr b (i / 2))
 | 0, i, hi => by omega
 | n + 1, i, hi => by
   have hl := qgl t b n
   rw [if_pos h] at hl
   rw [qxm h]
   simp only [List.getD]
   by_cases e : i < 2 * n
   ·rw [List.getElem?_append_left (by omega)]
    exact qsp h e
   ·rw [List.getElem?_append_right (by omega), hl]
    by_cases e2 : i = 2 * n
    ·subst e2
     rw [if_neg (by omega), show 2 * n / 2 = n by omega, Nat.sub_self]; rfl
    ·have : i = 2 * n + 1 := by omega
     subst this
     rw [if_pos (by omega), show (2 * n + 1) / 2 = n by omega, show 2 * n + 1 - 2 * n = 1 by omega]; rfl
theorem qsq {t : DType} (h : t.kind = 1) : ∀ {n i : Nat}, i < 2 * n → (qhj t n).getD i 0 = ((i / 2 : Nat) : Int)
 | 0, i, hi => by omega
 | n + 1, i, hi => by
   have hl := qiy t n
   rw [if_pos h] at hl
   rw [qxo h]
   simp only [List.getD]
   by_cases e : i < 2 * n
   ·rw [List.getElem?_append_left (by omega)]
    exact qsq h e
   ·rw [List.getElem?_append_right (by omega), hl]
    by_cases e2 : i = 2 * n
    ·subst e2
     rw [show 2 * n / 2 = n by omega, Nat.sub_self]; rfl
    ·have : i = 2 * n + 1 := by omega
     subst this
     rw [show (2 * n + 1) / 2 = n by omega, show 2 * n + 1 - 2 * n = 1 by omega]; rfl
theorem qwn {t : DType} {b : ByteArray} (h : ¬t.kind = 1) : ∀ {n i : Nat}, i < n → (qgp t b n).getD i 0 = loB (chr b i)
 | 0, i, hi => by omega
 | n + 1, i, hi => by
   have hl := qgl t b n
   rw [if_neg h] at hl
   rw [qxn h]
   simp only [List.getD]
   by_cases e : i < n
   ·rw [List.getElem?_append_left (by omega)]
    exact qwn h e
   ·have : i = n := by omega
    subst this
    rw [List.getElem?_append_right (by omega), hl, Nat.sub_self]; rfl
theorem qwo {t : DType} (h : ¬t.kind = 1) : ∀ {n i : Nat}, i < n → (qhj t n).getD i 0 = (i : Int)
 | 0, i, hi => by omega
 | n + 1, i, hi => by
   have hl := qiy t n
   rw [if_neg h] at hl
   rw [qxp h]
   simp only [List.getD]
   by_cases e : i < n
   ·rw [List.getElem?_append_left (by omega)]
    exact qwo h e
   ·have : i = n := by omega
    subst this
    rw [List.getElem?_append_right (by omega), hl, Nat.sub_self]; rfl
def qhl (t : DType) (b : ByteArray) (i : Nat) (n : Int) : Int × Int × Int :=
 qh4 t.length (qb5 t b).1 (qb5 t b).2 ((qb5 t b).1.length - 1) (((qb5 t b).1.take ((qb5 t b).1.length - 1)).drop i) i n
section
variable {t : DType} {b : ByteArray} {i : Nat} {n : Int}
theorem q85 (h : t.kind = 2) : (qb5 t b).1.length = b.size + 1 := by have := (qqv t b).1; rw [this, if_neg (by omega), if_pos h]
theorem qbbz (h : t.kind = 2) : (qb5 t b).1.take ((qb5 t b).1.length - 1) = qgp t b b.size := by
 rw [q85 h, qmu h, Nat.add_sub_cancel]
 have hl := qgl t b b.size
 rw [if_neg (by omega)] at hl
 rw [List.take_append_of_le_length (by omega), List.take_of_length_le (by omega)]
theorem qbs5 (h : t.kind = 2) : (qb5 t b).1.getD b.size 0 = hiB (chr b (b.size - 1)) := by
 have hl := qgl t b b.size
 rw [if_neg (by omega)] at hl
 rw [qmu h]
 simp only [List.getD]
 rw [List.getElem?_append_right (by omega), hl, Nat.sub_self]; rfl
theorem qbnm (h : t.kind = 2) : (qb5 t b).2.getD b.size 0 = (b.size : Int) - 1 := by
 have hl := qiy t b.size
 rw [if_neg (by omega)] at hl
 rw [qmu h]
 simp only [List.getD]
 rw [List.getElem?_append_right (by omega), hl, Nat.sub_self]; rfl
theorem z_A (h : t.kind = 2) (hi : i < b.size) : (qb5 t b).2.getD i 0 = (i : Int) := by
 have hl := qiy t b.size
 rw [if_neg (by omega)] at hl
 rw [qmu h]
 simp only [List.getD]
 rw [List.getElem?_append_left (by omega)]
 exact qwo (by omega) hi
theorem z_at (h : t.kind = 2) (hs : (b.size : Int) = t.length) (hi : i < b.size) : qhl t b i n =
 if 9 < loB (chr b i) then (0, (i : Int), 21) else qhl t b (i + 1) (IntKind.i64.wrap (IntKind.i64.wrap (n * 10) + IntKind.i64.wrap (loB (chr b i)))) := by
 have hl := qgl t b b.size
 rw [if_neg (by omega)] at hl
 unfold qhl
 rw [qbbz h, qd2 0 (by omega), qh4, qwn (by omega) hi, q85 h]
 by_cases e : 9 < loB (chr b i)
 ·rw [if_pos (.inl e), if_pos e, z_A h hi]
 ·rw [if_neg (by omega), if_neg e]
theorem qbjh (h : t.kind = 2) (hi : b.size ≤ i) : qhl t b i n = if hiB (chr b (b.size - 1)) < 10 then (0, (b.size : Int) - 1, 21) else (if hiB (chr b (b.size - 1)) = 11 ∨ hiB (chr b (b.size - 1)) = 13 then IntKind.i64.wrap (0 - n) else n, 0, 0) := by
 have hl := qgl t b b.size
 rw [if_neg (by omega)] at hl
 unfold qhl
 rw [qbbz h, List.drop_of_length_le (by omega), qh4, q85 h, show (((b.size + 1 : Nat) : Int) - 1).toNat = b.size by omega, qbs5 h, qbnm h]
theorem qz3 (h : t.kind = 1) : (qb5 t b).1.length = 2 * b.size := by have := (qqv t b).1; rw [this, if_pos h]
theorem p_at (h : t.kind = 1) (hs : (b.size : Int) = t.length / 2 + 1) (h0 : 0 ≤ t.length) (hi : i < 2 * b.size - 1) : qhl t b i n =
 if 9 < (if i % 2 = 1 then loB (chr b (i / 2)) else hiB (chr b (i / 2))) ∨ (i = 0 ∧ t.length % 2 = 0 ∧ hiB (chr b 0) ≠ 0) then (0, ((i / 2 : Nat) : Int), 21)
 else qhl t b (i + 1) (IntKind.i64.wrap (IntKind.i64.wrap (n * 10) + IntKind.i64.wrap (if i % 2 = 1 then loB (chr b (i / 2)) else hiB (chr b (i / 2))))) := by
 have hl := qgl t b b.size
 rw [if_pos h] at hl
 have hh := qwm b 0
 unfold qhl
 have hn : (qb5 t b).1 = qgp t b b.size := by rw [qoq (by omega)]
 have hA : (qb5 t b).2.getD i 0 = ((i / 2 : Nat) : Int) := by rw [qoq (by omega)]; exact qsq h (by omega)
 have hT : ((qb5 t b).1.take ((qb5 t b).1.length - 1)).getD i 0 = if i % 2 = 1 then loB (chr b (i / 2)) else hiB (chr b (i / 2)) := by
  rw [hn]
  simp only [List.getD]
  rw [List.getElem?_take_of_lt (by omega)]
  exact qsp h (by omega)
 rw [qd2 0 (by rw [List.length_take, qz3 h]; omega), qh4, hT, hA, qz3 h]
 have hc : (0 < (if i % 2 = 1 then loB (chr b (i / 2)) else hiB (chr b (i / 2))) ∧ (i : Int) < ((2 * b.size : Nat) : Int) - 1 - t.length) ↔ (i = 0 ∧ t.length % 2 = 0 ∧ hiB (chr b 0) ≠ 0) := by
  constructor
  ·rintro ⟨a, c⟩
   have hi0 : i = 0 := by omega
   subst hi0
   rw [if_neg (by decide)] at a
   refine ⟨rfl, by omega, by simp only [Nat.zero_div] at a; omega⟩
  ·rintro ⟨a, c, d⟩
   subst a
   rw [if_neg (by decide)]
   simp only [Nat.zero_div]
   omega
 by_cases e : 9 < (if i % 2 = 1 then loB (chr b (i / 2)) else hiB (chr b (i / 2))) ∨ (i = 0 ∧ t.length % 2 = 0 ∧ hiB (chr b 0) ≠ 0)
 ·rw [if_pos e, if_pos (e.imp id hc.2)]
 ·rw [if_neg e, if_neg (fun q => e (q.imp id hc.1))]
theorem qbji (h : t.kind = 1) (h0 : 0 < b.size) (hi : 2 * b.size - 1 ≤ i) : qhl t b i n = if loB (chr b (b.size - 1)) < 10 then (0, (b.size : Int) - 1, 21) else (if loB (chr b (b.size - 1)) = 11 ∨ loB (chr b (b.size - 1)) = 13 then IntKind.i64.wrap (0 - n) else n, 0, 0) := by
 have hl := qgl t b b.size
 rw [if_pos h] at hl
 unfold qhl
 have hn : (qb5 t b).1 = qgp t b b.size := by rw [qoq (by omega)]
 have hA : (qb5 t b).2.getD (2 * b.size - 1) 0 = (b.size : Int) - 1 := by rw [qoq (by omega), qsq h (by omega)]; omega
 have hL : (qb5 t b).1.getD (2 * b.size - 1) 0 = loB (chr b (b.size - 1)) := by
  rw [hn, qsp h (by omega), if_pos (by omega), show (2 * b.size - 1) / 2 = b.size - 1 by omega]
 rw [List.drop_of_length_le (by rw [List.length_take, qz3 h]; omega), qh4, qz3 h, show (((2 * b.size : Nat) : Int) - 1).toNat = 2 * b.size - 1 by omega, hA, hL]
end
theorem qtn {n c : Int} (hn : -36028797018963968 ≤ n) (hn2 : n < 36028797018963968) (h0 : 0 ≤ c) (h1 : c < 256) : ior .i64 (IntKind.i64.wrap (n * 2 ^ 8)) c = n * 256 + c := by
 rw [show n * 2 ^ 8 = n * 256 from rfl, w64 (by omega) (by omega)]
 unfold ior
 have key : ((BitVec.ofInt IntKind.i64.bits (n * 256) ||| BitVec.ofInt IntKind.i64.bits c).toNat : Int) = (n * 256 + c) % 2 ^ 64 := by
  rw [BitVec.toNat_or, BitVec.toNat_ofInt, BitVec.toNat_ofInt]
  show (((((n * 256) % (2 ^ 64 : Nat)).toNat ||| ((c % (2 ^ 64 : Nat)).toNat)) : Nat) : Int) = _
  have ha : ((n * 256) % ((2 ^ 64 : Nat) : Int)).toNat = 2 ^ 8 * (n % 2 ^ 56).toNat := by
   rw [show ((2 ^ 64 : Nat) : Int) = 18446744073709551616 from rfl, show (2 : Int) ^ 56 = 72057594037927936 from rfl, show (2 : Nat) ^ 8 = 256 from rfl]
   omega
  have hc : (c % ((2 ^ 64 : Nat) : Int)).toNat = c.toNat := by rw [show ((2 ^ 64 : Nat) : Int) = 18446744073709551616 from rfl]; omega
  rw [ha, hc, ← Nat.two_pow_add_eq_or_of_lt (by omega)]
  rw [show (2 : Int) ^ 64 = 18446744073709551616 from rfl, show (2 : Int) ^ 56 = 72057594037927936 from rfl, show (2 : Nat) ^ 8 = 256 from rfl]
  omega
 rw [key]
 rw [show (2 : Int) ^ 64 = 18446744073709551616 from rfl]
 have e : (n * 256 + c) % 18446744073709551616 = n * 256 + c ∨ (n * 256 + c) % 18446744073709551616 = n * 256 + c + 18446744073709551616 := by omega
 unfold IntKind.wrap
 simp only [IntKind.bits, IntKind.signed, Bool.true_and]
 split <;> rename_i h <;> simp only [decide_eq_true_eq, ge_iff_le] at h <;> omega
theorem qbjj {c : Int} (h0 : 0 ≤ c) (h1 : c < 256) : IntKind.i8.wrap c = if 128 ≤ c then c - 256 else c := by
 unfold IntKind.wrap
 simp only [IntKind.bits, IntKind.signed, Bool.true_and]
 split <;> split <;> rename_i h h2 <;> simp only [decide_eq_true_eq, ge_iff_le] at h <;> omega
def qfi (b : ByteArray) (a : Nat) : Nat → Int
 | 0 => 0
 | i + 1 => IntKind.i64.wrap (IntKind.i64.wrap (qfi b a i * 256) + chr b (a + i))
theorem qq7 (b : ByteArray) (a : Nat) : ∀ {i : Nat}, i ≤ 6 → 0 ≤ qfi b a i ∧ qfi b a i < 256 ^ i
 | 0, _ => by simp [qfi]
 | i + 1, h => by
   have ih := qq7 b a (i := i) (by omega)
   have hc := qil b (a + i)
   have h6 : (256 : Int) ^ i ≤ 256 ^ 5 := by
    have := Int.ofNat_le.2 (Nat.pow_le_pow_right (show 256 > 0 by decide) (show i ≤ 5 by omega))
    rw [Int.natCast_pow, Int.natCast_pow] at this
    exact this
   have e5 : (256 : Int) ^ 5 = 1099511627776 := rfl
   have es : (256 : Int) ^ (i + 1) = 256 ^ i * 256 := Int.pow_succ _ _
   rw [e5] at h6
   simp only [qfi]
   rw [w64 (n := qfi b a i * 256) (by omega) (by omega), w64 (by omega) (by omega), es]
   omega
theorem qk7 (b : ByteArray) (a : Nat) {i : Nat} (h : i ≤ 5) : qfi b a (i + 1) = qfi b a i * 256 + chr b (a + i) := by
 have ih := qq7 b a (i := i) (by omega)
 have hc := qil b (a + i)
 have h6 : (256 : Int) ^ i ≤ 256 ^ 5 := by
  have := Int.ofNat_le.2 (Nat.pow_le_pow_right (show 256 > 0 by decide) (show i ≤ 5 by omega))
  rw [Int.natCast_pow, Int.natCast_pow] at this
  exact this
 have e5 : (256 : Int) ^ 5 = 1099511627776 := rfl
 rw [e5] at h6
 simp only [qfi]
 rw [w64 (n := qfi b a i * 256) (by omega) (by omega), w64 (by omega) (by omega)]
theorem qbzc {b : ByteArray} (h : b.size = 2) : binN b = (if 128 ≤ chr b 0 then qfi b 0 2 - 65536 else qfi b 0 2) ∧ -32768 ≤ binN b ∧ binN b ≤ 32767 := by
 have c0 := qil b 0
 have c1 := qil b 1
 rw [← qse b 1 (by omega), qmi b 0 (by omega)]
 simp only [Nat.reduceAdd]
 have e : qny b 0 = IntKind.i8.wrap (chr b 0) := rfl
 rw [e, qbjj c0.1 c0.2, qtn (by split <;> omega) (by split <;> omega) c1.1 c1.2, qk7 b 0 (by omega), qk7 b 0 (by omega)]
 simp only [qfi, Nat.zero_add, Nat.reduceAdd]
 split <;> omega
theorem qbzd {b : ByteArray} (h : b.size = 4) : binN b = (if 128 ≤ chr b 0 then qfi b 0 4 - 4294967296 else qfi b 0 4) ∧ -2147483648 ≤ binN b ∧ binN b ≤ 2147483647 := by
 have c0 := qil b 0
 have c1 := qil b 1
 have c2 := qil b 2
 have c3 := qil b 3
 rw [← qse b 3 (by omega), qmi b 2 (by omega), qmi b 1 (by omega), qmi b 0 (by omega)]
 simp only [Nat.reduceAdd]
 have e : qny b 0 = IntKind.i8.wrap (chr b 0) := rfl
 rw [e, qbjj c0.1 c0.2, qtn (n := if 128 ≤ chr b 0 then chr b 0 - 256 else chr b 0) (by split <;> omega) (by split <;> omega) c1.1 c1.2]
 rw [qtn (n := (if 128 ≤ chr b 0 then chr b 0 - 256 else chr b 0) * 256 + chr b 1) (by split <;> omega) (by split <;> omega) c2.1 c2.2]
 rw [qtn (by split <;> omega) (by split <;> omega) c3.1 c3.2]
 rw [qk7 b 0 (by omega), qk7 b 0 (by omega), qk7 b 0 (by omega), qk7 b 0 (by omega)]
 simp only [qfi, Nat.zero_add, Nat.reduceAdd]
 split <;> omega
theorem qxv (b : ByteArray) (i : Nat) : IntKind.i64.wrap (hiB (chr b i)) = hiB (chr b i) := w64 (by have := qwm b i; omega) (by have := qwm b i; omega)
theorem qto (b : ByteArray) (i : Nat) : IntKind.i64.wrap (loB (chr b i)) = loB (chr b i) := w64 (by have := qwl b i; omega) (by have := qwl b i; omega)
theorem quw (b : ByteArray) (i : Nat) : IntKind.u8.wrap (loB (chr b i)) = loB (chr b i) := wu8 (by have := qwl b i; omega) (by have := qwl b i; omega)
theorem qwp (b : ByteArray) (i : Nat) : IntKind.i64.wrap (chr b i) = chr b i := w64 (by have := qil b i; omega) (by have := qil b i; omega)
def zT (s : ByteArray) : DType := ⟨2, s.size, 0⟩
def qkb (s : ByteArray) : Val × Int × Int := (⟨(decN (zT s) s).1, ⟨#[]⟩⟩, (decN (zT s) s).2.1, (decN (zT s) s).2.2)
section
variable {s : ByteArray} {i : Nat} {n : Int}
theorem qbb0 (h : qhl (zT s) s i n = decN (zT s) s) (hi : i < s.size) (h1 : 9 < loB (chr s i) ∨ (i = s.size - 1 ∧ hiB (chr s i) < 10)) : qkb s = (zVal, (i : Int), 21) := by
 have e : decN (zT s) s = (0, (i : Int), 21) := by
  rw [← h, z_at rfl rfl hi]
  by_cases e : 9 < loB (chr s i)
  ·rw [if_pos e]
  ·have h1 := h1.resolve_left e
   rw [if_neg e, qbjh rfl (by omega), ← h1.1, if_pos h1.2]
   congr 2
   omega
 unfold qkb; rw [e]; rfl
theorem qbnn (h : qhl (zT s) s i n = decN (zT s) s) (hi : i < s.size) (h1 : ¬9 < loB (chr s i)) : qhl (zT s) s (i + 1) (IntKind.i64.wrap (IntKind.i64.wrap (10 * n) + loB (chr s i))) = decN (zT s) s := by
 rw [z_at rfl rfl hi, if_neg h1, qto, Int.mul_comm] at h
 exact h
theorem q2l (h : qhl (zT s) s i n = decN (zT s) s) (hi : s.size ≤ i) (h1 : ¬hiB (chr s (s.size - 1)) < 10) : qkb s = (⟨if hiB (chr s (s.size - 1)) = 11 ∨ hiB (chr s (s.size - 1)) = 13 then IntKind.i64.wrap (-n) else n, ⟨#[]⟩⟩, 0, 0) := by
 rw [qbjh rfl hi, if_neg h1, Int.zero_sub] at h
 unfold qkb; rw [← h]
end
def qjp (t : DType) (s : ByteArray) : Val × Int × Int := (⟨(decN t s).1, ⟨#[]⟩⟩, (decN t s).2.1, (decN t s).2.2)
def qfk (s : ByteArray) (i : Nat) : Int := if i % 2 = 1 then loB (chr s (i / 2)) else hiB (chr s (i / 2))
theorem q5z (s : ByteArray) (i : Nat) : 0 ≤ qfk s i ∧ qfk s i ≤ 15 := by
 unfold qfk
 split
 ·exact qwl _ _
 ·exact qwm _ _
section
variable {t : DType} {s : ByteArray} {i : Nat} {n : Int}
theorem qbb1 (hk : t.kind = 1) (hs : (s.size : Int) = t.length / 2 + 1) (h0 : 0 ≤ t.length) (h : qhl t s i n = decN t s) (hi : i < 2 * s.size) (h1 : (i ≠ 2 * s.size - 1 ∧ 9 < qfk s i) ∨ (i = 2 * s.size - 1 ∧ qfk s i < 10) ∨ (i = 0 ∧ t.length % 2 = 0 ∧ qfk s i ≠ 0)) : qjp t s = (zVal, ((i / 2 : Nat) : Int), 21) := by
 have e : decN t s = (0, ((i / 2 : Nat) : Int), 21) := by
  rw [← h]
  by_cases e : i = 2 * s.size - 1
  ·have hb : qfk s i < 10 := by
    rcases h1 with a | a | a
    ·exact absurd e a.1
    ·exact a.2
    ·omega
   unfold qfk at hb
   rw [if_pos (by omega), show i / 2 = s.size - 1 by omega] at hb
   rw [qbji hk (by omega) (by omega), if_pos hb]
   congr 2
   omega
  ·rw [p_at hk hs h0 (by omega), if_pos]
   rcases h1 with a | a | a
   ·exact .inl a.2
   ·exact absurd a.1 e
   ·refine .inr ⟨a.1, a.2.1, ?_⟩
    have := a.2.2
    rw [a.1] at this
    exact this
 unfold qjp; rw [e]; rfl
theorem qbno (hk : t.kind = 1) (hs : (s.size : Int) = t.length / 2 + 1) (h0 : 0 ≤ t.length) (h : qhl t s i n = decN t s) (hi : i < 2 * s.size - 1) (h1 : ¬9 < qfk s i) (h2 : ¬(i = 0 ∧ t.length % 2 = 0 ∧ qfk s i ≠ 0)) : qhl t s (i + 1) (IntKind.i64.wrap (IntKind.i64.wrap (10 * n) + qfk s i)) = decN t s := by
 have hl := q5z s i
 rw [p_at hk hs h0 hi, if_neg] at h
 ·rw [Int.mul_comm 10, ← h]
  show _ = qhl t s (i + 1) (IntKind.i64.wrap (IntKind.i64.wrap (n * 10) + IntKind.i64.wrap (qfk s i)))
  rw [w64 (n := qfk s i) (by omega) (by omega)]
 ·rintro (a | a)
  ·exact h1 a
  ·refine h2 ⟨a.1, a.2.1, ?_⟩
   rw [a.1]; exact a.2.2
theorem qbs6 (hk : t.kind = 1) (h : qhl t s i n = decN t s) (hi : i = 2 * s.size - 1) (h0 : 0 < s.size) (h1 : ¬qfk s i < 10) : decN t s = (if qfk s i = 11 ∨ qfk s i = 13 then IntKind.i64.wrap (-n) else n, 0, 0) := by
 have e : qfk s i = loB (chr s (s.size - 1)) := by
  unfold qfk; rw [if_pos (by omega), show i / 2 = s.size - 1 by omega]
 rw [e] at h1 ⊢
 rw [qbji hk h0 (by omega), if_neg h1, Int.zero_sub] at h
 exact h.symm
end
section
variable {t : DType} {s : ByteArray} {n : Int}
theorem qbnp (h : ¬qbs t = 0) : qd9 t s = (zVal, 0, qbs t) := by unfold qd9; rw [if_pos h]
theorem qbs7 (h0 : qbs t = 0) (h : t.kind = 4) : qd9 t s = (zVal, 0, 17) := by unfold qd9; rw [if_neg (fun e => e h0), if_pos h]
theorem qbs8 (h0 : qbs t = 0) (h : ¬t.kind = 4) (h2 : ¬(s.size : Int) = qfh t) : qd9 t s = (zVal, 0, 18) := by unfold qd9; rw [if_neg (fun e => e h0), if_neg h, if_pos h2]
theorem qbs9 (h0 : qbs t = 0) (h2 : (s.size : Int) = qfh t) (k : t.kind = 0) : qd9 t s = (⟨0, s⟩, 0, 0) := by unfold qd9; rw [if_neg (fun e => e h0), if_neg (by omega), if_neg (fun e => e h2), if_pos k]
theorem qwq {t t' : DType} (h : t.kind = t'.kind) (b : ByteArray) : ∀ i, qgp t b i = qgp t' b i
 | 0 => rfl
 | i + 1 => by simp only [qgp, qwq h b i, h]
theorem qwr {t t' : DType} (h : t.kind = t'.kind) : ∀ i, qhj t i = qhj t' i
 | 0 => rfl
 | i + 1 => by simp only [qhj, qwr h i, h]
theorem q41 {t t' : DType} (h : t.kind = t'.kind) (b : ByteArray) : qb5 t b = qb5 t' b := by
 unfold qb5; simp only [qwq h, qwr h, h]
theorem qbgd (h0 : qbs t = 0) (h2 : (s.size : Int) = qfh t) (k : t.kind = 2) : qd9 t s = qkb s := by
 have hl : t.length = s.size := by rw [h2]; unfold qfh; rw [if_neg (by omega), if_neg (by omega), if_neg (by omega)]
 have e : decN t s = decN (zT s) s := by
  unfold decN
  rw [q41 (t := t) (t' := zT s) k, hl]
  rfl
 unfold qd9 qkb
 rw [if_neg (fun e => e h0), if_neg (by omega), if_neg (fun e => e h2), if_neg (by omega), if_neg (by omega), e]
theorem qbb2 (h0 : qbs t = 0) (h2 : (s.size : Int) = qfh t) (k : t.kind = 1) : qd9 t s = qjp t s := by
 unfold qd9 qjp
 rw [if_neg (fun e => e h0), if_neg (by omega), if_neg (fun e => e h2), if_neg (by omega), if_neg (by omega)]
theorem qws (h0 : qbs t = 0) (h2 : (s.size : Int) = qfh t) (k : t.kind = 3) (hn : binN s = n) (h : -(p10 t.length - 1) ≤ n ∧ n ≤ p10 t.length - 1) : qd9 t s = (⟨n, ⟨#[]⟩⟩, 0, 0) := by
 have hv : qj2 t ⟨binN s, ⟨#[]⟩⟩ = 0 := by
  unfold qj2
  rw [if_neg (fun e => e h0), if_neg (by omega), if_neg (by omega), if_neg (fun e => e rfl), hn, if_neg (fun e => e h)]
 unfold qd9
 rw [if_neg (fun e => e h0), if_neg (by omega), if_neg (fun e => e h2), if_neg (by omega), if_pos k, if_neg (fun e => e hv), hn]
theorem qbnq (h0 : qbs t = 0) (h2 : (s.size : Int) = qfh t) (k : t.kind = 3) (hn : binN s = n) (h : ¬(-(p10 t.length - 1) ≤ n ∧ n ≤ p10 t.length - 1)) : qd9 t s = (zVal, 0, 19) := by
 have hv : qj2 t ⟨binN s, ⟨#[]⟩⟩ = 19 := by
  unfold qj2
  rw [if_neg (fun e => e h0), if_neg (by omega), if_neg (by omega), if_neg (fun e => e rfl), hn, if_pos h]
 unfold qd9
 rw [if_neg (fun e => e h0), if_neg (by omega), if_neg (fun e => e h2), if_neg (by omega), if_pos k, hv, if_pos (by decide)]
end
theorem qbze : IntKind.i64.wrap (1 * 2 ^ min (8 * ((2 : Nat) : Int)).toNat 64) = 65536 := by decide +kernel
theorem qbzf : IntKind.i64.wrap (1 * 2 ^ min (8 * ((4 : Nat) : Int)).toNat 64) = 4294967296 := by decide +kernel
theorem qbjk (s : ByteArray) : 0 ≤ qfi s 0 2 ∧ qfi s 0 2 < 65536 := qq7 s 0 (by decide)
theorem qbjl (s : ByteArray) : 0 ≤ qfi s 0 4 ∧ qfi s 0 4 < 4294967296 := qq7 s 0 (by decide)
theorem qbta (s : ByteArray) : IntKind.i64.wrap (qfi s 0 2 - 65536) = qfi s 0 2 - 65536 := w64 (by have := qbjk s; omega) (by have := qbjk s; omega)
theorem qbtb (s : ByteArray) : IntKind.i64.wrap (qfi s 0 4 - 4294967296) = qfi s 0 4 - 4294967296 := w64 (by have := qbjl s; omega) (by have := qbjl s; omega)
theorem qbtc (n : Int) : IntKind.i64.wrap (0 - (p10 n - 1)) = -(p10 n - 1) := by
 have := qwc n
 rw [w64 (by omega) (by omega)]; omega
end Go.Ev
namespace Go.Ev
def idxI (l : List Field) (name : ByteArray) : Int := match idxF l name with
 | some i => i
 | none => -1
section
variable {l : List Field} {name : ByteArray} {i : Nat}
theorem qbge (h : idxF (l.take i) name = none) (hi : i < l.length) (e : (l.getD i q03).name = name) : idxF l name = some i := by
 unfold idxF at h ⊢
 rw [← List.take_append_drop i l, List.findIdx?_append, h, qd2 q03 hi, List.findIdx?_cons]
 have hl : (l.take i).length = i := by rw [List.length_take]; omega
 have e' : decide ((l.getD i q03).name = name) = true := by simpa using e
 rw [e', hl, if_pos rfl]
 simp
theorem q2m (h : idxF (l.take i) name = none) (hi : i < l.length) (e : (l.getD i q03).name = name) : idxI l name = i := by
 unfold idxI; rw [qbge h hi e]
theorem qbnr (h : idxF (l.take i) name = none) (hi : l.length ≤ i) : idxI l name = -1 := by
 rw [List.take_of_length_le hi] at h
 unfold idxI; rw [h]
theorem qbns {j : Nat} (h : idxF l name = some j) : j < l.length := by
 unfold idxF at h
 rw [List.findIdx?_eq_some_iff_getElem] at h
 exact h.1
theorem qbjm (l : List Field) (name : ByteArray) : (atF l name).2.2 = (idxF l name).isSome := by
 unfold atF; split <;> simp_all
theorem q2n (hi : i < l.length) : idxI l (l.getD i q03).name < i ↔ (atF (l.take i) (l.getD i q03).name).2.2 = true := by
 rw [qbjm]
 cases h : idxF (l.take i) (l.getD i q03).name with
 | none => rw [q2m h hi rfl]; simp
 | some j =>
   have hj := qbns h
   rw [List.length_take] at hj
   have e : idxF l (l.getD i q03).name = some j := by
    generalize (l.getD i q03).name = nm at h
    unfold idxF at h ⊢
    rw [← List.take_append_drop i l, List.findIdx?_append, h]
    rfl
   unfold idxI
   rw [e]
   simp
   omega
theorem qsr : idxI l name = -1 ↔ (atF l name).2.2 = false := by
 rw [qbjm]
 unfold idxI
 cases h : idxF l name with
 | none => simp
 | some j => simp
theorem q50 (h : qcn (l.getD i q03).name = false) : qe3 l i = 7 := by unfold qe3; rw [if_pos h]
theorem qbb3 (hi : i < l.length) (h : ¬qcn (l.getD i q03).name = false) (h2 : idxI l (l.getD i q03).name < i) : qe3 l i = 13 := by
 unfold qe3; rw [if_neg h, if_pos ((q2n hi).1 h2)]
theorem qxw (hi : i < l.length) (h : ¬qcn (l.getD i q03).name = false) (h2 : (i : Int) ≤ idxI l (l.getD i q03).name) : qe3 l i = if qbs (l.getD i q03).type_ ≠ 0 then qbs (l.getD i q03).type_ else if (l.getD i q03).type_.kind = 4 then 17 else 0 := by
 have : ¬(atF (l.take i) (l.getD i q03).name).2.2 = true := fun e => by have := (q2n hi).2 e; omega
 unfold qe3; rw [if_neg h, if_neg this]
theorem q51 (hi : i < l.length) (h : ¬qcn (l.getD i q03).name = false) (h2 : (i : Int) ≤ idxI l (l.getD i q03).name) (h3 : ¬qbs (l.getD i q03).type_ = 0) : qe3 l i = qbs (l.getD i q03).type_ := by
 rw [qxw hi h h2, if_pos h3]
theorem qbb4 (hi : i < l.length) (h : ¬qcn (l.getD i q03).name = false) (h2 : (i : Int) ≤ idxI l (l.getD i q03).name) (h3 : qbs (l.getD i q03).type_ = 0) (h4 : (l.getD i q03).type_.kind = 4) : qe3 l i = 17 := by
 rw [qxw hi h h2, if_neg (fun e => e h3), if_pos h4]
theorem qbzg (hi : i < l.length) (h : ¬qcn (l.getD i q03).name = false) (h2 : (i : Int) ≤ idxI l (l.getD i q03).name) (h3 : qbs (l.getD i q03).type_ = 0) (h4 : ¬(l.getD i q03).type_.kind = 4) : qe3 l i = 0 := by
 rw [qxw hi h h2, if_neg (fun e => e h3), if_neg h4]
def qhs (l : List Field) : Int × Int := if l.length = 0 then (0, 1) else if 20 < l.length then (0, 2) else match qcf (qe3 l) l.length with
 | some i => (i, qe3 l i)
 | none => (0, if 200 < qct l l.length then 18 else 0)
theorem qbgf {f : Fmt} (h : qcn f.name = false) : qco f = (0, 7) := by unfold qco; rw [if_pos h]
theorem q86 {f : Fmt} (h : ¬qcn f.name = false) : qco f = qhs f.fields := by unfold qco qhs; rw [if_neg h]; rfl
theorem qbgg (h : (l.length : Int) = 0) : qhs l = (0, 1) := by unfold qhs; rw [if_pos (by omega)]
theorem qbb5 (h : 20 < (l.length : Int)) : qhs l = (0, 2) := by unfold qhs; rw [if_neg (by omega), if_pos (by omega)]
theorem qn3 (h0 : 1 ≤ l.length ∧ l.length ≤ 20) (h : ∀ j, j < i → qe3 l j = 0) (hi : i < l.length) (hg : ¬qe3 l i = 0) : qhs l = ((i : Int), qe3 l i) := by
 unfold qhs; rw [if_neg (by omega), if_neg (by omega), qeu h hi hg]
theorem qn4 (h0 : 1 ≤ l.length ∧ l.length ≤ 20) (h : ∀ j, j < i → qe3 l j = 0) (hi : l.length ≤ i) : qhs l = (0, if 200 < qct l l.length then 18 else 0) := by
 unfold qhs; rw [if_neg (by omega), if_neg (by omega), qev fun j hj => h j (by omega)]
theorem qbgh (h : ∀ j, j < i → qe3 l j = 0) (hi : l.length ≤ i) : ∀ j, j < l.length → qbs (l.getD j q03).type_ = 0 := fun j hj => (qy0 (h j (by omega))).1
theorem qzf {f : Fmt} (h : (qco f).2 = 0) : ∀ j, j < f.fields.length → qbs (f.fields.getD j q03).type_ = 0 := fun j hj => (qy0 ((qwd h).2.2.2.1 j hj)).1
theorem q2o (h : ∀ j, j < l.length → qbs (l.getD j q03).type_ = 0) (hi : i < l.length) : qct l (i + 1) = qct l i + qfh (l.getD i q03).type_ := by
 simp only [qct, qgb, if_pos (h i hi)]
end
section
variable {f : File} {i k : Nat}
def qlp (f : File) : Int × Int := if 4 < f.keys.length then (0, 2) else match qcf (keyE f) f.keys.length with
 | some i => (i, keyE f i)
 | none => (0, 0)
theorem qbb6 (h : qcn f.name = false) : qcs f = (0, 7) := by unfold qcs; rw [if_pos h]
theorem qbgi (h : ¬qcn f.name = false) (h2 : ¬(qco f.format).2 = 0) : qcs f = (0, (qco f.format).2) := by unfold qcs; rw [if_neg h, if_pos h2]
theorem qbb7 (h : ¬qcn f.name = false) (h2 : (qco f.format).2 = 0) : qcs f = qlp f := by unfold qcs qlp; rw [if_neg h, if_neg (fun e => e h2)]; rfl
theorem qbtd (h : 4 < (f.keys.length : Int)) : qlp f = (0, 2) := by unfold qlp; rw [if_pos (by omega)]
theorem q2p (h0 : f.keys.length ≤ 4) (h : ∀ j, j < i → keyE f j = 0) (hi : i < f.keys.length) (hg : ¬keyE f i = 0) : qlp f = ((i : Int), keyE f i) := by
 unfold qlp; rw [if_neg (by omega), qeu h hi hg]
theorem qbgj (h0 : f.keys.length ≤ 4) (h : ∀ j, j < i → keyE f j = 0) (hi : f.keys.length ≤ i) : qlp f = (0, 0) := by
 unfold qlp; rw [if_neg (by omega), qev fun j hj => h j (by omega)]
theorem q52 (h : idxI f.format.fields (f.keys.getD i qec).name = -1) : keyE f i = 11 := by unfold keyE; rw [if_pos (qsr.1 h)]
theorem qbb8 (h : ¬idxI f.format.fields (f.keys.getD i qec).name = -1) (hk : k < i) (hi : i < f.keys.length) (e : (f.keys.getD k qec).name = (f.keys.getD i qec).name) : keyE f i = 13 := by
 have h1 : (f.keys.take i).any (fun k => decide (k.name = (f.keys.getD i qec).name)) = true := by
  rw [List.any_eq_true]
  refine ⟨f.keys.getD k qec, ?_, by simpa using e⟩
  have : f.keys.getD k qec = (f.keys.take i)[k]'(by rw [List.length_take]; omega) := by
   simp [List.getD, List.getElem?_eq_getElem (show k < f.keys.length by omega)]
  rw [this]
  exact List.getElem_mem _
 unfold keyE
 rw [if_neg (fun q => h (qsr.2 q)), if_pos h1]
def qqa (f : File) (i k : Nat) : Int := if (f.keys.getD k qec).name = (f.keys.getD i qec).name then 1 else 0
theorem qbzh (h : ¬(f.keys.getD k qec).name = (f.keys.getD i qec).name) : qqa f i k = 0 := by unfold qqa; rw [if_neg h]
theorem qbzi (h : ¬idxI f.format.fields (f.keys.getD i qec).name = -1) (hk : ∀ j, j < k → qqa f i j = 0) (hi : i ≤ k) : keyE f i = 0 := by
 have h1 : ¬(f.keys.take i).any (fun k => decide (k.name = (f.keys.getD i qec).name)) = true := by
  rw [List.any_eq_true]
  rintro ⟨x, hx, e⟩
  obtain ⟨j, hj, rfl⟩ := List.getElem_of_mem hx
  rw [List.length_take] at hj
  have := hk j (by omega)
  unfold qqa at this
  have ej : f.keys.getD j qec = (f.keys.take i)[j]'(by rw [List.length_take]; omega) := by
   simp [List.getD, List.getElem?_eq_getElem (show j < f.keys.length by omega)]
  rw [if_pos (by rw [ej]; simpa using e)] at this
  cases this
 unfold keyE
 rw [if_neg (fun q => h (qsr.2 q)), if_neg h1]
end
theorem qbgk {f : Fmt} {b : ByteArray} {i : Nat} (h : qbs (f.fields.getD i q03).type_ = 0) : b.extract (qct f.fields i).toNat (qct f.fields i + qfh (f.fields.getD i q03).type_).toNat = qqw f b i := by
 unfold qqw
 simp only [qct, qgb, if_pos h]
theorem qbgl {f : Fmt} {b : ByteArray} {i : Nat} (hs : (b.size : Int) = qfw f) (hi : i < f.fields.length) (h : qbs (f.fields.getD i q03).type_ = 0) : 0 ≤ qct f.fields i ∧ qct f.fields i + qfh (f.fields.getD i q03).type_ ≤ (b.size : Int) := by
 have h1 := qti hs hi
 unfold qgb at h1
 rw [if_pos h] at h1
 exact ⟨(qhd f.fields i).1, h1⟩
theorem qbgm {f : Fmt} {b : ByteArray} {i : Nat} (h0 : (qco f).2 = 0) (hs : (b.size : Int) = qfw f) (h : ∀ j, j < i → qlo f b j = 0) (hi : i < f.fields.length) (hg : ¬qlo f b i = 0) : qds f b = ([], (i : Int), qlo f b i) := by
 rw [qtl h0 hs, qxr h hi hg]
theorem qbgn {f : Fmt} {b : ByteArray} {i : Nat} (h0 : (qco f).2 = 0) (hs : (b.size : Int) = qfw f) (h : ∀ j, j < i → qlo f b j = 0) (hi : f.fields.length ≤ i) : qds f b = (qlh f b f.fields.length, 0, 0) := by
 rw [qtl h0 hs, qxs h hi]
theorem qbgo {t : Table} (h : ¬(qcs t.file).2 = 0) : qbd t = (0, (qcs t.file).2) := by unfold qbd; rw [if_pos h]
theorem qbte {t : Table} (h : (qcs t.file).2 = 0) (h2 : 60 < (t.records.length : Int)) : qbd t = (0, 2) := by unfold qbd; rw [if_neg (fun e => e h), if_pos (by omega)]
def qgo (t : Table) (n : Int) : Bool := decide (1 ≤ n) && decide (n ≤ (t.records.length : Int)) && !(t.records.getD (n - 1).toNat zRec).deleted
theorem qkw (t : Table) (c : Change) : qc7 t c =
 if ¬(qbd t).2 = 0 then (qbd t).2 else if ¬c.file = t.file.name then 11 else if ¬(0 ≤ c.kind ∧ c.kind ≤ 2) then 4
 else if ¬(1 ≤ c.rrn ∧ c.rrn ≤ (t.records.length : Int) + if c.kind = 0 then 1 else 0) then 3
 else if (c.kind = 0 ∧ ¬c.before = ⟨#[]⟩) ∨ (c.kind = 2 ∧ ¬c.after = ⟨#[]⟩) then 5
 else if c.kind = 0 ∧ qgo t c.rrn = true then 12 else if c.kind = 0 ∧ 60 < c.rrn then 30
 else if ¬c.kind = 0 ∧ qgo t c.rrn = false then 11
 else if ¬c.kind = 0 ∧ ¬(t.records.getD (c.rrn - 1).toNat zRec).bytes = c.before then 15
 else if c.kind = 2 then 0 else (qds t.file.format c.after).2.2 := by
 have hff : qg3 c = false ↔ ¬((c.kind = 0 ∧ ¬c.before = ⟨#[]⟩) ∨ (c.kind = 2 ∧ ¬c.after = ⟨#[]⟩)) := by
  simp only [qg3, Bool.or_eq_false_iff, Bool.and_eq_false_iff]
  simp
  grind
 have h0 : qg9 t c = if ¬(qbd t).2 = 0 then (qbd t).2 else if ¬c.file = t.file.name then 11 else if ¬(0 ≤ c.kind ∧ c.kind ≤ 2) then 4
  else if ¬(1 ≤ c.rrn ∧ c.rrn ≤ (t.records.length : Int) + if c.kind = 0 then 1 else 0) then 3
  else if (c.kind = 0 ∧ ¬c.before = ⟨#[]⟩) ∨ (c.kind = 2 ∧ ¬c.after = ⟨#[]⟩) then 5 else 0 := by
  unfold qg9 qli
  by_cases a : (qbd t).2 = 0
  ·by_cases b : c.file = t.file.name
   ·by_cases d : 0 ≤ c.kind ∧ c.kind ≤ 2
    ·have d1 : ¬(c.kind < 0 ∨ 3 ≤ c.kind) := by omega
     have e1 : (c.rrn < 1 ∨ (if c.kind = 0 then (t.records.length : Int) + 1 else (t.records.length : Int)) < c.rrn) ↔ ¬(1 ≤ c.rrn ∧ c.rrn ≤ (t.records.length : Int) + if c.kind = 0 then 1 else 0) := by
      split <;> omega
     simp only [ne_eq, a, b, d, d1, e1, true_and, not_true, if_false]
     by_cases g : (c.kind = 0 ∧ ¬c.before = ⟨#[]⟩) ∨ (c.kind = 2 ∧ ¬c.after = ⟨#[]⟩)
     ·have g1 : qg3 c = true := by cases q : qg3 c with | true => rfl | false => exact absurd g (hff.1 q)
      simp only [g, g1, if_true]
     ·have g1 : qg3 c = false := hff.2 g
      simp only [g, g1, if_false, Bool.false_eq_true]
    ·have d1 : c.kind < 0 ∨ 3 ≤ c.kind := by omega
     simp only [ne_eq, a, b, d, d1, not_true, not_false_iff, if_false, if_true]
   ·simp only [ne_eq, a, b, not_true, not_false_iff, if_false, if_true]
  ·simp only [ne_eq, a, not_false_iff, if_true]
 by_cases a : (qbd t).2 = 0
 ·rw [if_neg (fun e => e a)] at h0 ⊢
  by_cases b : c.file = t.file.name
  ·rw [if_neg (fun e => e b)] at h0 ⊢
   by_cases d : 0 ≤ c.kind ∧ c.kind ≤ 2
   ·rw [if_neg (fun e => e d)] at h0 ⊢
    by_cases e : 1 ≤ c.rrn ∧ c.rrn ≤ (t.records.length : Int) + if c.kind = 0 then 1 else 0
    ·rw [if_neg (fun q => q e)] at h0 ⊢
     by_cases g : (c.kind = 0 ∧ ¬c.before = ⟨#[]⟩) ∨ (c.kind = 2 ∧ ¬c.after = ⟨#[]⟩)
     ·rw [if_pos g] at h0 ⊢
      rw [qkg (by rw [h0]; decide), h0]
     ·rw [if_neg g] at h0 ⊢
      have hth : qgo t c.rrn = !qho t c := by
       unfold qgo qho qkj
       by_cases q : c.rrn = (t.records.length : Int) + 1
       ·have q2 : ¬c.rrn ≤ (t.records.length : Int) := by omega
        rw [show decide (c.rrn ≤ (t.records.length : Int)) = false by simpa using q2, show decide (c.rrn = (t.records.length : Int) + 1) = true by simpa using q]
        simp
       ·have q2 : c.rrn ≤ (t.records.length : Int) := by split at e <;> omega
        rw [show decide (c.rrn ≤ (t.records.length : Int)) = true by simpa using q2, show decide (c.rrn = (t.records.length : Int) + 1) = false by simpa using q, show decide (1 ≤ c.rrn) = true by simpa using e.1]
        simp
      unfold qc7 qgu qkj
      rw [hth, if_neg (fun q => q h0)]
      by_cases k : c.kind = 0
      ·have k2 : ¬c.kind = 2 := by omega
       cases hg : qho t c
       ·simp [k, qb2]
       ·by_cases q : 60 < c.rrn
        ·simp [k, qb2, q]
        ·simp [k, qb2, q]
      ·cases hg : qho t c
       ·by_cases q : (t.records.getD (c.rrn - 1).toNat zRec).bytes = c.before
        ·simp only [k, q, if_false, false_and, Bool.not_false, not_true, and_false, true_and, Bool.false_eq_true, ne_eq, false_or, Bool.true_eq_false]
        ·simp only [k, q, if_false, false_and, Bool.not_false, not_true, and_false, true_and, Bool.false_eq_true, ne_eq, false_or, Bool.true_eq_false, not_false_iff, if_true]
         simp
       ·simp [k]
    ·rw [if_pos e] at h0 ⊢
     rw [qkg (by rw [h0]; decide), h0]
   ·rw [if_pos d] at h0 ⊢
    rw [qkg (by rw [h0]; decide), h0]
  ·rw [if_pos b] at h0 ⊢
   rw [qkg (by rw [h0]; decide), h0]
 ·rw [if_pos a] at h0 ⊢
  rw [qkg (by rw [h0]; exact a), h0]
def revC (c : Change) : Change := ⟨c.file, qea c.kind, c.rrn, c.after, c.before⟩
theorem qtp {c : Change} (h : c.kind = 0 ∨ c.kind = 1 ∨ c.kind = 2) : (qgm c).1 = revC c := by
 unfold qgm revC
 rw [if_pos (by omega)]
def qlq (l : List Table) : Int × Int := if 8 < l.length then (0, 2) else match qcf (tabE l) l.length with
 | some i => (i, tabE l i)
 | none => (0, 0)
theorem qbb9 (l : List Table) : (qlq l).2 = qci l := by
 unfold qlq qci
 split
 ·rfl
 ·cases qcf (tabE l) l.length <;> rfl
section
variable {l : List Table} {i : Nat}
theorem qbnt (h : 8 < (l.length : Int)) : qlq l = (0, 2) := by unfold qlq; rw [if_pos (by omega)]
theorem qbca (h8 : l.length ≤ 8) (h : ∀ j, j < i → tabE l j = 0) (hi : i < l.length) (hg : ¬tabE l i = 0) : qlq l = ((i : Int), tabE l i) := by
 unfold qlq
 rw [if_neg (by omega), qeu h hi hg]
theorem qbtf (h8 : l.length ≤ 8) (h : ∀ j, j < i → tabE l j = 0) (hi : l.length ≤ i) : qlq l = (0, 0) := by
 unfold qlq
 rw [if_neg (by omega), qev fun j hj => h j (by omega)]
end
end Go.Ev
namespace Go.Ev
noncomputable section
open Go.Proofs Ty
set_option maxRecDepth 10000
set_option maxHeartbeats 4000000
def e153 : List O → Option (Prop × O)
 | [.d x_t] => match qbl x_t with
   | some t => some (qbs t = 0, .d (.i .i64 (qfh t)))
   | _ => none
 | _ => none
def q2q : FuncId → List O → Option (Prop × O) := addT q83 153 e153
def e154 : List O → Option (Prop × O)
 | [.d (.s s), .d (.i .i64 a), .d (.i .i64 n)] => some (0 ≤ a ∧ 0 ≤ n ∧ a + n ≤ s.size ∧ s.size ≤ 1000, .d (.i .i64 (qfi s a.toNat n.toNat)))
 | _ => none
def q2r : FuncId → List O → Option (Prop × O) := addT q2q 154 e154
def e176 : List O → Option (Prop × O)
 | [.d (.i .i64 n)] => some (0 ≤ n ∧ n ≤ 18, .d (.i .i64 (p10 n)))
 | _ => none
def q2s : FuncId → List O → Option (Prop × O) := addT q2r 176 e176
def e175 : List O → Option (Prop × O)
 | [.d (.i .i64 k)] => some (True, .d (.b (decide (1 ≤ k) && decide (k ≤ 3))))
 | _ => none
def q2t : FuncId → List O → Option (Prop × O) := addT q2s 175 e175
def e177 : List O → Option (Prop × O)
 | [.d (.i .i64 n), .d (.i .i64 h)] => some (True, .tup [.d (.i .i64 (if h = 11 ∨ h = 13 then IntKind.i64.wrap (-n) else n)), .d (.b (decide (10 ≤ h)))])
 | _ => none
def q2u : FuncId → List O → Option (Prop × O) := addT q2t 177 e177
def e152 : List O → Option (Prop × O)
 | [.d x_t] => match qbl x_t with
   | some t => some (True, .d (.i .i64 (qbs t)))
   | _ => none
 | _ => none
def q2v : FuncId → List O → Option (Prop × O) := addT q2u 152 e152
def e155 : List O → Option (Prop × O)
 | [.d x_t] => match qbl x_t with
   | some t => some (0 ≤ t.length ∧ t.length ≤ 18, .d (.i .i64 (p10 t.length - 1)))
   | _ => none
 | _ => none
def q2w : FuncId → List O → Option (Prop × O) := addT q2v 155 e155
def e156 : List O → Option (Prop × O)
 | [.d (.s s)] => some (0 < s.size ∧ s.size ≤ 1000, .tup [.d (qce (qkb s).1), .d (.i .i64 (qkb s).2.1), .d (.i .i64 (qkb s).2.2)])
 | _ => none
def q2x : FuncId → List O → Option (Prop × O) := addT q2w 156 e156
def e157 : List O → Option (Prop × O)
 | [.d x_t, .d (.s s)] => match qbl x_t with
   | some t => some (t.kind = 1 ∧ (s.size : Int) = t.length / 2 + 1 ∧ 0 ≤ t.length ∧ t.length ≤ 100, .tup [.d (qce (qjp t s).1), .d (.i .i64 (qjp t s).2.1), .d (.i .i64 (qjp t s).2.2)])
   | _ => none
 | _ => none
def q2y : FuncId → List O → Option (Prop × O) := addT q2x 157 e157
def e131 : List O → Option (Prop × O)
 | [.d x_t, .d (.s s)] => match qbl x_t with
   | some t => some (True, .tup [.d (qce (qd9 t s).1), .d (.i .i64 (qd9 t s).2.1), .d (.i .i64 (qd9 t s).2.2)])
   | _ => none
 | _ => none
def q2z : FuncId → List O → Option (Prop × O) := addT q2y 131 e131
def e174 : List O → Option (Prop × O)
 | [.d x_f, .d (.s name)] => match qb8 x_f with
   | some f => some (f.fields.length ≤ 1000000, .d (.i .i64 (idxI f.fields name)))
   | _ => none
 | _ => none
def q20 : FuncId → List O → Option (Prop × O) := addT q2z 174 e174
def e151 : List O → Option (Prop × O)
 | [.d x_f] => match qb8 x_f with
   | some f => some (f.fields.length ≤ 1000000 ∧ (∀ j, j < f.fields.length → qbs (f.fields.getD j q03).type_ = 0), .d (.i .i64 (qfw f)))
   | _ => none
 | _ => none
def q21 : FuncId → List O → Option (Prop × O) := addT q20 151 e151
def e173 : List O → Option (Prop × O)
 | [.d x_f] => match qb8 x_f with
   | some f => some (f.fields.length ≤ 1000000, .tup [.d (.i .i64 (qhs f.fields).1), .d (.i .i64 (qhs f.fields).2)])
   | _ => none
 | _ => none
def q22 : FuncId → List O → Option (Prop × O) := addT q21 173 e173
def e149 : List O → Option (Prop × O)
 | [.d x_f] => match qb8 x_f with
   | some f => some (f.fields.length ≤ 1000000, .tup [.d (.i .i64 (qco f).1), .d (.i .i64 (qco f).2)])
   | _ => none
 | _ => none
def q23 : FuncId → List O → Option (Prop × O) := addT q22 149 e149
def e150 : List O → Option (Prop × O)
 | [.d x_f] => match qcm x_f with
   | some f => some (f.format.fields.length ≤ 1000000 ∧ f.keys.length ≤ 1000000, .tup [.d (.i .i64 (qlp f).1), .d (.i .i64 (qlp f).2)])
   | _ => none
 | _ => none
def q24 : FuncId → List O → Option (Prop × O) := addT q23 150 e150
def e128 : List O → Option (Prop × O)
 | [.d x_f] => match qcm x_f with
   | some f => some (f.format.fields.length ≤ 1000000 ∧ f.keys.length ≤ 1000000, .tup [.d (.i .i64 (qcs f).1), .d (.i .i64 (qcs f).2)])
   | _ => none
 | _ => none
def q25 : FuncId → List O → Option (Prop × O) := addT q24 128 e128
def e115 : List O → Option (Prop × O)
 | [.d x_f] => match qcm x_f with
   | some f => some (f.format.fields.length ≤ 1000000 ∧ f.keys.length ≤ 1000000, .d (.i .i64 (qcs f).2))
   | _ => none
 | _ => none
def q26 : FuncId → List O → Option (Prop × O) := addT q25 115 e115
def e103 : List O → Option (Prop × O)
 | [.d x_f] => match qcm x_f with
   | some f => some (f.format.fields.length ≤ 1000000 ∧ f.keys.length ≤ 1000000, .d (.i .i64 (qcs f).2))
   | _ => none
 | _ => none
def q27 : FuncId → List O → Option (Prop × O) := addT q26 103 e103
def e129 : List O → Option (Prop × O)
 | [.d x_f] => match qb8 x_f with
   | some f => some (f.fields.length ≤ 1000000, .d (.i .i64 (qco f).2))
   | _ => none
 | _ => none
def q28 : FuncId → List O → Option (Prop × O) := addT q27 129 e129
def e130 : List O → Option (Prop × O)
 | [.d x_f] => match qb8 x_f with
   | some f => some (f.fields.length ≤ 1000000 ∧ (∀ j, j < f.fields.length → qbs (f.fields.getD j q03).type_ = 0), .d (.i .i64 (qfw f)))
   | _ => none
 | _ => none
def q29 : FuncId → List O → Option (Prop × O) := addT q28 130 e130
def e158 : List O → Option (Prop × O)
 | [.d x_f, .d (.i .i64 a)] => match qb8 x_f with
   | some f => some (f.fields.length ≤ 1000000 ∧ (∀ j, j < f.fields.length → qbs (f.fields.getD j q03).type_ = 0) ∧ 0 ≤ a ∧ a ≤ (f.fields.length : Int), .d (.i .i64 (qct f.fields a.toNat)))
   | _ => none
 | _ => none
def q3a : FuncId → List O → Option (Prop × O) := addT q29 158 e158
def e132 : List O → Option (Prop × O)
 | [.d x_f, .d (.s s), .d (.i .i64 a)] => match qb8 x_f with
   | some f => some (f.fields.length ≤ 1000000 ∧ (∀ j, j < f.fields.length → qbs (f.fields.getD j q03).type_ = 0) ∧ 0 ≤ a ∧ a < (f.fields.length : Int) ∧ (s.size : Int) = qfw f, .d (.s (qqw f s a.toNat)))
   | _ => none
 | _ => none
def q3b : FuncId → List O → Option (Prop × O) := addT q3a 132 e132
def e116 : List O → Option (Prop × O)
 | [.d x_f, .d (.s s)] => match qb8 x_f with
   | some f => some (f.fields.length ≤ 1000000, .tup [.d (.i .i64 (qds f s).2.1), .d (.i .i64 (qds f s).2.2)])
   | _ => none
 | _ => none
def q3c : FuncId → List O → Option (Prop × O) := addT q3b 116 e116
def e104 : List O → Option (Prop × O)
 | [.d x_f, .d (.s s)] => match qb8 x_f with
   | some f => some (f.fields.length ≤ 1000000, .d (.i .i64 (qds f s).2.2))
   | _ => none
 | _ => none
def q3d : FuncId → List O → Option (Prop × O) := addT q3c 104 e104
def e89 : List O → Option (Prop × O)
 | [.d x_t] => match q0y x_t with
   | some t => some ((t.file.format.fields.length ≤ 1000000 ∧ t.file.keys.length ≤ 1000000 ∧ t.records.length ≤ 1000000), .tup [.d (.i .i64 (qbd t).1), .d (.i .i64 (qbd t).2)])
   | _ => none
 | _ => none
def q87 : FuncId → List O → Option (Prop × O) := addT q3d 89 e89
def e58 : List O → Option (Prop × O)
 | [.d x_t] => match q0y x_t with
   | some t => some ((t.file.format.fields.length ≤ 1000000 ∧ t.file.keys.length ≤ 1000000 ∧ t.records.length ≤ 1000000), .d (.i .i64 (qbd t).2))
   | _ => none
 | _ => none
def q88 : FuncId → List O → Option (Prop × O) := addT q87 58 e58
end
end Go.Ev
namespace Go.Ev
def qk8 (l : List D) (n : Int) (u : D) (e : Int) : Option Ans := match decM q0y l, decL 1 (decI .i64) u with
 | some a, some b => some ⟨a, n, b, e⟩
 | _, _ => none
theorem q89 {T t : TypeId} {l : List D} {n : Int} {u : D} {e : Int} {x : Ans} (h : qk8 l n u e = some x) : ole (.bx T [.own t 6 l, .d (.i .i64 n), .d u, .d (.i .i64 e)]) (.bx T [.own t 6 (x.tables.map q0c), .d (.i .i64 x.n), .d (.sl 1 (x.units.map (D.i .i64))), .d (.i .i64 x.err)]) := by
 unfold qk8 at h
 split at h
 ·rename_i h1 h2
  cases h
  exact ⟨rfl, ⟨rfl, rfl, ql4 q07 h1⟩, q09 _, q00 ql3 h2, q09 _, trivial⟩
 ·cases h
theorem qj5 (x : Ans) : qk8 (x.tables.map q0c) x.n (.sl 1 (x.units.map (D.i .i64))) x.err = some x := by
 unfold qk8
 rw [qcl, qd4]
theorem qim (l : List Table) (n e : Int) : qk8 (l.map q0c) n .nil e = some ⟨l, n, [], e⟩ := by
 unfold qk8
 rw [qcl]; rfl
theorem qin (l : List Table) (n e : Int) : qk8 (l.map q0c) n (.sl 1 []) e = some ⟨l, n, [], e⟩ := by
 unfold qk8
 rw [qcl]; rfl
def qwt (s : List Table) (c : Change) : List Table := (qcc (s, 0) c).1
def doT (s : List Table) (c : Change) : List Table := if cond s c = 0 then qwt s c else s
theorem qzg (s : List Table) (n m : Int) (c : Change) : (qcc (s, n) c).1 = (qcc (s, m) c).1 := by
 unfold qcc
 split <;> rfl
section
variable {s ts : List Table} {c : Change} {cs : List Change} {k : Nat}
theorem qxx (h : qbg s c.file = -1) : cond s c = 0 ∧ doT s c = s := by
 have e : cond s c = 0 := by unfold cond; rw [if_pos (by omega)]
 refine ⟨e, ?_⟩
 unfold doT qwt qcc
 rw [if_pos e, if_pos (by simp only; omega)]
theorem q3e (h : ¬qbg s c.file = -1) (h2 : ¬qc7 (s.getD (qbg s c.file).toNat q0z) c = 0) : cond s c = qc7 (s.getD (qbg s c.file).toNat q0z) c ∧ doT s c = s := by
 have := qhe s c.file
 have e : cond s c = qc7 (s.getD (qbg s c.file).toNat q0z) c := by unfold cond; rw [if_neg (by omega)]
 refine ⟨e, ?_⟩
 unfold doT
 rw [if_neg (by rw [e]; exact h2)]
theorem q3f (h : ¬qbg s c.file = -1) (h2 : qc7 (s.getD (qbg s c.file).toNat q0z) c = 0) : cond s c = 0 ∧ doT s c = s.set (qbg s c.file).toNat (qek (s.getD (qbg s c.file).toNat q0z) c.rrn (qdo c)) := by
 have := qhe s c.file
 have e : cond s c = 0 := by unfold cond; rw [if_neg (by omega)]; exact h2
 refine ⟨e, ?_⟩
 unfold doT qwt qcc
 rw [if_pos e, if_neg (by simp only; omega)]
theorem qnm : mErr ts cs k = cond (mTo ts cs k).1 (cs.getD k q08) := rfl
theorem qbnu (h : mErr ts cs k = 0) : doT (mTo ts cs k).1 (cs.getD k q08) = (mTo ts cs (k + 1)).1 := by
 unfold doT qwt
 rw [if_pos (by rw [← qnm]; exact h)]
 show _ = (qcc (mTo ts cs k) (cs.getD k q08)).1
 exact qzg _ _ _ _
theorem qbgp : (mTo ts cs (k + 1)).2 = (mTo ts cs k).2 + if qbg ts (cs.getD k q08).file = -1 then 0 else 1 := by
 have hl := qhe ts (cs.getD k q08).file
 show (qcc (mTo ts cs k) (cs.getD k q08)).2 = _
 unfold qcc
 rw [qbf8]
 by_cases h : qbg ts (cs.getD k q08).file = -1
 ·rw [if_pos (by omega), if_pos h]; omega
 ·rw [if_neg (by omega), if_neg h]
end
def qpe (r : List Table × Int × Int) : Ans := ⟨r.1, r.2.1, [], r.2.2⟩
theorem qbnv {ts : List Table} {cs : List Change} {k : Nat} (h : ∀ j, j < k → mErr ts cs j = 0) (hk : k < cs.length) (hg : ¬cond (mTo ts cs k).1 (cs.getD k q08) = 0) : qpe (qc4 ts cs) = ⟨[], 0, [], cond (mTo ts cs k).1 (cs.getD k q08)⟩ := by
 rw [qj3 h hk hg]; rfl
theorem qbnw {ts : List Table} {cs : List Change} {k : Nat} (h : ∀ j, j < k → mErr ts cs j = 0) (hk : k = cs.length) : qpe (qc4 ts cs) = ⟨(mTo ts cs k).1, (mTo ts cs k).2, [], 0⟩ := by
 rw [qmx h hk]; rfl
section
variable {ts : List Table} {l : List Entry} {n : Int}
end
section
variable {t : Table} {c : Change}
theorem rc_0  (h : ¬(qbd t).2 = 0) : qc7 t c = (qbd t).2 := by rw [qkw, if_pos h]
theorem rc_1 (h0 : (qbd t).2 = 0) (h : ¬c.file = t.file.name) : qc7 t c = 11 := by rw [qkw, if_neg (fun q => q h0), if_pos h]
theorem rc_2 (h0 : (qbd t).2 = 0) (h1 : c.file = t.file.name) (h : c.kind < 0 ∨ 2 < c.kind) : qc7 t c = 4 := by rw [qkw, if_neg (fun q => q h0), if_neg (fun q => q h1), if_pos (by omega)]
theorem rc_3 (h0 : (qbd t).2 = 0) (h1 : c.file = t.file.name) (h2 : 0 ≤ c.kind ∧ c.kind ≤ 2) (h : c.rrn < 1 ∨ ((t.records.length : Int) + if c.kind = 0 then 1 else 0) < c.rrn) : qc7 t c = 3 := by rw [qkw, if_neg (fun q => q h0), if_neg (fun q => q h1), if_neg (fun q => q h2), if_pos (by omega)]
theorem rc_4 (h0 : (qbd t).2 = 0) (h1 : c.file = t.file.name) (h2 : 0 ≤ c.kind ∧ c.kind ≤ 2) (h3 : 1 ≤ c.rrn ∧ c.rrn ≤ (t.records.length : Int) + if c.kind = 0 then 1 else 0) (h : c.kind = 0 ∧ ¬c.before = ⟨#[]⟩ ∨ c.kind = 2 ∧ ¬c.after = ⟨#[]⟩) : qc7 t c = 5 := by rw [qkw, if_neg (fun q => q h0), if_neg (fun q => q h1), if_neg (fun q => q h2), if_neg (fun q => q h3), if_pos h]
theorem rc_5 (h0 : (qbd t).2 = 0) (h1 : c.file = t.file.name) (h2 : 0 ≤ c.kind ∧ c.kind ≤ 2) (h3 : 1 ≤ c.rrn ∧ c.rrn ≤ (t.records.length : Int) + if c.kind = 0 then 1 else 0) (h4 : (¬c.kind = 0 ∨ c.before = ⟨#[]⟩) ∧ (¬c.kind = 2 ∨ c.after = ⟨#[]⟩)) (h : c.kind = 0 ∧ qgo t c.rrn = true) : qc7 t c = 12 := by rw [qkw, if_neg (fun q => q h0), if_neg (fun q => q h1), if_neg (fun q => q h2), if_neg (fun q => q h3), if_neg (fun q => q.elim (fun e => h4.1.elim (fun z => z e.1) e.2) (fun e => h4.2.elim (fun z => z e.1) e.2)), if_pos h]
theorem rc_6 (h0 : (qbd t).2 = 0) (h1 : c.file = t.file.name) (h2 : 0 ≤ c.kind ∧ c.kind ≤ 2) (h3 : 1 ≤ c.rrn ∧ c.rrn ≤ (t.records.length : Int) + if c.kind = 0 then 1 else 0) (h4 : (¬c.kind = 0 ∨ c.before = ⟨#[]⟩) ∧ (¬c.kind = 2 ∨ c.after = ⟨#[]⟩)) (h5 : ¬c.kind = 0 ∨ qgo t c.rrn = false) (h : c.kind = 0 ∧ 60 < c.rrn) : qc7 t c = 30 := by rw [qkw, if_neg (fun q => q h0), if_neg (fun q => q h1), if_neg (fun q => q h2), if_neg (fun q => q h3), if_neg (fun q => q.elim (fun e => h4.1.elim (fun z => z e.1) e.2) (fun e => h4.2.elim (fun z => z e.1) e.2)), if_neg (fun q => h5.elim (fun z => z q.1) (fun z => by rw [z] at q; exact absurd q.2 (by decide))), if_pos h]
theorem rc_7 (h0 : (qbd t).2 = 0) (h1 : c.file = t.file.name) (h2 : 0 ≤ c.kind ∧ c.kind ≤ 2) (h3 : 1 ≤ c.rrn ∧ c.rrn ≤ (t.records.length : Int) + if c.kind = 0 then 1 else 0) (h4 : (¬c.kind = 0 ∨ c.before = ⟨#[]⟩) ∧ (¬c.kind = 2 ∨ c.after = ⟨#[]⟩)) (h5 : ¬c.kind = 0 ∨ qgo t c.rrn = false) (h6 : ¬c.kind = 0 ∨ c.rrn ≤ 60) (h : ¬c.kind = 0 ∧ qgo t c.rrn = false) : qc7 t c = 11 := by rw [qkw, if_neg (fun q => q h0), if_neg (fun q => q h1), if_neg (fun q => q h2), if_neg (fun q => q h3), if_neg (fun q => q.elim (fun e => h4.1.elim (fun z => z e.1) e.2) (fun e => h4.2.elim (fun z => z e.1) e.2)), if_neg (fun q => h5.elim (fun z => z q.1) (fun z => by rw [z] at q; exact absurd q.2 (by decide))), if_neg (by omega), if_pos h]
theorem rc_8 (h0 : (qbd t).2 = 0) (h1 : c.file = t.file.name) (h2 : 0 ≤ c.kind ∧ c.kind ≤ 2) (h3 : 1 ≤ c.rrn ∧ c.rrn ≤ (t.records.length : Int) + if c.kind = 0 then 1 else 0) (h4 : (¬c.kind = 0 ∨ c.before = ⟨#[]⟩) ∧ (¬c.kind = 2 ∨ c.after = ⟨#[]⟩)) (h5 : ¬c.kind = 0 ∨ qgo t c.rrn = false) (h6 : ¬c.kind = 0 ∨ c.rrn ≤ 60) (h7 : c.kind = 0 ∨ qgo t c.rrn = true) (h : ¬c.kind = 0 ∧ ¬(t.records.getD (c.rrn - 1).toNat zRec).bytes = c.before) : qc7 t c = 15 := by rw [qkw, if_neg (fun q => q h0), if_neg (fun q => q h1), if_neg (fun q => q h2), if_neg (fun q => q h3), if_neg (fun q => q.elim (fun e => h4.1.elim (fun z => z e.1) e.2) (fun e => h4.2.elim (fun z => z e.1) e.2)), if_neg (fun q => h5.elim (fun z => z q.1) (fun z => by rw [z] at q; exact absurd q.2 (by decide))), if_neg (by omega), if_neg (fun q => h7.elim q.1 (fun z => by rw [z] at q; exact absurd q.2 (by decide))), if_pos h]
theorem rc_9 (h0 : (qbd t).2 = 0) (h1 : c.file = t.file.name) (h2 : 0 ≤ c.kind ∧ c.kind ≤ 2) (h3 : 1 ≤ c.rrn ∧ c.rrn ≤ (t.records.length : Int) + if c.kind = 0 then 1 else 0) (h4 : (¬c.kind = 0 ∨ c.before = ⟨#[]⟩) ∧ (¬c.kind = 2 ∨ c.after = ⟨#[]⟩)) (h5 : ¬c.kind = 0 ∨ qgo t c.rrn = false) (h6 : ¬c.kind = 0 ∨ c.rrn ≤ 60) (h7 : c.kind = 0 ∨ qgo t c.rrn = true) (h8 : c.kind = 0 ∨ (t.records.getD (c.rrn - 1).toNat zRec).bytes = c.before) (h : c.kind = 2) : qc7 t c = 0 := by rw [qkw, if_neg (fun q => q h0), if_neg (fun q => q h1), if_neg (fun q => q h2), if_neg (fun q => q h3), if_neg (fun q => q.elim (fun e => h4.1.elim (fun z => z e.1) e.2) (fun e => h4.2.elim (fun z => z e.1) e.2)), if_neg (fun q => h5.elim (fun z => z q.1) (fun z => by rw [z] at q; exact absurd q.2 (by decide))), if_neg (by omega), if_neg (fun q => h7.elim q.1 (fun z => by rw [z] at q; exact absurd q.2 (by decide))), if_neg (fun q => h8.elim q.1 q.2), if_pos h]
theorem qbzj (h0 : (qbd t).2 = 0) (h1 : c.file = t.file.name) (h2 : 0 ≤ c.kind ∧ c.kind ≤ 2) (h3 : 1 ≤ c.rrn ∧ c.rrn ≤ (t.records.length : Int) + if c.kind = 0 then 1 else 0) (h4 : (¬c.kind = 0 ∨ c.before = ⟨#[]⟩) ∧ (¬c.kind = 2 ∨ c.after = ⟨#[]⟩)) (h5 : ¬c.kind = 0 ∨ qgo t c.rrn = false) (h6 : ¬c.kind = 0 ∨ c.rrn ≤ 60) (h7 : c.kind = 0 ∨ qgo t c.rrn = true) (h8 : c.kind = 0 ∨ (t.records.getD (c.rrn - 1).toNat zRec).bytes = c.before) (h9 : ¬c.kind = 2) : qc7 t c = (qds t.file.format c.after).2.2 := by rw [qkw, if_neg (fun q => q h0), if_neg (fun q => q h1), if_neg (fun q => q h2), if_neg (fun q => q h3), if_neg (fun q => q.elim (fun e => h4.1.elim (fun z => z e.1) e.2) (fun e => h4.2.elim (fun z => z e.1) e.2)), if_neg (fun q => h5.elim (fun z => z q.1) (fun z => by rw [z] at q; exact absurd q.2 (by decide))), if_neg (by omega), if_neg (fun q => h7.elim q.1 (fun z => by rw [z] at q; exact absurd q.2 (by decide))), if_neg (fun q => h8.elim q.1 q.2), if_neg (h9)]
end
end Go.Ev
namespace Go.Ev
noncomputable section
open Go.Proofs Ty
set_option maxRecDepth 10000
set_option maxHeartbeats 4000000
def e119 : List O → Option (Prop × O)
 | [.d x_t, .d (.i .i64 n)] => match q0y x_t with
   | some t => some (t.records.length ≤ 1000000, .d (.b (qgo t n)))
   | _ => none
 | _ => none
def q3g : FuncId → List O → Option (Prop × O) := addT q88 119 e119
def e31o : List O → Option (Prop × O)
 | [.d x_t] => match q0y x_t with
   | some t => some ((t.file.format.fields.length ≤ 1000000 ∧ t.file.keys.length ≤ 1000000 ∧ t.records.length ≤ 1000000), .agg [.d (.s t.file.name), .d (.s t.file.format.name), .d (.sl 4 (t.file.format.fields.map q01)), .d (.sl 2 (t.file.keys.map q06)), .d (.b t.file.unique), .own 71 2 (t.records.map qbt)])
   | _ => none
 | _ => none
def q3h : FuncId → List O → Option (Prop × O) := addT q3g 31 e31o
def e120 : List O → Option (Prop × O)
 | [.d x_t, .d (.i .i64 n), .d x_r] => match q0y x_t, qdm x_r with
   | some t, some r => some (1 ≤ n ∧ n ≤ (t.records.length : Int) + 1 ∧ t.records.length ≤ 1000000 ∧ t.file.format.fields.length ≤ 1000000 ∧ t.file.keys.length ≤ 1000000, .d (q0c (qek t n r)))
   | _, _ => none
 | _ => none
def q3i : FuncId → List O → Option (Prop × O) := addT q3h 120 e120
def e108 : List O → Option (Prop × O)
 | [.d x_t, .d x_c] => match q0y x_t, q0x x_c with
   | some t, some c => some ((t.file.format.fields.length ≤ 1000000 ∧ t.file.keys.length ≤ 1000000 ∧ t.records.length ≤ 1000000), .d (.i .i64 (qc7 t c)))
   | _, _ => none
 | _ => none
def q3j : FuncId → List O → Option (Prop × O) := addT q3i 108 e108
def e109 : List O → Option (Prop × O)
 | [.d x_t, .d x_c] => match q0y x_t, q0x x_c with
   | some t, some c => some (1 ≤ c.rrn ∧ c.rrn ≤ (t.records.length : Int) + 1 ∧ t.records.length ≤ 1000000 ∧ t.file.format.fields.length ≤ 1000000 ∧ t.file.keys.length ≤ 1000000, .d (q0c (qek t c.rrn (qdo c))))
   | _, _ => none
 | _ => none
def q3k : FuncId → List O → Option (Prop × O) := addT q3j 109 e109
def e92 : List O → Option (Prop × O)
 | [.d x_t, .d x_c] => match q0y x_t, q0x x_c with
   | some t, some c => some ((t.file.format.fields.length ≤ 1000000 ∧ t.file.keys.length ≤ 1000000 ∧ t.records.length ≤ 1000000), .tup [.d (q0c (qgv t c).1), .d (.i .i64 (qgv t c).2)])
   | _, _ => none
 | _ => none
def q9a : FuncId → List O → Option (Prop × O) := addT q3k 92 e92
def e36 : List O → Option (Prop × O)
 | [.d x_c] => match q0x x_c with
   | some c => some (True, .d (q0s (revC c)))
   | _ => none
 | _ => none
def q9b : FuncId → List O → Option (Prop × O) := addT q9a 36 e36
def e59 : List O → Option (Prop × O)
 | [.d x_l, .d (.s n)] => match decL 6 q0y x_l with
   | some l => some (l.length ≤ 1000000, .d (.i .i64 (qbg l n)))
   | _ => none
 | _ => none
def q9c : FuncId → List O → Option (Prop × O) := addT q9b 59 e59
def e33 : List O → Option (Prop × O)
 | [.d x_l] => match decL 6 q0y x_l with
   | some l => some (okTs l, .tup [.d (.i .i64 (qlq l).1), .d (.i .i64 (qlq l).2)])
   | _ => none
 | _ => none
def q9d : FuncId → List O → Option (Prop × O) := addT q9c 33 e33
def e31d : List O → Option (Prop × O)
 | [.d x_t] => match q0y x_t with
   | some t => some ((t.file.format.fields.length ≤ 1000000 ∧ t.file.keys.length ≤ 1000000 ∧ t.records.length ≤ 1000000), .d (q0c t))
   | _ => none
 | _ => none
def q3l : FuncId → List O → Option (Prop × O) := addT q9d 31 e31d
def e61 : List O → Option (Prop × O)
 | [.bx 88 [.own 69 6 x_x, .d (.i .i64 n_x), .d u_x, .d (.i .i64 e_x)], .d x_c] => match qk8 x_x n_x u_x e_x, q0x x_c with
   | some x, some c => some (okTs x.tables, .tup [.d (.i .i64 (cond x.tables c)), .bx 88 [.own 69 6 ((doT x.tables c).map q0c), .d (.i .i64 x.n), .d (.sl 1 (x.units.map (D.i .i64))), .d (.i .i64 x.err)]])
   | _, _ => none
 | _ => none
def q9e : FuncId → List O → Option (Prop × O) := addT q3l 61 e61
def mvz : FuncId → Nat → List (Nat × TypeId × Nat) := fun f => if f = 61 then (fun j => if j = 0 then [(4242, 88, 0), (0, 69, 6)] else []) else fun _ => []
def e37 : List O → Option (Prop × O)
 | [.d x_ts, .d x_cs] => match decL 6 q0y x_ts, decL 5 q0x x_cs with
   | some ts, some cs => some (okTs ts ∧ cs.length ≤ 1000000, .d (qft (qpe (qc4 ts cs))))
   | _, _ => none
 | _ => none
def q9f : FuncId → List O → Option (Prop × O) := addT q9e 37 e37
def e68 : List O → Option (Prop × O)
 | [.d x_ts, .d x_l] => match decL 6 q0y x_ts, decL 8 q0v x_l with
   | some ts, some l => some (okTs ts ∧ l.length ≤ 1000000, .d (.i .i64 (chkE ts l)))
   | _, _ => none
 | _ => none
def q9g : FuncId → List O → Option (Prop × O) := addT q9f 68 e68
end
end Go.Ev
namespace Go.Ev
def hitS (f : ByteArray) (x : Entry) : Bool := decide (x.kind = 4) && decide (x.change.file = f)
def sIdx (l : List Entry) (f : ByteArray) : Nat → Int
 | 0 => -1
 | i + 1 => if hitS f (l.getD i q0i) = true then i else sIdx l f i
section
variable {l : List Entry} {f : ByteArray} {i : Nat}
end
section
variable {l : List Entry} {f : ByteArray}
end
inductive WantZ where
 | le (n : Int)
 | ge (n : Int)
 | save (l : List Entry)
 | out (u : List Int)
 | inn (u : List Int)
def qbtg (l : List Entry) (x : Entry) : Bool := decide (sIdx l x.change.file l.length < 0) || decide ((l.getD (sIdx l x.change.file l.length).toNat q0i).number < x.number)
def WantZ.has : WantZ → Entry → Bool
 | .le n, x => decide (x.number ≤ n)
 | .ge n, x => decide (n ≤ x.number)
 | .save l, x => qbtg l x
 | .out u, x => !decide (x.unit ∈ u)
 | .inn u, x => decide (x.unit ∈ u)
def takP (p : Entry → Bool) (x : Entry) : Bool := decide (x.kind = 0) && p x
def qgf (p : Entry → Bool) (back : Bool) (l : List Entry) : List Change := (l.filter (takP p)).map (qn0 back)
def qd1 (p : Entry → Bool) (back : Bool) (l : List Entry) : List Change := if back then (qgf p back l).reverse else qgf p back l
section
variable {p q : Entry → Bool} {back : Bool} {l : List Entry} {i : Nat}
theorem qmz {x : Entry} : takP p x = true ↔ x.kind = 0 ∧ p x = true := by simp [takP]
theorem qwu (hi : i < l.length) : qgf p back (l.take (i + 1)) = if takP p (l.getD i q0i) = true then qgf p back (l.take i) ++ [qn0 back (l.getD i q0i)] else qgf p back (l.take i) := by
 unfold qgf
 rw [qdx q0i hi, List.filter_append, List.map_append]
 generalize l.getD i q0i = x
 cases h : takP p x <;> simp [List.filter_cons, h]
theorem qpf : (qgf p back (l.take i)).length ≤ i := by
 unfold qgf
 rw [List.length_map]
 have := List.length_filter_le (takP p) (l.take i)
 rw [List.length_take] at this
 omega
theorem q3m (p : Entry → Bool) (back : Bool) (l : List Entry) : (qd1 p back l).length ≤ l.length := by
 have := qpf (p := p) (back := back) (l := l) (i := l.length)
 rw [List.take_length] at this
 unfold qd1
 split
 ·rw [List.length_reverse]; exact this
 ·exact this
theorem qpg (hi : i < l.length) (h : (l.getD i q0i).kind = 0) (h2 : p (l.getD i q0i) = true) : qgf p back (l.take (i + 1)) = qgf p back (l.take i) ++ [qn0 back (l.getD i q0i)] := by rw [qwu hi, if_pos (qmz.2 ⟨h, h2⟩)]
theorem qq8 (hi : i < l.length) (h : ¬(l.getD i q0i).kind = 0 ∨ p (l.getD i q0i) = false) : qgf p back (l.take (i + 1)) = qgf p back (l.take i) := by
 rw [qwu hi, if_neg]
 rw [qmz]
 rintro ⟨a, b⟩
 rcases h with h | h
 ·exact h a
 ·rw [h] at b; cases b
theorem qwv (h : l.length ≤ i) : (qgf p true (l.take i)).reverse = qd1 p true l := by rw [List.take_of_length_le h]; rfl
theorem qq9 (h : l.length ≤ i) : qgf p false (l.take i) = qd1 p false l := by rw [List.take_of_length_le h]; rfl
theorem q42 (h : l.length ≤ i) : List.take (qgf p true (l.take i)).length (qgf p true (l.take i)).reverse = qd1 p true l := by
 rw [List.take_of_length_le (l := (qgf p true (l.take i)).reverse) (by simp), qwv h]
theorem qxy (h : ∀ x ∈ l, x.kind = 0 → p x = q x) : qd1 p back l = qd1 q back l := by
 have e : qgf p back l = qgf q back l := by
  unfold qgf
  congr 1
  apply List.filter_congr
  intro x hx
  unfold takP
  by_cases k : x.kind = 0
  ·rw [h x hx k]
  ·simp [k]
 unfold qd1
 rw [e]
end
section
variable {ts : List Table} {l : List Entry}
end
end Go.Ev
namespace Go.Ev
def idxZ (l : List Int) (v : Int) : Int := match l.findIdx? (· == v) with | some i => (i : Int) | none => -1
theorem qbcb {l : List Int} {i : Nat} (h : i < l.length) : l.take (i + 1) = l.take i ++ [l.getD i 0] := qdx 0 h
theorem qbgq {l : List Int} {v : Int} {i : Nat} (h : (l.take i).findIdx? (· == v) = none) (hi : i < l.length) (e : v = l.getD i 0) : idxZ l v = i := by
 unfold idxZ
 have : l.findIdx? (· == v) = some i := by
  rw [← List.take_append_drop i l, List.findIdx?_append, h, qd2 0 hi]
  rw [List.findIdx?_cons]
  have hl : (l.take i).length = i := by rw [List.length_take]; omega
  simp [e, hl]
 rw [this]
theorem qbcc {l : List Int} {v : Int} {i : Nat} (h : (l.take i).findIdx? (· == v) = none) (hi : i < l.length) (e : ¬v = l.getD i 0) : (l.take (i + 1)).findIdx? (· == v) = none := by
 rw [qbcb hi, List.findIdx?_append, h]
 have : ¬ l.getD i 0 = v := fun h => e h.symm
 simp [List.findIdx?_cons] at this ⊢
 exact this
theorem qbgr {l : List Int} {v : Int} {i : Nat} (h : (l.take i).findIdx? (· == v) = none) (hi : l.length ≤ i) : idxZ l v = -1 := by
 rw [List.take_of_length_le hi] at h
 unfold idxZ; rw [h]
theorem q3n (l : List Int) (v : Int) : (idxZ l v ≥ 0) ↔ v ∈ l := by
 unfold idxZ
 cases h : l.findIdx? (· == v) with
 | none =>
   rw [List.findIdx?_eq_none_iff] at h
   simp only [ge_iff_le]
   constructor
   ·intro h; omega
   ·intro hm; have := h v hm; simp at this
 | some i =>
   rw [List.findIdx?_eq_some_iff_getElem] at h
   obtain ⟨h1, h2, _⟩ := h
   simp at h2
   simp only [ge_iff_le]
   exact ⟨fun _ => h2 ▸ List.getElem_mem h1, fun _ => by omega⟩
end Go.Ev
namespace Go.Ev
noncomputable section
open Go.Proofs Ty
set_option maxRecDepth 10000
set_option maxHeartbeats 4000000
def qj6 : WantZ → D
 | .le n => .fn 48 [.cp [.i .i64 n]]
 | .ge n => .fn 53 [.cp [.i .i64 n]]
 | .save l => .fn 1090999 [.cp [.sl 8 (l.map q0h)]]
 | .out u => .fn 66 [.cp [.sl 1 (u.map (D.i .i64))]]
 | .inn u => .fn 1023757 [.cp [.sl 1 (u.map (D.i .i64))]]
def qio : D → Option WantZ
 | .fn f [.cp [d]] => if f = 48 then (match d with | .i .i64 n => some (.le n) | _ => none) else if f = 53 then (match d with | .i .i64 n => some (.ge n) | _ => none)
   else if f = 1090999 then (decL 8 q0v d).map .save else if f = 66 then (decL 1 (decI .i64) d).map .out else if f = 1023757 then (decL 1 (decI .i64) d).map .inn else none
 | _ => none
theorem q43 {d : D} {x : WantZ} (h : qio d = some x) : dle d (qj6 x) := by
 unfold qio at h
 split at h
 ·split at h
  ·rename_i hf; subst hf
   split at h
   ·cases h; exact q09 _
   ·cases h
  split at h
  ·rename_i hf; subst hf
   split at h
   ·cases h; exact q09 _
   ·cases h
  split at h
  ·rename_i hf; subst hf
   obtain ⟨l, hl, rfl⟩ := Option.map_eq_some_iff.1 h
   exact ⟨rfl, ⟨q00 q02 hl, trivial⟩, trivial⟩
  split at h
  ·rename_i hf; subst hf
   obtain ⟨l, hl, rfl⟩ := Option.map_eq_some_iff.1 h
   exact ⟨rfl, ⟨q00 ql3 hl, trivial⟩, trivial⟩
  split at h
  ·rename_i hf; subst hf
   obtain ⟨l, hl, rfl⟩ := Option.map_eq_some_iff.1 h
   exact ⟨rfl, ⟨q00 ql3 hl, trivial⟩, trivial⟩
  ·cases h
 ·cases h
theorem dWZ1 (n : Int) : qio (.fn 48 [.cp [.i .i64 n]]) = some (.le n) := rfl
theorem dWZ2 (n : Int) : qio (.fn 53 [.cp [.i .i64 n]]) = some (.ge n) := rfl
theorem dWZ3 (l : List Entry) : qio (.fn 1090999 [.cp [.sl 8 (l.map q0h)]]) = some (.save l) := by unfold qio; simp [qcj]
theorem dWZ4 (l : List Int) : qio (.fn 66 [.cp [.sl 1 (l.map (D.i .i64))]]) = some (.out l) := by unfold qio; simp [qd4]
theorem dWZ5 (l : List Int) : qio (.fn 1023757 [.cp [.sl 1 (l.map (D.i .i64))]]) = some (.inn l) := by unfold qio; simp [qd4]
def e96 : List O → Option (Prop × O)
 | [.d x_l, .d (.i .i64 v)] => match decL 1 (decI .i64) x_l with
   | some l => some (l.length ≤ 1000000, .d (.i .i64 (idxZ l v)))
   | _ => none
 | _ => none
def q9h : FuncId → List O → Option (Prop × O) := addT q9g 96 e96
def e67 : List O → Option (Prop × O)
 | [.d x_l, .d (.i .i64 v)] => match decL 1 (decI .i64) x_l with
   | some l => some (l.length ≤ 1000000, .d (.b (decide (v ∈ l))))
   | _ => none
 | _ => none
def q9i : FuncId → List O → Option (Prop × O) := addT q9h 67 e67
def e48z : List O → Option (Prop × O)
 | [.d x_x, .d (.cp [.i .i64 n])] => match q0v x_x with
   | some x => some (True, .d (.b ((WantZ.le n).has x)))
   | _ => none
 | _ => none
def q3o : FuncId → List O → Option (Prop × O) := addT q9i 48 e48z
def e53z : List O → Option (Prop × O)
 | [.d x_x, .d (.cp [.i .i64 n])] => match q0v x_x with
   | some x => some (True, .d (.b ((WantZ.ge n).has x)))
   | _ => none
 | _ => none
def q3p : FuncId → List O → Option (Prop × O) := addT q3o 53 e53z
def e66 : List O → Option (Prop × O)
 | [.d x_x, .d (.cp [x_u])] => match q0v x_x, decL 1 (decI .i64) x_u with
   | some x, some u => some (u.length ≤ 1000000, .d (.b ((WantZ.out u).has x)))
   | _, _ => none
 | _ => none
def q9j : FuncId → List O → Option (Prop × O) := addT q3p 66 e66
def WantZ.ok : WantZ → Prop
 | .save l => False
 | .out u => u.length ≤ 1000000
 | .inn u => False
 | _ => True
def e47z : List O → Option (Prop × O)
 | [.d x_l, .d (.b back), .d x_w] => match decL 8 q0v x_l, qio x_w with
   | some l, some w => some (l.length ≤ 1000000 ∧ w.ok, .d (.sl 5 ((qd1 w.has back l).map q0s)))
   | _, _ => none
 | _ => none
def q3q : FuncId → List O → Option (Prop × O) := addT q9j 47 e47z
end
end Go.Ev
