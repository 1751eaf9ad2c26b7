/- Tools and contracts under the laws of this seat: DyE6 to DyE15. -/
import Derived.Test.YtkgkgcojfocomaaGreatE07
import Derived.Test.YtkgkgcojfocomaaGreatE08
import Derived.Test.YtkgkgcojfocomaaGreatE05
import Derived.Test.YtkgkgcojfocomaaGreatE03
set_option linter.unusedVariables false
set_option linter.unusedSimpArgs false
namespace Go.Ev
open Go.Proofs Ty
set_option maxRecDepth 10000
set_option maxHeartbeats 4000000
noncomputable def e36 : List O → Option (Prop × O)
  | [.d x_l, .d (.b back), .d x_w] => match decL 8 q0w x_l, qpc x_w with
    | some l, some w => some (l.length ≤ 1000000, .d (.sl 5 ((qe7 w back l).map q0u)))
    | _, _ => none
  | _ => none
noncomputable def q7x : FuncId → List O → Option (Prop × O) := addT q7v 36 e36
noncomputable def e35 : List O → Option (Prop × O)
  | [.d x_ts, .d x_cs] => match decL 6 q0y x_ts, decL 5 q00 x_cs with
    | some ts, some cs => some (okTs ts ∧ cs.length ≤ 1000000, .tup [.d (.sl 6 ((qcd ts cs).1.map q0g)), .d (.i .i64 (qcd ts cs).2.1), .d (.i .i64 (qcd ts cs).2.2)])
    | _, _ => none
  | _ => none
noncomputable def q7y : FuncId → List O → Option (Prop × O) := addT q7x 35 e35
end Go.Ev

namespace Go.Ev
theorem qk6 {l : List Entry} (h : (qbc l).2 = 0) {j : Nat} (hj : j < l.length) : 1 ≤ (l.getD j q0i).number ∧ (l.getD j q0i).number ≤ 9999 := qpz (qh3 h hj).1
theorem qfj {ts : List Table} {l : List Entry} (h : chkE ts l = 0) : qd6 ts = 0 ∧ (qbc l).2 = 0 := by
  unfold chkE at h
  split at h
  · contradiction
  · rename_i h2; exact ⟨Decidable.not_not.1 h2, h⟩
theorem qme (w : Want) (back : Bool) (l : List Entry) : (qe7 w back l).length ≤ l.length := by
  have := qbfg w back l
  unfold qe7
  split
  · rw [List.length_reverse]; exact this
  · exact this
def qjv (l : List Entry) : Int := if 0 < l.length then (l.getD 0 q0i).number - 1 else 0
def qlj (l : List Entry) : Int := if 0 < l.length then (l.getD (l.length - 1) q0i).number else 9999
def qlk (l : List Entry) : Int := if 0 < l.length then (l.getD 0 q0i).number else 1
def qnc (l : List Entry) : Int := if 0 < l.length then (l.getD (l.length - 1) q0i).number + 1 else 10000
def qew (ts : List Table) (l : List Entry) (n : Int) : List Table × Int × Int :=
  if chkE ts l ≠ 0 then ([], 0, chkE ts l) else if n < qjv l ∨ qlj l < n then ([], 0, 3) else qcd ts (qe7 ⟨true, n⟩ false l)
def qfk (ts : List Table) (l : List Entry) (n : Int) : List Table × Int × Int :=
  if chkE ts l ≠ 0 then ([], 0, chkE ts l) else if n < qlk l ∨ qnc l < n then ([], 0, 3) else qcd ts (qe7 ⟨false, n⟩ true l)
section
variable {ts : List Table} {l : List Entry} {n : Int}
theorem qmt (h : ¬chkE ts l = 0) : qew ts l n = ([], 0, chkE ts l) := by unfold qew; rw [if_pos h]
theorem qmu (h : chkE ts l = 0) (h2 : n < qjv l ∨ qlj l < n) : qew ts l n = ([], 0, 3) := by unfold qew; rw [if_neg (fun e => e h), if_pos h2]
theorem qp9 (h : chkE ts l = 0) (h2 : qjv l ≤ n ∧ n ≤ qlj l) : qew ts l n = qcd ts (qe7 ⟨true, n⟩ false l) := by unfold qew; rw [if_neg (fun e => e h), if_neg (by omega)]
theorem qnd (h : ¬chkE ts l = 0) : qfk ts l n = ([], 0, chkE ts l) := by unfold qfk; rw [if_pos h]
theorem qne (h : chkE ts l = 0) (h2 : n < qlk l ∨ qnc l < n) : qfk ts l n = ([], 0, 3) := by unfold qfk; rw [if_neg (fun e => e h), if_pos h2]
theorem qrn (h : chkE ts l = 0) (h2 : qlk l ≤ n ∧ n ≤ qnc l) : qfk ts l n = qcd ts (qe7 ⟨false, n⟩ true l) := by unfold qfk; rw [if_neg (fun e => e h), if_neg (by omega)]
theorem qx2 (h : 0 < (l.length : Int)) : qjv l = (l.getD 0 q0i).number - 1 ∧ qlj l = (l.getD (l.length - 1) q0i).number ∧ qlk l = (l.getD 0 q0i).number ∧ qnc l = (l.getD (l.length - 1) q0i).number + 1 := by
  have h : 0 < l.length := by omega
  simp [qjv, qlj, qlk, qnc, h]
theorem qx3 (h : (l.length : Int) ≤ 0) : qjv l = 0 ∧ qlj l = 9999 ∧ qlk l = 1 ∧ qnc l = 10000 := by
  have h : ¬0 < l.length := by omega
  simp [qjv, qlj, qlk, qnc, h]
end
theorem qro {a b : Fmt} (h1 : a.name = b.name) (h2 : a.fields = b.fields) : a = b := by cases a; cases b; simp_all
theorem qpd {a b : File} (h1 : a.name = b.name) (h2 : a.unique = b.unique) (h3 : a.format = b.format) (h4 : a.keys = b.keys) : a = b := by cases a; cases b; simp_all
theorem qmv (a b : Table) : decide (a = b) = (decide (a.file = b.file) && decide (a.records = b.records)) := by
  rw [Bool.eq_iff_iff]; cases a; cases b; simp
end Go.Ev

namespace Go.Ev
open Go.Proofs Ty
set_option maxRecDepth 10000
set_option maxHeartbeats 4000000
noncomputable def e10 : List O → Option (Prop × O)
  | [.d x_ts, .d x_l, .d (.i .i64 n)] => match decL 6 q0y x_ts, decL 8 q0w x_l with
    | some ts, some l => some (okTs ts ∧ l.length ≤ 1000000, .tup [.d (.sl 6 ((qew ts l n).1.map q0g)), .d (.i .i64 (qew ts l n).2.1), .d (.i .i64 (qew ts l n).2.2)])
    | _, _ => none
  | _ => none
noncomputable def q7z : FuncId → List O → Option (Prop × O) := addT q7y 10 e10
noncomputable def e15 : List O → Option (Prop × O)
  | [.d x_ts, .d x_l, .d (.i .i64 n)] => match decL 6 q0y x_ts, decL 8 q0w x_l with
    | some ts, some l => some (okTs ts ∧ l.length ≤ 1000000, .tup [.d (.sl 6 ((qfk ts l n).1.map q0g)), .d (.i .i64 (qfk ts l n).2.1), .d (.i .i64 (qfk ts l n).2.2)])
    | _, _ => none
  | _ => none
noncomputable def q70 : FuncId → List O → Option (Prop × O) := addT q7z 15 e15
noncomputable def e95 : List O → Option (Prop × O)
  | [.d x_f] => match qb3 x_f with
    | some f => some (f.fields.length ≤ 1000000, .d (qbw f))
    | _ => none
  | _ => none
noncomputable def q71 : FuncId → List O → Option (Prop × O) := addT q70 95 e95
noncomputable def e73 : List O → Option (Prop × O)
  | [.d x_f] => match qci x_f with
    | some f => some (f.format.fields.length ≤ 1000000 ∧ f.keys.length ≤ 1000000, .d (qb6 f))
    | _ => none
  | _ => none
noncomputable def q72 : FuncId → List O → Option (Prop × O) := addT q71 73 e73
noncomputable def e38 : List O → Option (Prop × O)
  | [.d x_t] => match q0y x_t with
    | some t => some ((t.file.format.fields.length ≤ 1000000 ∧ t.file.keys.length ≤ 1000000 ∧ t.records.length ≤ 1000000), .d (q0g t))
    | _ => none
  | _ => none
noncomputable def q73 : FuncId → List O → Option (Prop × O) := addT q72 38 e38
noncomputable def e11 : List O → Option (Prop × O)
  | [.d x_ts] => match decL 6 q0y x_ts with
    | some ts => some (okTs ts, .own 80 6 (ts.map q0g))
    | _ => none
  | _ => none
noncomputable def q74 : FuncId → List O → Option (Prop × O) := addT q73 11 e11
noncomputable def e99 : List O → Option (Prop × O)
  | [.d x_a, .d x_b] => match decL 2 qc5 x_a, decL 2 qc5 x_b with
    | some a, some b => some (a.length ≤ 1000000, .d (.b (decide (a = b))))
    | _, _ => none
  | _ => none
noncomputable def q75 : FuncId → List O → Option (Prop × O) := addT q74 99 e99
noncomputable def e126 : List O → Option (Prop × O)
  | [.d x_a, .d x_b] => match qb3 x_a, qb3 x_b with
    | some a, some b => some (a.fields.length ≤ 1000000, .d (.b (decide (a = b))))
    | _, _ => none
  | _ => none
noncomputable def q1k : FuncId → List O → Option (Prop × O) := addT q75 126 e126
noncomputable def e98 : List O → Option (Prop × O)
  | [.d x_a, .d x_b] => match qci x_a, qci x_b with
    | some a, some b => some (a.format.fields.length ≤ 1000000 ∧ a.keys.length ≤ 1000000, .d (.b (decide (a = b))))
    | _, _ => none
  | _ => none
noncomputable def q76 : FuncId → List O → Option (Prop × O) := addT q1k 98 e98
noncomputable def e78 : List O → Option (Prop × O)
  | [.d x_a, .d x_b] => match q0y x_a, q0y x_b with
    | some a, some b => some (okT a, .d (.b (decide (a = b))))
    | _, _ => none
  | _ => none
noncomputable def q77 : FuncId → List O → Option (Prop × O) := addT q76 78 e78
noncomputable def e64 : List O → Option (Prop × O)
  | [.d x_f] => match qb3 x_f with
    | some f => some (True, .d (.b (decide ((f.fields.length : Int) ≤ 22))))
    | _ => none
  | _ => none
noncomputable def q78 : FuncId → List O → Option (Prop × O) := addT q77 64 e64
end Go.Ev

namespace Go.Ev
def qn2 (t : Table) (k : Nat) : Int := if 220 < ((t.records.getD k zRec).bytes.size : Int) then 1 else 0
def qis (t : Table) : Prop := 22 < (t.file.format.fields.length : Int) ∨ 6 < (t.file.keys.length : Int) ∨ 62 < (t.records.length : Int)
instance (t : Table) : Decidable (qis t) := by unfold qis; infer_instance
def qh6 (l : List Table) (i : Nat) : Int := if qis (l.getD i q0z) then 1 else match qb8 (qn2 (l.getD i q0z)) (l.getD i q0z).records.length with
  | some _ => 1
  | none => 0
def qhe (l : List Table) : Bool := if 10 < (l.length : Int) then false else (qb8 (qh6 l) l.length).isNone
section
variable {l : List Table} {i k : Nat}
theorem qbfj (h : 10 < (l.length : Int)) : qhe l = false := by unfold qhe; rw [if_pos h]
theorem q48 (h10 : (l.length : Int) ≤ 10) (h : ∀ j, j < i → qh6 l j = 0) (hi : i < l.length) (hg : ¬qh6 l i = 0) : qhe l = false := by
  unfold qhe
  rw [if_neg (by omega), qd8 h hi hg]; rfl
theorem q49 (h10 : (l.length : Int) ≤ 10) (h : ∀ j, j < i → qh6 l j = 0) (hi : l.length ≤ i) : qhe l = true := by
  unfold qhe
  rw [if_neg (by omega), qd1 fun j hj => h j (by omega)]; rfl
theorem q36 (h : qis (l.getD i q0z)) : ¬qh6 l i = 0 := by unfold qh6; rw [if_pos h]; decide
theorem q79 (h : ∀ j, j < k → qn2 (l.getD i q0z) j = 0) (hk : k < (l.getD i q0z).records.length) (hg : 220 < (((l.getD i q0z).records.getD k zRec).bytes.size : Int)) : ¬qh6 l i = 0 := by
  unfold qh6
  split
  · decide
  · rw [qd8 h hk (by unfold qn2; rw [if_pos hg]; decide)]; exact (by decide : ¬(1 : Int) = 0)
theorem qu7 (hh : ¬qis (l.getD i q0z)) (h : ∀ j, j < k → qn2 (l.getD i q0z) j = 0) (hk : (l.getD i q0z).records.length ≤ k) : qh6 l i = 0 := by
  unfold qh6
  rw [if_neg hh, qd1 fun j hj => h j (by omega)]
theorem qx4 {t : Table} (h : ((t.records.getD k zRec).bytes.size : Int) ≤ 220) : qn2 t k = 0 := by unfold qn2; rw [if_neg (by omega)]
theorem qkt (h : qhe l = true) : okTs l ∧ l.length ≤ 10 := by
  unfold qhe at h
  split at h
  · cases h
  refine ⟨⟨by omega, fun i => ?_⟩, by omega⟩
  by_cases hi : i < l.length
  · have hz : qh6 l i = 0 := by
      cases hf : qb8 (qh6 l) l.length with
      | some j => rw [hf] at h; cases h
      | none =>
        unfold qb8 at hf
        rw [List.find?_eq_none] at hf
        have := hf i (by simpa using hi)
        simpa using this
    unfold qh6 at hz
    split at hz
    · cases hz
    · rename_i hh
      unfold qis at hh
      refine ⟨?_, ?_, ?_⟩ <;> omega
  · have : l.getD i q0z = q0z := by simp [List.getD, List.getElem?_eq_none (Nat.le_of_not_lt hi)]
    rw [this]
    exact ⟨by decide, by decide, by decide⟩
end
end Go.Ev

namespace Go.Ev
open Go.Proofs Ty
set_option maxRecDepth 10000
set_option maxHeartbeats 4000000
noncomputable def e43 : List O → Option (Prop × O)
  | [.d x_a, .d x_b] => match decL 6 q0y x_a, decL 6 q0y x_b with
    | some a, some b => some (okTs a, .d (.b (decide (a = b))))
    | _, _ => none
  | _ => none
noncomputable def q8a : FuncId → List O → Option (Prop × O) := addT q78 43 e43
noncomputable def e32 : List O → Option (Prop × O)
  | [.d x_l] => match decL 6 q0y x_l with
    | some l => some (True, .d (.b (qhe l)))
    | _ => none
  | _ => none
noncomputable def q8b : FuncId → List O → Option (Prop × O) := addT q8a 32 e32
noncomputable def e9 : List O → Option (Prop × O)
  | [.d x_ts, .d x_l] => match decL 6 q0y x_ts, decL 8 q0w x_l with
    | some ts, some l => some (True, .d (.b (qhe ts && qld l)))
    | _, _ => none
  | _ => none
noncomputable def tab9 : FuncId → List O → Option (Prop × O) := addT q8b 9 e9
end Go.Ev

namespace Go.Ev
def qnf (l : List Rec) : List Rec := (l.reverse.dropWhile fun r => r.deleted).reverse
def qh7 (t : Table) : Table := ⟨t.file, qnf t.records⟩
theorem q5a {α : Type} (p : α → Bool) (z : α) : ∀ {l : List α} {k : Nat}, (∀ j, j < k → p (l.getD j z) = true) → k ≤ l.length → (k = l.length ∨ p (l.getD k z) = false) → l.dropWhile p = l.drop k
  | [], k, _, hi, _ => by simp at hi; subst hi; rfl
  | x :: l, 0, _, _, h => by
    have : p x = false := by rcases h with h | h; cases h; simpa using h
    simp [this]
  | x :: l, k + 1, h, hi, h2 => by
    have hx : p x = true := by simpa using h 0 (by omega)
    have h1 : ∀ j, j < k → p (l.getD j z) = true := fun j hj => by
      have := h (j + 1) (by omega)
      simpa using this
    rw [List.dropWhile_cons, if_pos hx, List.drop_succ_cons, q5a p z h1 (by simpa using hi) (by rcases h2 with h2 | h2; left; simpa using h2; right; simpa using h2)]
theorem q1l (l : List Rec) {j : Nat} (hj : j < l.length) : l.reverse.getD j zRec = l.getD (l.length - 1 - j) zRec := by
  simp only [List.getD]; rw [List.getElem?_reverse hj]
theorem qbmt {l : List Rec} {n : Nat} (hn : n ≤ l.length) (h : ∀ j, n ≤ j → j < l.length → (l.getD j zRec).deleted = true) (h2 : n = 0 ∨ (l.getD (n - 1) zRec).deleted = false) : qnf l = l.take n := by
  unfold qnf
  rw [q5a (fun r => r.deleted) zRec (k := l.length - n) (fun j hj => by rw [q1l l (by omega)]; exact h _ (by omega) (by omega)) (by simp) (by
    rcases h2 with h2 | h2
    · left; simp; omega
    · by_cases h0 : n = 0
      · left; simp; omega
      · right; rw [q1l l (by omega), show l.length - 1 - (l.length - n) = n - 1 by omega]; exact h2)]
  rw [List.drop_reverse, List.reverse_reverse, show l.length - (l.length - n) = n by omega]
def qh8 (l : List Table) (i : Nat) : List Table := (l.take i).map qh7 ++ l.drop i
theorem qll (l : List Table) (i : Nat) : (qh8 l i).length = l.length := by simp [qh8]; omega
theorem q37 (l : List Table) {i : Nat} (hi : i < l.length) : (qh8 l i).getD i q0z = l.getD i q0z := by
  simp only [qh8, List.getD]
  rw [List.getElem?_append_right (by simp; omega)]
  simp [Nat.min_eq_left (Nat.le_of_lt hi)]
theorem q8c {l : List Table} {i : Nat} (hi : i < l.length) (z : D) : ((qh8 l i).map q0g).getD i z = q0g (l.getD i q0z) := by
  rw [qgj (by rw [qll]; exact hi), q37 l hi]
theorem q38 {l : List Table} {i : Nat} (hi : i < l.length) : (qh8 l i).set i (qh7 (l.getD i q0z)) = qh8 l (i + 1) := by
  have e : l.drop i = l.getD i q0z :: l.drop (i + 1) := by
    rw [List.drop_eq_getElem_cons hi]; simp [List.getD, List.getElem?_eq_getElem hi]
  simp only [qh8]
  rw [e, List.set_append_right _ _ (by simp; omega), qdw q0z hi, List.map_append]
  simp [Nat.min_eq_left (Nat.le_of_lt hi)]
theorem q8d {l : List Table} {i : Nat} (hi : l.length ≤ i) : qh8 l i = l.map qh7 := by simp [qh8, List.take_of_length_le hi, List.drop_eq_nil_of_le hi]
def qu8 (a b : List Table) : Bool := qhe a && decide (a.map qh7 = b.map qh7)
theorem qba6 (l : List Rec) : (qnf l).length ≤ l.length := by
  unfold qnf
  rw [List.length_reverse]
  have := (List.dropWhile_suffix (l := l.reverse) fun r => r.deleted).length_le
  simpa using this
theorem qba7 {l : List Table} (h : okTs l) : okTs (l.map qh7) := by
  refine ⟨by rw [List.length_map]; exact h.1, fun i => ?_⟩
  have e : (l.map qh7).getD i q0z = qh7 (l.getD i q0z) := by
    simp only [List.getD, List.getElem?_map]
    cases l[i]? <;> rfl
  rw [e]
  have hi := h.2 i
  have := qba6 (l.getD i q0z).records
  exact ⟨hi.1, hi.2.1, by have := hi.2.2; show (qnf _).length ≤ _; omega⟩
end Go.Ev

namespace Go.Ev
open Go.Proofs Ty
set_option maxRecDepth 10000
set_option maxHeartbeats 4000000
noncomputable def e60 : List O → Option (Prop × O)
  | [.d x_l] => match decL 6 q0y x_l with
    | some l => some (okTs l, .d (.sl 6 ((l.map qh7).map q0g)))
    | _ => none
  | _ => none
noncomputable def q8e : FuncId → List O → Option (Prop × O) := addT tab9 60 e60
noncomputable def e27 : List O → Option (Prop × O)
  | [.d x_a, .d x_b] => match decL 6 q0y x_a, decL 6 q0y x_b with
    | some a, some b => some (okTs b, .d (.b (qu8 a b)))
    | _, _ => none
  | _ => none
noncomputable def q8f : FuncId → List O → Option (Prop × O) := addT q8e 27 e27
end Go.Ev

namespace Go.Ev
section
variable {ts : List Table} {l : List Entry} {c : Change} {i : Nat}
end
end Go.Ev

namespace Go.Ev
open Go.Proofs Ty
set_option maxRecDepth 10000
set_option maxHeartbeats 4000000
end Go.Ev

namespace Go.Ev
theorem qit {g : Nat → Int} {n : Nat} (h : qb8 g n = none) : ∀ j, j < n → g j = 0 := by
  unfold qb8 at h
  rw [List.find?_eq_none] at h
  intro j hj
  have := h j (by simpa using hj)
  simpa using this
theorem qlm {g : Nat → Int} {n i : Nat} (h : qb8 g n = some i) : ¬g i = 0 := by
  unfold qb8 at h
  have := List.find?_some h
  simpa using this
theorem q5b {ts : List Table} {cs : List Change} (h : (qcd ts cs).2.2 = 0) : (∀ k, k < cs.length → mErr ts cs k = 0) ∧ qcd ts cs = ((mTo ts cs cs.length).1, (mTo ts cs cs.length).2, 0) := by
  unfold qcd at h ⊢
  cases hf : qb8 (mErr ts cs) cs.length with
  | some k => rw [hf] at h; exact absurd h (qlm hf)
  | none => exact ⟨qit hf, rfl⟩
theorem qih : okTs [] := ⟨by simp, fun i => by
  have : ([] : List Table).getD i q0z = q0z := rfl
  rw [this]; exact ⟨by decide, by decide, by decide⟩⟩
theorem qmw {ts : List Table} {cs : List Change} (h : okTs ts) : okTs (qcd ts cs).1 := by
  unfold qcd
  cases hf : qb8 (mErr ts cs) cs.length with
  | some k => exact qih
  | none => exact qu6 h (qit hf)
theorem qfs {ts : List Table} {l : List Entry} {n : Int} (h : okTs ts) : okTs (qew ts l n).1 := by
  unfold qew
  split
  · exact qih
  split
  · exact qih
  · exact qmw h
theorem qhi {ts : List Table} {l : List Entry} {n : Int} (h : okTs ts) : okTs (qfk ts l n).1 := by
  unfold qfk
  split
  · exact qih
  split
  · exact qih
  · exact qmw h
theorem qbfk {ts : List Table} {l : List Entry} {n : Int} (h : (qew ts l n).2.2 = 0) : chkE ts l = 0 ∧ qjv l ≤ n ∧ n ≤ qlj l ∧ qew ts l n = qcd ts (qe7 ⟨true, n⟩ false l) := by
  by_cases h1 : chkE ts l = 0
  · by_cases h2 : n < qjv l ∨ qlj l < n
    · rw [qmu h1 h2] at h; cases h
    · exact ⟨h1, by omega, by omega, qp9 h1 (by omega)⟩
  · rw [qmt h1] at h; exact absurd h h1
theorem qbfl {l : List Entry} (h : (qbc l).2 = 0) {j : Nat} (hj : j < l.length) : (l.getD j q0i).number ≤ (l.getD (l.length - 1) q0i).number := by
  by_cases e : j = l.length - 1
  · rw [e]; exact Int.le_refl _
  · have := qwb (fun j hj => qh3 h hj) j (l.length - 1) (by omega) (by omega)
    omega
theorem qba8 {l : List Entry} (h : (qbc l).2 = 0) : qev ⟨true, (l.getD (l.length - 1) q0i).number⟩ false l = (l.filter fun x => decide (x.kind = 0)).map (·.change) := by
  unfold qev
  have e : l.filter (qgn ⟨true, (l.getD (l.length - 1) q0i).number⟩) = l.filter fun x => decide (x.kind = 0) := by
    apply List.filter_congr
    intro x hx
    obtain ⟨j, hj, rfl⟩ := List.getElem_of_mem hx
    have := qbfl h hj
    have g : l.getD j q0i = l[j] := by simp [List.getD, List.getElem?_eq_getElem hj]
    rw [g] at this
    generalize (l.getD (l.length - 1) q0i).number = q at this ⊢
    simp [qgn, Want.has, this]
  rw [e]
  rfl
theorem qx5 (l : List Table) (i : Nat) (n : Int) (r : Rec) : (l.set i (qey (l.getD i q0z) n r)).map (·.file) = l.map (·.file) := by
  rw [List.map_set]
  show (l.map (·.file)).set i (l.getD i q0z).file = _
  by_cases h : i < l.length
  · have e : (l.getD i q0z).file = (l.map (·.file))[i]'(by simpa using h) := by simp [List.getD, List.getElem?_eq_getElem h]
    rw [e, List.set_getElem_self]
  · rw [List.set_eq_of_length_le (by simpa using h)]
theorem qx6 (ts : List Table) (cs : List Change) : ∀ k, (mTo ts cs k).1.map (·.file) = ts.map (·.file)
  | 0 => rfl
  | k + 1 => by
    have ih := qx6 ts cs k
    simp only [mTo, qcf]
    split
    · exact ih
    · simp only
      rw [qx5]
      exact ih
theorem qmf {a b : List Table} (h : a.map (·.file) = b.map (·.file)) (n : ByteArray) : qbq a n = qbq b n := by
  have hl : a.length = b.length := by have := congrArg List.length h; simpa using this
  have hg : qf3 a n = qf3 b n := by
    funext i
    unfold qf3
    have e : ∀ l : List Table, (l.getD i q0z).file = (l.map (·.file)).getD i quv := fun l => by
      simp only [List.getD, List.getElem?_map]
      cases l[i]? <;> rfl
    rw [e a, e b, h]
  unfold qbq
  rw [hg, hl]
theorem qbfm (ts : List Table) (cs : List Change) (k : Nat) (n : ByteArray) : qbq (mTo ts cs k).1 n = qbq ts n := qmf (qx6 ts cs k) n
theorem qx7 {l : List Table} {n : ByteArray} (h : 0 ≤ qbq l n) : (l.getD (qbq l n).toNat q0z).file.name = n := by
  unfold qbq at h ⊢
  cases hf : qb8 (qf3 l n) l.length with
  | none => rw [hf] at h; simp at h
  | some i =>
    have := qlm hf
    unfold qf3 at this
    simp only [Int.toNat_natCast]
    split at this
    · assumption
    · exact absurd rfl this
theorem qx8 {t : Table} {n : Int} {r : Rec} (h1 : 1 ≤ n) (h2 : n ≤ (t.records.length : Int) + 1) : n ≤ ((qey t n r).records.length : Int) ∧ (qey t n r).records.getD (n - 1).toNat zRec = r := by
  unfold qey
  simp only
  split
  · have e : (n - 1).toNat = t.records.length := by omega
    refine ⟨by simp; omega, ?_⟩
    rw [e]
    simp [List.getD]
  · refine ⟨by simp; omega, ?_⟩
    rw [qk4, if_pos ⟨rfl, by omega⟩]
theorem qu9 {t : Table} {n m : Int} {r : Rec} (h1 : 1 ≤ n) (h3 : 1 ≤ m) (hm : m ≤ (t.records.length : Int)) (hne : ¬n = m) : m ≤ ((qey t n r).records.length : Int) ∧ (qey t n r).records.getD (m - 1).toNat zRec = t.records.getD (m - 1).toNat zRec := by
  unfold qey
  simp only
  split
  · refine ⟨by simp; omega, ?_⟩
    simp only [List.getD]
    rw [List.getElem?_append_left (by omega)]
  · refine ⟨by simp; omega, ?_⟩
    rw [qk4, if_neg (by omega)]
end Go.Ev

namespace Go.Ev
open Go.Proofs Ty
set_option maxRecDepth 10000
set_option maxHeartbeats 4000000
end Go.Ev

namespace Go.Ev
def recR (f : Fmt) (r : Rec) : Int := if r.deleted = true then (if r.bytes ≠ ⟨#[]⟩ then 5 else 0) else (qc3 f r.bytes).2.2
structure RightT (t : Table) : Prop where
  file : (qcb t.file).2 = 0
  len : t.records.length ≤ 60
  recs : ∀ i, i < t.records.length → recR t.file.format (t.records.getD i zRec) = 0
theorem q1m {t : Table} (h : (q08 t).2 = 0) : RightT t := by
  unfold q08 at h
  split at h
  · rename_i h2; exact absurd h h2
  split at h
  · cases h
  rename_i h1 h2
  cases hf : qb8 (recE t) t.records.length with
  | some i => rw [hf] at h; exact absurd h (qlm hf)
  | none => exact ⟨Decidable.not_not.1 h1, by omega, fun i hi => qit hf i hi⟩
theorem qbfn {t : Table} (h : RightT t) : (q08 t).2 = 0 := by
  rw [qrj ⟨h.file, h.len⟩ (fun j hj => h.recs j hj) (Nat.le_refl _)]
structure ChgOk (t : Table) (c : Change) : Prop where
  right : RightT t
  file : c.file = t.file.name
  kind : c.kind = 0 ∨ c.kind = 1 ∨ c.kind = 2
  lo : 1 ≤ c.rrn
  form0 : c.kind = 0 → c.before = ⟨#[]⟩
  form2 : c.kind = 2 → c.after = ⟨#[]⟩
  ins : c.kind = 0 → c.rrn ≤ (t.records.length : Int) + 1 ∧ c.rrn ≤ 60 ∧ (c.rrn ≤ (t.records.length : Int) → (qmc t c).deleted = true)
  upd : c.kind ≠ 0 → c.rrn ≤ (t.records.length : Int) ∧ (qmc t c).deleted = false ∧ (qmc t c).bytes = c.before
  val : c.kind ≠ 2 → (qc3 t.file.format c.after).2.2 = 0
theorem qtn {t : Table} {c : Change} (h : qcx t c = 0) : ChgOk t c := by
  have hh := qrl h
  obtain ⟨h1, h2, h3, h4, h5, h6, h7⟩ := qrk hh
  have hp : qg7 t c = 0 := by
    unfold qcx at h
    rw [if_neg (fun e => e hh)] at h
    split at h
    · exact h
    · rename_i q; exact Decidable.byContradiction fun e => q (.inl e)
  have hv : c.kind ≠ 2 → (qc3 t.file.format c.after).2.2 = 0 := by
    intro h2
    unfold qcx at h
    rw [if_neg (fun e => e hh), if_neg (by rintro (e | e); exact e hp; exact h2 e)] at h
    exact h
  refine ⟨q1m h1, h2, by omega, h5, ?_, ?_, ?_, ?_, hv⟩
  · intro k; unfold qg1 at h7; simp [k] at h7; exact h7
  · intro k; unfold qg1 at h7; simp [k] at h7; exact h7
  · intro k
    unfold qms at h6
    rw [if_pos k] at h6
    unfold qg7 at hp
    rw [if_pos k] at hp
    have hg : qiq t c = true := by
      cases e : qiq t c with
      | true => rfl
      | false => simp [qbs, e] at hp
    have h60 : ¬60 < c.rrn := by
      intro e
      simp [qbs, hg, e] at hp
    refine ⟨h6, by omega, fun hl => ?_⟩
    unfold qiq at hg
    rw [show decide (c.rrn = (t.records.length : Int) + 1) = false by simp; omega, Bool.false_or] at hg
    exact hg
  · intro k
    unfold qms at h6
    rw [if_neg k] at h6
    unfold qg7 at hp
    rw [if_neg k] at hp
    have hg : qiq t c = false := by
      cases e : qiq t c with
      | false => rfl
      | true => rw [e] at hp; simp at hp
    rw [if_neg (by simp [hg])] at hp
    refine ⟨h6, ?_, ?_⟩
    · unfold qiq at hg
      rw [Bool.or_eq_false_iff] at hg
      exact hg.2
    · split at hp
      · cases hp
      · rename_i q; exact Decidable.not_not.1 q
theorem qx9 (t : Table) (n : Int) (r : Rec) : ((qey t n r).records.length : Int) = if (t.records.length : Int) < n then (t.records.length : Int) + 1 else t.records.length := by
  unfold qey
  simp only
  split
  · simp
  · simp
theorem q8g {t : Table} {c : Change} (h : ChgOk t c) : RightT (qey t c.rrn (qfb c)) := by
  have hl := qx9 t c.rrn (qfb c)
  have hp : c.rrn ≤ (t.records.length : Int) + 1 ∧ c.rrn ≤ 60 := by
    have := h.right.len
    by_cases k : c.kind = 0
    · have := h.ins k; omega
    · have := h.upd k; omega
  have h60 := h.right.len
  have hlo := h.lo
  refine ⟨h.right.file, by split at hl <;> omega, fun i hi => ?_⟩
  show recR t.file.format _ = 0
  by_cases e : i = (c.rrn - 1).toNat
  · subst e
    rw [(qx8 (r := qfb c) h.lo hp.1).2]
    unfold recR qfb
    by_cases k : c.kind = 2
    · rw [if_pos (by simp [k]), if_neg (fun e => e (h.form2 k))]
    · rw [if_neg (by simp [k])]; exact h.val k
  · have hi2 : i < t.records.length := by split at hl <;> omega
    have hw := (qu9 (t := t) (r := qfb c) (n := c.rrn) (m := (i : Int) + 1) h.lo (by omega) (by omega) (by omega)).2
    rw [show ((i : Int) + 1 - 1).toNat = i by omega] at hw
    rw [hw]
    exact h.right.recs i hi2
def delR : Rec := ⟨true, ⟨#[]⟩⟩
def extT (a b : Table) : Prop := b.file = a.file ∧ ∃ k, b.records = a.records ++ List.replicate k delR
def rv (c : Change) : Change := (qgi c).1
theorem qbix {c : Change} (h : c.kind = 0 ∨ c.kind = 1 ∨ c.kind = 2) : rv c = ⟨c.file, qhx c.kind, c.rrn, c.after, c.before⟩ := by
  unfold rv qgi
  rw [if_pos (by omega)]
structure TabsR (l : List Table) : Prop where
  len : l.length ≤ 8
  right : ∀ i, i < l.length → RightT (l.getD i q0z)
  once : ∀ i, i < l.length → (i : Int) ≤ qbq l (l.getD i q0z).file.name
theorem qwm {l : List Table} (h : qd6 l = 0) : TabsR l := by
  unfold qd6 at h
  split at h
  · cases h
  cases hf : qb8 (tabE l) l.length with
  | some i => rw [hf] at h; exact absurd h (qlm hf)
  | none =>
    have ha := qit hf
    refine ⟨by omega, fun i hi => ?_, fun i hi => ?_⟩
    · have := ha i hi
      unfold tabE at this
      split at this
      · rename_i q; exact absurd this q
      · rename_i q; exact q1m (Decidable.not_not.1 q)
    · have := ha i hi
      unfold tabE at this
      split at this
      · rename_i q; exact absurd this q
      split at this
      · cases this
      · omega
theorem qbmu {l : List Table} (h : TabsR l) : qd6 l = 0 :=
  q1i h.len (fun j hj => qwl (qbfn (h.right j hj)) (h.once j hj)) (Nat.le_refl _)
def cond (s : List Table) (c : Change) : Int := if qbq s c.file < 0 then 0 else qcx (s.getD (qbq s c.file).toNat q0z) c
def qh9 (s : List Table × Int) (cs : List Change) : Prop := ∀ k, k < cs.length → cond ((cs.take k).foldl qcf s).1 (cs.getD k q09) = 0
theorem qln {s : List Table × Int} {c : Change} {cs : List Change} : qh9 s (c :: cs) ↔ cond s.1 c = 0 ∧ qh9 (qcf s c) cs := by
  constructor
  · intro h
    refine ⟨by simpa using h 0 (by simp), fun k hk => ?_⟩
    simpa using h (k + 1) (by simpa using hk)
  · rintro ⟨h1, h2⟩ k hk
    cases k with
    | zero => simpa using h1
    | succ k => simpa using h2 k (by simpa using hk)
theorem qba9 {s : List Table × Int} : qh9 s [] := fun k hk => by simp at hk
theorem q1n {a b : List Change} : ∀ {s : List Table × Int}, qh9 s (a ++ b) ↔ qh9 s a ∧ qh9 (a.foldl qcf s) b := by
  induction a with
  | nil => intro s; simp [qba9]
  | cons c a ih =>
    intro s
    rw [List.cons_append, qln, qln, ih, List.foldl_cons, and_assoc]
theorem qsk {ts : List Table} {cs : List Change} : ∀ {k : Nat}, k ≤ cs.length → mTo ts cs k = (cs.take k).foldl qcf (ts, 0)
  | 0, _ => rfl
  | k + 1, h => by
    rw [mTo, qsk (by omega), qdw q09 (by omega), List.foldl_append]
    rfl
theorem qqa {ts : List Table} {cs : List Change} : (qcd ts cs).2.2 = 0 ↔ qh9 (ts, 0) cs := by
  constructor
  · intro h k hk
    have := (q5b h).1 k hk
    unfold mErr at this
    rw [qsk (by omega)] at this
    exact this
  · intro h
    rw [qp8 (k := cs.length) (fun j hj => ?_) rfl]
    have := h j hj
    unfold mErr
    rw [qsk (by omega)]
    exact this
theorem qwn {ts : List Table} {cs : List Change} (h : qh9 (ts, 0) cs) : qcd ts cs = ((cs.foldl qcf (ts, 0)).1, (cs.foldl qcf (ts, 0)).2, 0) := by
  rw [(q5b (qqa.2 h)).2, qsk (Nat.le_refl _), List.take_length]
def extL (a b : List Table) : Prop := a.length = b.length ∧ ∀ i, i < a.length → extT (a.getD i q0z) (b.getD i q0z)
theorem qol (l : List Table) (i : Nat) : (l.getD i q0z).file = (l.map (·.file)).getD i quv := by
  simp only [List.getD, List.getElem?_map]
  cases l[i]? <;> rfl
theorem qqb (s : List Table × Int) (c : Change) : (qcf s c).1.map (·.file) = s.1.map (·.file) := by
  unfold qcf
  split
  · rfl
  · simp only
    rw [qx5]
theorem q8h {s : List Table × Int} {c : Change} (h : TabsR s.1) (hc : cond s.1 c = 0) : TabsR (qcf s c).1 := by
  have hf := qqb s c
  have hl : (qcf s c).1.length = s.1.length := by have := congrArg List.length hf; simpa using this
  refine ⟨by rw [hl]; exact h.len, fun i hi => ?_, fun i hi => ?_⟩
  · rw [hl] at hi
    unfold qcf
    split
    · exact h.right i hi
    · rename_i hn
      simp only
      unfold cond at hc
      rw [if_neg hn] at hc
      rw [qk4]
      split
      · exact q8g (qtn hc)
      · exact h.right i hi
  · rw [hl] at hi
    rw [qmf hf, qol, hf, ← qol]
    exact h.once i hi
theorem qya {cs : List Change} : ∀ {s : List Table × Int}, TabsR s.1 → qh9 s cs → TabsR (cs.foldl qcf s).1 := by
  induction cs with
  | nil => intro s h _; exact h
  | cons c cs ih =>
    intro s h hr
    have hr := qln.1 hr
    exact ih (q8h h hr.1) hr.2
theorem qbfo (l : List Rec) (k : Nat) : qnf (l ++ List.replicate k delR) = qnf l := by
  unfold qnf
  rw [List.reverse_append, List.reverse_replicate]
  congr 1
  induction k with
  | zero => rfl
  | succ k ih =>
    rw [List.replicate_succ, List.cons_append, List.dropWhile_cons, if_pos (show delR.deleted = true from rfl)]
    exact ih
theorem qbfp {a b : Table} (h : extT a b) : qh7 b = qh7 a := by
  obtain ⟨h1, k, h2⟩ := h
  unfold qh7
  rw [h1, h2, qbfo]
theorem qbba {a b : List Table} (h : extL a b) : b.map qh7 = a.map qh7 := by
  apply List.ext_getElem
  · simpa using h.1.symm
  · intro i h1 h2
    have h1 : i < b.length := by simpa using h1
    have h2 : i < a.length := by simpa using h2
    have := qbfp (h.2 i h2)
    simp only [List.getD, List.getElem?_eq_getElem h1, List.getElem?_eq_getElem h2, Option.getD_some] at this
    simpa using this
theorem qbfq {f : Fmt} {b : ByteArray} (h : (qc3 f b).2.2 = 0) : (b.size : Int) ≤ 200 := by
  by_cases h1 : (qca f).2 = 0
  · by_cases h2 : (b.size : Int) = qfe f
    · have := (qu1 h1).2.2.2.2.1
      rw [h2]; exact this
    · rw [qsg h1 h2] at h; cases h
  · rw [qsf h1] at h; exact absurd h h1
theorem qbbb {l : List Table} (h : TabsR l) : qhe l = true := by
  refine q49 (by have := h.len; omega) (fun i hi => ?_) (Nat.le_refl _)
  have hr := h.right i hi
  have hf := qbmp hr.file
  have hm := qu1 hf.2.1
  refine qu7 (k := (l.getD i q0z).records.length) ?_ (fun k hk => ?_) (Nat.le_refl _)
  · unfold qis
    have := hr.len
    omega
  · have hg := hr.recs k hk
    apply qx4
    unfold recR at hg
    split at hg
    · split at hg
      · cases hg
      · rename_i q
        rw [Decidable.not_not.1 q]; decide
    · have := qbfq hg; omega
end Go.Ev

namespace Go.Ev
theorem qbrj (l : List Entry) : l.map (qkg true) = (l.map (·.change)).map rv := by
  rw [List.map_map]; rfl
theorem qbrk (l : List Entry) : l.map (qkg false) = l.map (·.change) := rfl
theorem qqc {e : Entry} (h : qc7 e = 0) (hk : e.kind = 0) : e.change.kind = 0 ∨ e.change.kind = 1 ∨ e.change.kind = 2 := by
  unfold qc7 at h
  split at h
  · cases h
  split at h
  · cases h
  split at h
  · cases h
  split at h
  · cases h
  split at h
  · cases h
  split at h
  · rename_i q; exact absurd hk q.1
  split at h
  · cases h
  split at h
  · rename_i q; omega
  unfold qk1 at h
  split at h
  · cases h
  omega
theorem qbfr {l : List Entry} (h : (qbc l).2 = 0) {p : Entry → Bool} (hp : ∀ x, p x = true → x.kind = 0) : ∀ c ∈ (l.filter p).map (·.change), c.kind = 0 ∨ c.kind = 1 ∨ c.kind = 2 := by
  intro c hc
  obtain ⟨x, hx, rfl⟩ := List.mem_map.1 hc
  obtain ⟨h1, h2⟩ := List.mem_filter.1 hx
  obtain ⟨j, hj, rfl⟩ := List.getElem_of_mem h1
  have := (qh3 h hj).1
  simp only [List.getD, List.getElem?_eq_getElem hj, Option.getD_some] at this
  exact qqc this (hp _ h2)
end Go.Ev

namespace Go.Ev
open Go.Proofs Ty
set_option maxRecDepth 10000
set_option maxHeartbeats 4000000
end Go.Ev

namespace Go.Ev
theorem qbrl {c : Int} (h0 : 0 ≤ c) (h1 : c < 256) : loB c = c % 16 := by
  have key : ∀ k : Fin 256, loB ((k.1 : Nat) : Int) = ((k.1 : Nat) : Int) % 16 := by decide +kernel
  have := key ⟨c.toNat, by omega⟩
  simpa [Int.toNat_of_nonneg h0] using this
theorem qbbc (c : Int) : hiB c = c / 16 := by
  unfold hiB
  rw [Int.fdiv_eq_ediv_of_nonneg _ (by decide)]
  rfl
theorem qhq (b : ByteArray) (i : Nat) : 0 ≤ chr b i ∧ chr b i < 256 := by
  have := qz0 b i; omega
theorem qbbd (b : ByteArray) (i : Nat) : loB (chr b i) = chr b i % 16 := qbrl (qhq b i).1 (qhq b i).2
theorem q1o (b : ByteArray) (i : Nat) : (chr b i).tmod 16 = loB (chr b i) := by
  rw [qbbd, Int.tmod_eq_emod_of_nonneg (qhq b i).1]
theorem q1p (b : ByteArray) (i : Nat) : (chr b i).tdiv 16 = hiB (chr b i) := by
  rw [qbbc, Int.tdiv_eq_ediv_of_nonneg (qhq b i).1]
theorem qva (b : ByteArray) (i : Nat) : 0 ≤ loB (chr b i) ∧ loB (chr b i) ≤ 15 := by rw [qbbd]; omega
theorem qvb (b : ByteArray) (i : Nat) : 0 ≤ hiB (chr b i) ∧ hiB (chr b i) ≤ 15 := by
  have := qhq b i
  rw [qbbc]; omega
theorem qrp {t : DType} {b : ByteArray} (h : t.kind = 1) : ∀ {n i : Nat}, i < 2 * n → (qf5 t b n).getD i 0 = if i % 2 = 1 then loB (chr b (i / 2)) else hiB (chr b (i / 2))
  | 0, i, hi => by omega
  | n + 1, i, hi => by
    have hl := qf2 t b n
    rw [if_pos h] at hl
    rw [qwd h]
    simp only [List.getD]
    by_cases e : i < 2 * n
    · rw [List.getElem?_append_left (by omega)]
      exact qrp h e
    · rw [List.getElem?_append_right (by omega), hl]
      by_cases e2 : i = 2 * n
      · subst e2
        rw [if_neg (by omega), show 2 * n / 2 = n by omega, Nat.sub_self]; rfl
      · have : i = 2 * n + 1 := by omega
        subst this
        rw [if_pos (by omega), show (2 * n + 1) / 2 = n by omega, show 2 * n + 1 - 2 * n = 1 by omega]; rfl
theorem qrq {t : DType} (h : t.kind = 1) : ∀ {n i : Nat}, i < 2 * n → (qgs t n).getD i 0 = ((i / 2 : Nat) : Int)
  | 0, i, hi => by omega
  | n + 1, i, hi => by
    have hl := qh4 t n
    rw [if_pos h] at hl
    rw [qwf h]
    simp only [List.getD]
    by_cases e : i < 2 * n
    · rw [List.getElem?_append_left (by omega)]
      exact qrq h e
    · rw [List.getElem?_append_right (by omega), hl]
      by_cases e2 : i = 2 * n
      · subst e2
        rw [show 2 * n / 2 = n by omega, Nat.sub_self]; rfl
      · have : i = 2 * n + 1 := by omega
        subst this
        rw [show (2 * n + 1) / 2 = n by omega, show 2 * n + 1 - 2 * n = 1 by omega]; rfl
theorem qvc {t : DType} {b : ByteArray} (h : ¬t.kind = 1) : ∀ {n i : Nat}, i < n → (qf5 t b n).getD i 0 = loB (chr b i)
  | 0, i, hi => by omega
  | n + 1, i, hi => by
    have hl := qf2 t b n
    rw [if_neg h] at hl
    rw [qwe h]
    simp only [List.getD]
    by_cases e : i < n
    · rw [List.getElem?_append_left (by omega)]
      exact qvc h e
    · have : i = n := by omega
      subst this
      rw [List.getElem?_append_right (by omega), hl, Nat.sub_self]; rfl
theorem qvd {t : DType} (h : ¬t.kind = 1) : ∀ {n i : Nat}, i < n → (qgs t n).getD i 0 = (i : Int)
  | 0, i, hi => by omega
  | n + 1, i, hi => by
    have hl := qh4 t n
    rw [if_neg h] at hl
    rw [qwg h]
    simp only [List.getD]
    by_cases e : i < n
    · rw [List.getElem?_append_left (by omega)]
      exact qvd h e
    · have : i = n := by omega
      subst this
      rw [List.getElem?_append_right (by omega), hl, Nat.sub_self]; rfl
def qgt (t : DType) (b : ByteArray) (i : Nat) (n : Int) : Int × Int × Int :=
  qhd t.length (qbt t b).1 (qbt t b).2 ((qbt t b).1.length - 1) (((qbt t b).1.take ((qbt t b).1.length - 1)).drop i) i n
section
variable {t : DType} {b : ByteArray} {i : Nat} {n : Int}
theorem q8i (h : t.kind = 2) : (qbt t b).1.length = b.size + 1 := by have := (qp2 t b).1; rw [this, if_neg (by omega), if_pos h]
theorem qbbe (h : t.kind = 2) : (qbt t b).1.take ((qbt t b).1.length - 1) = qf5 t b b.size := by
  rw [q8i h, ql1 h, Nat.add_sub_cancel]
  have hl := qf2 t b b.size
  rw [if_neg (by omega)] at hl
  rw [List.take_append_of_le_length (by omega), List.take_of_length_le (by omega)]
theorem qbrm (h : t.kind = 2) : (qbt t b).1.getD b.size 0 = hiB (chr b (b.size - 1)) := by
  have hl := qf2 t b b.size
  rw [if_neg (by omega)] at hl
  rw [ql1 h]
  simp only [List.getD]
  rw [List.getElem?_append_right (by omega), hl, Nat.sub_self]; rfl
theorem qbmv (h : t.kind = 2) : (qbt t b).2.getD b.size 0 = (b.size : Int) - 1 := by
  have hl := qh4 t b.size
  rw [if_neg (by omega)] at hl
  rw [ql1 h]
  simp only [List.getD]
  rw [List.getElem?_append_right (by omega), hl, Nat.sub_self]; rfl
theorem z_A (h : t.kind = 2) (hi : i < b.size) : (qbt t b).2.getD i 0 = (i : Int) := by
  have hl := qh4 t b.size
  rw [if_neg (by omega)] at hl
  rw [ql1 h]
  simp only [List.getD]
  rw [List.getElem?_append_left (by omega)]
  exact qvd (by omega) hi
theorem z_at (h : t.kind = 2) (hs : (b.size : Int) = t.length) (hi : i < b.size) : qgt t b i n =
    if 9 < loB (chr b i) then (0, (i : Int), 21) else qgt t b (i + 1) (IntKind.i64.wrap (IntKind.i64.wrap (n * 10) + IntKind.i64.wrap (loB (chr b i)))) := by
  have hl := qf2 t b b.size
  rw [if_neg (by omega)] at hl
  unfold qgt
  rw [qbbe h, qe5 0 (by omega), qhd, qvc (by omega) hi, q8i h]
  by_cases e : 9 < loB (chr b i)
  · rw [if_pos (.inl e), if_pos e, z_A h hi]
  · rw [if_neg (by omega), if_neg e]
theorem qbiy (h : t.kind = 2) (hi : b.size ≤ i) : qgt t b i n = if hiB (chr b (b.size - 1)) < 10 then (0, (b.size : Int) - 1, 21) else (if hiB (chr b (b.size - 1)) = 11 ∨ hiB (chr b (b.size - 1)) = 13 then IntKind.i64.wrap (0 - n) else n, 0, 0) := by
  have hl := qf2 t b b.size
  rw [if_neg (by omega)] at hl
  unfold qgt
  rw [qbbe h, List.drop_of_length_le (by omega), qhd, q8i h, show (((b.size + 1 : Nat) : Int) - 1).toNat = b.size by omega, qbrm h, qbmv h]
theorem qy3 (h : t.kind = 1) : (qbt t b).1.length = 2 * b.size := by have := (qp2 t b).1; rw [this, if_pos h]
theorem p_at (h : t.kind = 1) (hs : (b.size : Int) = t.length / 2 + 1) (h0 : 0 ≤ t.length) (hi : i < 2 * b.size - 1) : qgt t b i n =
    if 9 < (if i % 2 = 1 then loB (chr b (i / 2)) else hiB (chr b (i / 2))) ∨ (i = 0 ∧ t.length % 2 = 0 ∧ hiB (chr b 0) ≠ 0) then (0, ((i / 2 : Nat) : Int), 21)
    else qgt t b (i + 1) (IntKind.i64.wrap (IntKind.i64.wrap (n * 10) + IntKind.i64.wrap (if i % 2 = 1 then loB (chr b (i / 2)) else hiB (chr b (i / 2))))) := by
  have hl := qf2 t b b.size
  rw [if_pos h] at hl
  have hh := qvb b 0
  unfold qgt
  have hn : (qbt t b).1 = qf5 t b b.size := by rw [qn0 (by omega)]
  have hA : (qbt t b).2.getD i 0 = ((i / 2 : Nat) : Int) := by rw [qn0 (by omega)]; exact qrq h (by omega)
  have hT : ((qbt t b).1.take ((qbt t b).1.length - 1)).getD i 0 = if i % 2 = 1 then loB (chr b (i / 2)) else hiB (chr b (i / 2)) := by
    rw [hn]
    simp only [List.getD]
    rw [List.getElem?_take_of_lt (by omega)]
    exact qrp h (by omega)
  rw [qe5 0 (by rw [List.length_take, qy3 h]; omega), qhd, hT, hA, qy3 h]
  have hc : (0 < (if i % 2 = 1 then loB (chr b (i / 2)) else hiB (chr b (i / 2))) ∧ (i : Int) < ((2 * b.size : Nat) : Int) - 1 - t.length) ↔ (i = 0 ∧ t.length % 2 = 0 ∧ hiB (chr b 0) ≠ 0) := by
    constructor
    · rintro ⟨a, c⟩
      have hi0 : i = 0 := by omega
      subst hi0
      rw [if_neg (by decide)] at a
      refine ⟨rfl, by omega, by simp only [Nat.zero_div] at a; omega⟩
    · rintro ⟨a, c, d⟩
      subst a
      rw [if_neg (by decide)]
      simp only [Nat.zero_div]
      omega
  by_cases e : 9 < (if i % 2 = 1 then loB (chr b (i / 2)) else hiB (chr b (i / 2))) ∨ (i = 0 ∧ t.length % 2 = 0 ∧ hiB (chr b 0) ≠ 0)
  · rw [if_pos e, if_pos (e.imp id hc.2)]
  · rw [if_neg e, if_neg (fun q => e (q.imp id hc.1))]
theorem qbiz (h : t.kind = 1) (h0 : 0 < b.size) (hi : 2 * b.size - 1 ≤ i) : qgt t b i n = if loB (chr b (b.size - 1)) < 10 then (0, (b.size : Int) - 1, 21) else (if loB (chr b (b.size - 1)) = 11 ∨ loB (chr b (b.size - 1)) = 13 then IntKind.i64.wrap (0 - n) else n, 0, 0) := by
  have hl := qf2 t b b.size
  rw [if_pos h] at hl
  unfold qgt
  have hn : (qbt t b).1 = qf5 t b b.size := by rw [qn0 (by omega)]
  have hA : (qbt t b).2.getD (2 * b.size - 1) 0 = (b.size : Int) - 1 := by rw [qn0 (by omega), qrq h (by omega)]; omega
  have hL : (qbt t b).1.getD (2 * b.size - 1) 0 = loB (chr b (b.size - 1)) := by
    rw [hn, qrp h (by omega), if_pos (by omega), show (2 * b.size - 1) / 2 = b.size - 1 by omega]
  rw [List.drop_of_length_le (by rw [List.length_take, qy3 h]; omega), qhd, qy3 h, show (((2 * b.size : Nat) : Int) - 1).toNat = 2 * b.size - 1 by omega, hA, hL]
end
theorem qsl {n c : Int} (hn : -36028797018963968 ≤ n) (hn2 : n < 36028797018963968) (h0 : 0 ≤ c) (h1 : c < 256) : ior .i64 (IntKind.i64.wrap (n * 2 ^ 8)) c = n * 256 + c := by
  rw [show n * 2 ^ 8 = n * 256 from rfl, w64 (by omega) (by omega)]
  unfold ior
  have key : ((BitVec.ofInt IntKind.i64.bits (n * 256) ||| BitVec.ofInt IntKind.i64.bits c).toNat : Int) = (n * 256 + c) % 2 ^ 64 := by
    rw [BitVec.toNat_or, BitVec.toNat_ofInt, BitVec.toNat_ofInt]
    show (((((n * 256) % (2 ^ 64 : Nat)).toNat ||| ((c % (2 ^ 64 : Nat)).toNat)) : Nat) : Int) = _
    have ha : ((n * 256) % ((2 ^ 64 : Nat) : Int)).toNat = 2 ^ 8 * (n % 2 ^ 56).toNat := by
      rw [show ((2 ^ 64 : Nat) : Int) = 18446744073709551616 from rfl, show (2 : Int) ^ 56 = 72057594037927936 from rfl, show (2 : Nat) ^ 8 = 256 from rfl]
      omega
    have hc : (c % ((2 ^ 64 : Nat) : Int)).toNat = c.toNat := by rw [show ((2 ^ 64 : Nat) : Int) = 18446744073709551616 from rfl]; omega
    rw [ha, hc, ← Nat.two_pow_add_eq_or_of_lt (by omega)]
    rw [show (2 : Int) ^ 64 = 18446744073709551616 from rfl, show (2 : Int) ^ 56 = 72057594037927936 from rfl, show (2 : Nat) ^ 8 = 256 from rfl]
    omega
  rw [key]
  rw [show (2 : Int) ^ 64 = 18446744073709551616 from rfl]
  have e : (n * 256 + c) % 18446744073709551616 = n * 256 + c ∨ (n * 256 + c) % 18446744073709551616 = n * 256 + c + 18446744073709551616 := by omega
  unfold IntKind.wrap
  simp only [IntKind.bits, IntKind.signed, Bool.true_and]
  split <;> rename_i h <;> simp only [decide_eq_true_eq, ge_iff_le] at h <;> omega
theorem qbi0 {c : Int} (h0 : 0 ≤ c) (h1 : c < 256) : IntKind.i8.wrap c = if 128 ≤ c then c - 256 else c := by
  unfold IntKind.wrap
  simp only [IntKind.bits, IntKind.signed, Bool.true_and]
  split <;> split <;> rename_i h h2 <;> simp only [decide_eq_true_eq, ge_iff_le] at h <;> omega
def qez (b : ByteArray) (a : Nat) : Nat → Int
  | 0 => 0
  | i + 1 => IntKind.i64.wrap (IntKind.i64.wrap (qez b a i * 256) + chr b (a + i))
theorem qqd (b : ByteArray) (a : Nat) : ∀ {i : Nat}, i ≤ 6 → 0 ≤ qez b a i ∧ qez b a i < 256 ^ i
  | 0, _ => by simp [qez]
  | i + 1, h => by
    have ih := qqd b a (i := i) (by omega)
    have hc := qhq b (a + i)
    have h6 : (256 : Int) ^ i ≤ 256 ^ 5 := by
      have := Int.ofNat_le.2 (Nat.pow_le_pow_right (show 256 > 0 by decide) (show i ≤ 5 by omega))
      rw [Int.natCast_pow, Int.natCast_pow] at this
      exact this
    have e5 : (256 : Int) ^ 5 = 1099511627776 := rfl
    have es : (256 : Int) ^ (i + 1) = 256 ^ i * 256 := Int.pow_succ _ _
    rw [e5] at h6
    simp only [qez]
    rw [w64 (n := qez b a i * 256) (by omega) (by omega), w64 (by omega) (by omega), es]
    omega
theorem qj5 (b : ByteArray) (a : Nat) {i : Nat} (h : i ≤ 5) : qez b a (i + 1) = qez b a i * 256 + chr b (a + i) := by
  have ih := qqd b a (i := i) (by omega)
  have hc := qhq b (a + i)
  have h6 : (256 : Int) ^ i ≤ 256 ^ 5 := by
    have := Int.ofNat_le.2 (Nat.pow_le_pow_right (show 256 > 0 by decide) (show i ≤ 5 by omega))
    rw [Int.natCast_pow, Int.natCast_pow] at this
    exact this
  have e5 : (256 : Int) ^ 5 = 1099511627776 := rfl
  rw [e5] at h6
  simp only [qez]
  rw [w64 (n := qez b a i * 256) (by omega) (by omega), w64 (by omega) (by omega)]
theorem qbxe {b : ByteArray} (h : b.size = 2) : binN b = (if 128 ≤ chr b 0 then qez b 0 2 - 65536 else qez b 0 2) ∧ -32768 ≤ binN b ∧ binN b ≤ 32767 := by
  have c0 := qhq b 0
  have c1 := qhq b 1
  rw [← qri b 1 (by omega), qli b 0 (by omega)]
  simp only [Nat.reduceAdd]
  have e : qna b 0 = IntKind.i8.wrap (chr b 0) := rfl
  rw [e, qbi0 c0.1 c0.2, qsl (by split <;> omega) (by split <;> omega) c1.1 c1.2, qj5 b 0 (by omega), qj5 b 0 (by omega)]
  simp only [qez, Nat.zero_add, Nat.reduceAdd]
  split <;> omega
theorem qbxf {b : ByteArray} (h : b.size = 4) : binN b = (if 128 ≤ chr b 0 then qez b 0 4 - 4294967296 else qez b 0 4) ∧ -2147483648 ≤ binN b ∧ binN b ≤ 2147483647 := by
  have c0 := qhq b 0
  have c1 := qhq b 1
  have c2 := qhq b 2
  have c3 := qhq b 3
  rw [← qri b 3 (by omega), qli b 2 (by omega), qli b 1 (by omega), qli b 0 (by omega)]
  simp only [Nat.reduceAdd]
  have e : qna b 0 = IntKind.i8.wrap (chr b 0) := rfl
  rw [e, qbi0 c0.1 c0.2, qsl (n := if 128 ≤ chr b 0 then chr b 0 - 256 else chr b 0) (by split <;> omega) (by split <;> omega) c1.1 c1.2]
  rw [qsl (n := (if 128 ≤ chr b 0 then chr b 0 - 256 else chr b 0) * 256 + chr b 1) (by split <;> omega) (by split <;> omega) c2.1 c2.2]
  rw [qsl (by split <;> omega) (by split <;> omega) c3.1 c3.2]
  rw [qj5 b 0 (by omega), qj5 b 0 (by omega), qj5 b 0 (by omega), qj5 b 0 (by omega)]
  simp only [qez, Nat.zero_add, Nat.reduceAdd]
  split <;> omega
theorem qwo (b : ByteArray) (i : Nat) : IntKind.i64.wrap (hiB (chr b i)) = hiB (chr b i) := w64 (by have := qvb b i; omega) (by have := qvb b i; omega)
theorem qsm (b : ByteArray) (i : Nat) : IntKind.i64.wrap (loB (chr b i)) = loB (chr b i) := w64 (by have := qva b i; omega) (by have := qva b i; omega)
theorem qto (b : ByteArray) (i : Nat) : IntKind.u8.wrap (loB (chr b i)) = loB (chr b i) := wu8 (by have := qva b i; omega) (by have := qva b i; omega)
theorem qve (b : ByteArray) (i : Nat) : IntKind.i64.wrap (chr b i) = chr b i := w64 (by have := qhq b i; omega) (by have := qhq b i; omega)
def zT (s : ByteArray) : DType := ⟨2, s.size, 0⟩
def qi5 (s : ByteArray) : Val × Int × Int := (⟨(decN (zT s) s).1, ⟨#[]⟩⟩, (decN (zT s) s).2.1, (decN (zT s) s).2.2)
section
variable {s : ByteArray} {i : Nat} {n : Int}
theorem qbbf (h : qgt (zT s) s i n = decN (zT s) s) (hi : i < s.size) (h1 : 9 < loB (chr s i) ∨ (i = s.size - 1 ∧ hiB (chr s i) < 10)) : qi5 s = (zVal, (i : Int), 21) := by
  have e : decN (zT s) s = (0, (i : Int), 21) := by
    rw [← h, z_at rfl rfl hi]
    by_cases e : 9 < loB (chr s i)
    · rw [if_pos e]
    · have h1 := h1.resolve_left e
      rw [if_neg e, qbiy rfl (by omega), ← h1.1, if_pos h1.2]
      congr 2
      omega
  unfold qi5; rw [e]; rfl
theorem qbmw (h : qgt (zT s) s i n = decN (zT s) s) (hi : i < s.size) (h1 : ¬9 < loB (chr s i)) : qgt (zT s) s (i + 1) (IntKind.i64.wrap (IntKind.i64.wrap (10 * n) + loB (chr s i))) = decN (zT s) s := by
  rw [z_at rfl rfl hi, if_neg h1, qsm, Int.mul_comm] at h
  exact h
theorem q1q (h : qgt (zT s) s i n = decN (zT s) s) (hi : s.size ≤ i) (h1 : ¬hiB (chr s (s.size - 1)) < 10) : qi5 s = (⟨if hiB (chr s (s.size - 1)) = 11 ∨ hiB (chr s (s.size - 1)) = 13 then IntKind.i64.wrap (-n) else n, ⟨#[]⟩⟩, 0, 0) := by
  rw [qbiy rfl hi, if_neg h1, Int.zero_sub] at h
  unfold qi5; rw [← h]
end
def qiu (t : DType) (s : ByteArray) : Val × Int × Int := (⟨(decN t s).1, ⟨#[]⟩⟩, (decN t s).2.1, (decN t s).2.2)
def qe2 (s : ByteArray) (i : Nat) : Int := if i % 2 = 1 then loB (chr s (i / 2)) else hiB (chr s (i / 2))
theorem q5c (s : ByteArray) (i : Nat) : 0 ≤ qe2 s i ∧ qe2 s i ≤ 15 := by
  unfold qe2
  split
  · exact qva _ _
  · exact qvb _ _
section
variable {t : DType} {s : ByteArray} {i : Nat} {n : Int}
theorem qbbg (hk : t.kind = 1) (hs : (s.size : Int) = t.length / 2 + 1) (h0 : 0 ≤ t.length) (h : qgt t s i n = decN t s) (hi : i < 2 * s.size) (h1 : (i ≠ 2 * s.size - 1 ∧ 9 < qe2 s i) ∨ (i = 2 * s.size - 1 ∧ qe2 s i < 10) ∨ (i = 0 ∧ t.length % 2 = 0 ∧ qe2 s i ≠ 0)) : qiu t s = (zVal, ((i / 2 : Nat) : Int), 21) := by
  have e : decN t s = (0, ((i / 2 : Nat) : Int), 21) := by
    rw [← h]
    by_cases e : i = 2 * s.size - 1
    · have hb : qe2 s i < 10 := by
        rcases h1 with a | a | a
        · exact absurd e a.1
        · exact a.2
        · omega
      unfold qe2 at hb
      rw [if_pos (by omega), show i / 2 = s.size - 1 by omega] at hb
      rw [qbiz hk (by omega) (by omega), if_pos hb]
      congr 2
      omega
    · rw [p_at hk hs h0 (by omega), if_pos]
      rcases h1 with a | a | a
      · exact .inl a.2
      · exact absurd a.1 e
      · refine .inr ⟨a.1, a.2.1, ?_⟩
        have := a.2.2
        rw [a.1] at this
        exact this
  unfold qiu; rw [e]; rfl
theorem qbmx (hk : t.kind = 1) (hs : (s.size : Int) = t.length / 2 + 1) (h0 : 0 ≤ t.length) (h : qgt t s i n = decN t s) (hi : i < 2 * s.size - 1) (h1 : ¬9 < qe2 s i) (h2 : ¬(i = 0 ∧ t.length % 2 = 0 ∧ qe2 s i ≠ 0)) : qgt t s (i + 1) (IntKind.i64.wrap (IntKind.i64.wrap (10 * n) + qe2 s i)) = decN t s := by
  have hl := q5c s i
  rw [p_at hk hs h0 hi, if_neg] at h
  · rw [Int.mul_comm 10, ← h]
    show _ = qgt t s (i + 1) (IntKind.i64.wrap (IntKind.i64.wrap (n * 10) + IntKind.i64.wrap (qe2 s i)))
    rw [w64 (n := qe2 s i) (by omega) (by omega)]
  · rintro (a | a)
    · exact h1 a
    · refine h2 ⟨a.1, a.2.1, ?_⟩
      rw [a.1]; exact a.2.2
theorem qbrn (hk : t.kind = 1) (h : qgt t s i n = decN t s) (hi : i = 2 * s.size - 1) (h0 : 0 < s.size) (h1 : ¬qe2 s i < 10) : decN t s = (if qe2 s i = 11 ∨ qe2 s i = 13 then IntKind.i64.wrap (-n) else n, 0, 0) := by
  have e : qe2 s i = loB (chr s (s.size - 1)) := by
    unfold qe2; rw [if_pos (by omega), show i / 2 = s.size - 1 by omega]
  rw [e] at h1 ⊢
  rw [qbiz hk h0 (by omega), if_neg h1, Int.zero_sub] at h
  exact h.symm
end
section
variable {t : DType} {s : ByteArray} {n : Int}
theorem qbmy (h : ¬qbi t = 0) : qdj t s = (zVal, 0, qbi t) := by unfold qdj; rw [if_pos h]
theorem qbro (h0 : qbi t = 0) (h : t.kind = 4) : qdj t s = (zVal, 0, 17) := by unfold qdj; rw [if_neg (fun e => e h0), if_pos h]
theorem qbrp (h0 : qbi t = 0) (h : ¬t.kind = 4) (h2 : ¬(s.size : Int) = qex t) : qdj t s = (zVal, 0, 18) := by unfold qdj; rw [if_neg (fun e => e h0), if_neg h, if_pos h2]
theorem qbrq (h0 : qbi t = 0) (h2 : (s.size : Int) = qex t) (k : t.kind = 0) : qdj t s = (⟨0, s⟩, 0, 0) := by unfold qdj; rw [if_neg (fun e => e h0), if_neg (by omega), if_neg (fun e => e h2), if_pos k]
theorem qvf {t t' : DType} (h : t.kind = t'.kind) (b : ByteArray) : ∀ i, qf5 t b i = qf5 t' b i
  | 0 => rfl
  | i + 1 => by simp only [qf5, qvf h b i, h]
theorem qvg {t t' : DType} (h : t.kind = t'.kind) : ∀ i, qgs t i = qgs t' i
  | 0 => rfl
  | i + 1 => by simp only [qgs, qvg h i, h]
theorem q39 {t t' : DType} (h : t.kind = t'.kind) (b : ByteArray) : qbt t b = qbt t' b := by
  unfold qbt; simp only [qvf h, qvg h, h]
theorem qbfs (h0 : qbi t = 0) (h2 : (s.size : Int) = qex t) (k : t.kind = 2) : qdj t s = qi5 s := by
  have hl : t.length = s.size := by rw [h2]; unfold qex; rw [if_neg (by omega), if_neg (by omega), if_neg (by omega)]
  have e : decN t s = decN (zT s) s := by
    unfold decN
    rw [q39 (t := t) (t' := zT s) k, hl]
    rfl
  unfold qdj qi5
  rw [if_neg (fun e => e h0), if_neg (by omega), if_neg (fun e => e h2), if_neg (by omega), if_neg (by omega), e]
theorem qbbh (h0 : qbi t = 0) (h2 : (s.size : Int) = qex t) (k : t.kind = 1) : qdj t s = qiu t s := by
  unfold qdj qiu
  rw [if_neg (fun e => e h0), if_neg (by omega), if_neg (fun e => e h2), if_neg (by omega), if_neg (by omega)]
theorem qvh (h0 : qbi t = 0) (h2 : (s.size : Int) = qex t) (k : t.kind = 3) (hn : binN s = n) (h : -(p10 t.length - 1) ≤ n ∧ n ≤ p10 t.length - 1) : qdj t s = (⟨n, ⟨#[]⟩⟩, 0, 0) := by
  have hv : qi2 t ⟨binN s, ⟨#[]⟩⟩ = 0 := by
    unfold qi2
    rw [if_neg (fun e => e h0), if_neg (by omega), if_neg (by omega), if_neg (fun e => e rfl), hn, if_neg (fun e => e h)]
  unfold qdj
  rw [if_neg (fun e => e h0), if_neg (by omega), if_neg (fun e => e h2), if_neg (by omega), if_pos k, if_neg (fun e => e hv), hn]
theorem qbmz (h0 : qbi t = 0) (h2 : (s.size : Int) = qex t) (k : t.kind = 3) (hn : binN s = n) (h : ¬(-(p10 t.length - 1) ≤ n ∧ n ≤ p10 t.length - 1)) : qdj t s = (zVal, 0, 19) := by
  have hv : qi2 t ⟨binN s, ⟨#[]⟩⟩ = 19 := by
    unfold qi2
    rw [if_neg (fun e => e h0), if_neg (by omega), if_neg (by omega), if_neg (fun e => e rfl), hn, if_pos h]
  unfold qdj
  rw [if_neg (fun e => e h0), if_neg (by omega), if_neg (fun e => e h2), if_neg (by omega), if_pos k, hv, if_pos (by decide)]
end
theorem qbxg : IntKind.i64.wrap (1 * 2 ^ min (8 * ((2 : Nat) : Int)).toNat 64) = 65536 := by decide +kernel
theorem qbxh : IntKind.i64.wrap (1 * 2 ^ min (8 * ((4 : Nat) : Int)).toNat 64) = 4294967296 := by decide +kernel
theorem qbi1 (s : ByteArray) : 0 ≤ qez s 0 2 ∧ qez s 0 2 < 65536 := qqd s 0 (by decide)
theorem qbi2 (s : ByteArray) : 0 ≤ qez s 0 4 ∧ qez s 0 4 < 4294967296 := qqd s 0 (by decide)
theorem qbrr (s : ByteArray) : IntKind.i64.wrap (qez s 0 2 - 65536) = qez s 0 2 - 65536 := w64 (by have := qbi1 s; omega) (by have := qbi1 s; omega)
theorem qbrs (s : ByteArray) : IntKind.i64.wrap (qez s 0 4 - 4294967296) = qez s 0 4 - 4294967296 := w64 (by have := qbi2 s; omega) (by have := qbi2 s; omega)
theorem qbrt (n : Int) : IntKind.i64.wrap (0 - (p10 n - 1)) = -(p10 n - 1) := by
  have := qu0 n
  rw [w64 (by omega) (by omega)]; omega
end Go.Ev

namespace Go.Ev
def idxI (l : List Field) (name : ByteArray) : Int := match idxF l name with
  | some i => i
  | none => -1
section
variable {l : List Field} {name : ByteArray} {i : Nat}
theorem qbft (h : idxF (l.take i) name = none) (hi : i < l.length) (e : (l.getD i q04).name = name) : idxF l name = some i := by
  unfold idxF at h ⊢
  rw [← List.take_append_drop i l, List.findIdx?_append, h, qe5 q04 hi, List.findIdx?_cons]
  have hl : (l.take i).length = i := by rw [List.length_take]; omega
  have e' : decide ((l.getD i q04).name = name) = true := by simpa using e
  rw [e', hl, if_pos rfl]
  simp
theorem q1r (h : idxF (l.take i) name = none) (hi : i < l.length) (e : (l.getD i q04).name = name) : idxI l name = i := by
  unfold idxI; rw [qbft h hi e]
theorem qbm0 (h : idxF (l.take i) name = none) (hi : l.length ≤ i) : idxI l name = -1 := by
  rw [List.take_of_length_le hi] at h
  unfold idxI; rw [h]
theorem qbm1 {j : Nat} (h : idxF l name = some j) : j < l.length := by
  unfold idxF at h
  rw [List.findIdx?_eq_some_iff_getElem] at h
  exact h.1
theorem qbi3 (l : List Field) (name : ByteArray) : (atF l name).2.2 = (idxF l name).isSome := by
  unfold atF; split <;> simp_all
theorem q1s (hi : i < l.length) : idxI l (l.getD i q04).name < i ↔ (atF (l.take i) (l.getD i q04).name).2.2 = true := by
  rw [qbi3]
  cases h : idxF (l.take i) (l.getD i q04).name with
  | none => rw [q1r h hi rfl]; simp
  | some j =>
    have hj := qbm1 h
    rw [List.length_take] at hj
    have e : idxF l (l.getD i q04).name = some j := by
      generalize (l.getD i q04).name = nm at h
      unfold idxF at h ⊢
      rw [← List.take_append_drop i l, List.findIdx?_append, h]
      rfl
    unfold idxI
    rw [e]
    simp
    omega
theorem qrr : idxI l name = -1 ↔ (atF l name).2.2 = false := by
  rw [qbi3]
  unfold idxI
  cases h : idxF l name with
  | none => simp
  | some j => simp
theorem q5d (h : qbb (l.getD i q04).name = false) : qej l i = 7 := by unfold qej; rw [if_pos h]
theorem qbbi (hi : i < l.length) (h : ¬qbb (l.getD i q04).name = false) (h2 : idxI l (l.getD i q04).name < i) : qej l i = 13 := by
  unfold qej; rw [if_neg h, if_pos ((q1s hi).1 h2)]
theorem qwp (hi : i < l.length) (h : ¬qbb (l.getD i q04).name = false) (h2 : (i : Int) ≤ idxI l (l.getD i q04).name) : qej l i = if qbi (l.getD i q04).type_ ≠ 0 then qbi (l.getD i q04).type_ else if (l.getD i q04).type_.kind = 4 then 17 else 0 := by
  have : ¬(atF (l.take i) (l.getD i q04).name).2.2 = true := fun e => by have := (q1s hi).2 e; omega
  unfold qej; rw [if_neg h, if_neg this]
theorem q5e (hi : i < l.length) (h : ¬qbb (l.getD i q04).name = false) (h2 : (i : Int) ≤ idxI l (l.getD i q04).name) (h3 : ¬qbi (l.getD i q04).type_ = 0) : qej l i = qbi (l.getD i q04).type_ := by
  rw [qwp hi h h2, if_pos h3]
theorem qbbj (hi : i < l.length) (h : ¬qbb (l.getD i q04).name = false) (h2 : (i : Int) ≤ idxI l (l.getD i q04).name) (h3 : qbi (l.getD i q04).type_ = 0) (h4 : (l.getD i q04).type_.kind = 4) : qej l i = 17 := by
  rw [qwp hi h h2, if_neg (fun e => e h3), if_pos h4]
theorem qbxi (hi : i < l.length) (h : ¬qbb (l.getD i q04).name = false) (h2 : (i : Int) ≤ idxI l (l.getD i q04).name) (h3 : qbi (l.getD i q04).type_ = 0) (h4 : ¬(l.getD i q04).type_.kind = 4) : qej l i = 0 := by
  rw [qwp hi h h2, if_neg (fun e => e h3), if_neg h4]
def qg2 (l : List Field) : Int × Int := if l.length = 0 then (0, 1) else if 20 < l.length then (0, 2) else match qb8 (qej l) l.length with
  | some i => (i, qej l i)
  | none => (0, if 200 < qcc l l.length then 18 else 0)
theorem qbfu {f : Fmt} (h : qbb f.name = false) : qca f = (0, 7) := by unfold qca; rw [if_pos h]
theorem q8j {f : Fmt} (h : ¬qbb f.name = false) : qca f = qg2 f.fields := by unfold qca qg2; rw [if_neg h]; rfl
theorem qbfv (h : (l.length : Int) = 0) : qg2 l = (0, 1) := by unfold qg2; rw [if_pos (by omega)]
theorem qbbk (h : 20 < (l.length : Int)) : qg2 l = (0, 2) := by unfold qg2; rw [if_neg (by omega), if_pos (by omega)]
theorem qng (h0 : 1 ≤ l.length ∧ l.length ≤ 20) (h : ∀ j, j < i → qej l j = 0) (hi : i < l.length) (hg : ¬qej l i = 0) : qg2 l = ((i : Int), qej l i) := by
  unfold qg2; rw [if_neg (by omega), if_neg (by omega), qd8 h hi hg]
theorem qnh (h0 : 1 ≤ l.length ∧ l.length ≤ 20) (h : ∀ j, j < i → qej l j = 0) (hi : l.length ≤ i) : qg2 l = (0, if 200 < qcc l l.length then 18 else 0) := by
  unfold qg2; rw [if_neg (by omega), if_neg (by omega), qd1 fun j hj => h j (by omega)]
theorem qbfw (h : ∀ j, j < i → qej l j = 0) (hi : l.length ≤ i) : ∀ j, j < l.length → qbi (l.getD j q04).type_ = 0 := fun j hj => (qxr (h j (by omega))).1
theorem qyb {f : Fmt} (h : (qca f).2 = 0) : ∀ j, j < f.fields.length → qbi (f.fields.getD j q04).type_ = 0 := fun j hj => (qxr ((qu1 h).2.2.2.1 j hj)).1
theorem q1t (h : ∀ j, j < l.length → qbi (l.getD j q04).type_ = 0) (hi : i < l.length) : qcc l (i + 1) = qcc l i + qex (l.getD i q04).type_ := by
  simp only [qcc, qfq, if_pos (h i hi)]
end
section
variable {f : File} {i k : Nat}
def qkh (f : File) : Int × Int := if 4 < f.keys.length then (0, 2) else match qb8 (keyE f) f.keys.length with
  | some i => (i, keyE f i)
  | none => (0, 0)
theorem qbbl (h : qbb f.name = false) : qcb f = (0, 7) := by unfold qcb; rw [if_pos h]
theorem qbfx (h : ¬qbb f.name = false) (h2 : ¬(qca f.format).2 = 0) : qcb f = (0, (qca f.format).2) := by unfold qcb; rw [if_neg h, if_pos h2]
theorem qbbm (h : ¬qbb f.name = false) (h2 : (qca f.format).2 = 0) : qcb f = qkh f := by unfold qcb qkh; rw [if_neg h, if_neg (fun e => e h2)]; rfl
theorem qbru (h : 4 < (f.keys.length : Int)) : qkh f = (0, 2) := by unfold qkh; rw [if_pos (by omega)]
theorem q1u (h0 : f.keys.length ≤ 4) (h : ∀ j, j < i → keyE f j = 0) (hi : i < f.keys.length) (hg : ¬keyE f i = 0) : qkh f = ((i : Int), keyE f i) := by
  unfold qkh; rw [if_neg (by omega), qd8 h hi hg]
theorem qbfy (h0 : f.keys.length ≤ 4) (h : ∀ j, j < i → keyE f j = 0) (hi : f.keys.length ≤ i) : qkh f = (0, 0) := by
  unfold qkh; rw [if_neg (by omega), qd1 fun j hj => h j (by omega)]
theorem q5f (h : idxI f.format.fields (f.keys.getD i qdn).name = -1) : keyE f i = 11 := by unfold keyE; rw [if_pos (qrr.1 h)]
theorem qbbn (h : ¬idxI f.format.fields (f.keys.getD i qdn).name = -1) (hk : k < i) (hi : i < f.keys.length) (e : (f.keys.getD k qdn).name = (f.keys.getD i qdn).name) : keyE f i = 13 := by
  have h1 : (f.keys.take i).any (fun k => decide (k.name = (f.keys.getD i qdn).name)) = true := by
    rw [List.any_eq_true]
    refine ⟨f.keys.getD k qdn, ?_, by simpa using e⟩
    have : f.keys.getD k qdn = (f.keys.take i)[k]'(by rw [List.length_take]; omega) := by
      simp [List.getD, List.getElem?_eq_getElem (show k < f.keys.length by omega)]
    rw [this]
    exact List.getElem_mem _
  unfold keyE
  rw [if_neg (fun q => h (qrr.2 q)), if_pos h1]
def qpe (f : File) (i k : Nat) : Int := if (f.keys.getD k qdn).name = (f.keys.getD i qdn).name then 1 else 0
theorem qbxj (h : ¬(f.keys.getD k qdn).name = (f.keys.getD i qdn).name) : qpe f i k = 0 := by unfold qpe; rw [if_neg h]
theorem qbxk (h : ¬idxI f.format.fields (f.keys.getD i qdn).name = -1) (hk : ∀ j, j < k → qpe f i j = 0) (hi : i ≤ k) : keyE f i = 0 := by
  have h1 : ¬(f.keys.take i).any (fun k => decide (k.name = (f.keys.getD i qdn).name)) = true := by
    rw [List.any_eq_true]
    rintro ⟨x, hx, e⟩
    obtain ⟨j, hj, rfl⟩ := List.getElem_of_mem hx
    rw [List.length_take] at hj
    have := hk j (by omega)
    unfold qpe at this
    have ej : f.keys.getD j qdn = (f.keys.take i)[j]'(by rw [List.length_take]; omega) := by
      simp [List.getD, List.getElem?_eq_getElem (show j < f.keys.length by omega)]
    rw [if_pos (by rw [ej]; simpa using e)] at this
    cases this
  unfold keyE
  rw [if_neg (fun q => h (qrr.2 q)), if_neg h1]
end
theorem qbfz {f : Fmt} {b : ByteArray} {i : Nat} (h : qbi (f.fields.getD i q04).type_ = 0) : b.extract (qcc f.fields i).toNat (qcc f.fields i + qex (f.fields.getD i q04).type_).toNat = qp3 f b i := by
  unfold qp3
  simp only [qcc, qfq, if_pos h]
theorem qbf0 {f : Fmt} {b : ByteArray} {i : Nat} (hs : (b.size : Int) = qfe f) (hi : i < f.fields.length) (h : qbi (f.fields.getD i q04).type_ = 0) : 0 ≤ qcc f.fields i ∧ qcc f.fields i + qex (f.fields.getD i q04).type_ ≤ (b.size : Int) := by
  have h1 := qse hs hi
  unfold qfq at h1
  rw [if_pos h] at h1
  exact ⟨(qgp f.fields i).1, h1⟩
theorem qbf1 {f : Fmt} {b : ByteArray} {i : Nat} (h0 : (qca f).2 = 0) (hs : (b.size : Int) = qfe f) (h : ∀ j, j < i → qkf f b j = 0) (hi : i < f.fields.length) (hg : ¬qkf f b i = 0) : qc3 f b = ([], (i : Int), qkf f b i) := by
  rw [qsh h0 hs, qwi h hi hg]
theorem qbf2 {f : Fmt} {b : ByteArray} {i : Nat} (h0 : (qca f).2 = 0) (hs : (b.size : Int) = qfe f) (h : ∀ j, j < i → qkf f b j = 0) (hi : f.fields.length ≤ i) : qc3 f b = (qkd f b f.fields.length, 0, 0) := by
  rw [qsh h0 hs, qwj h hi]
theorem qbf3 {t : Table} (h : ¬(qcb t.file).2 = 0) : q08 t = (0, (qcb t.file).2) := by unfold q08; rw [if_pos h]
theorem qbrv {t : Table} (h : (qcb t.file).2 = 0) (h2 : 60 < (t.records.length : Int)) : q08 t = (0, 2) := by unfold q08; rw [if_neg (fun e => e h), if_pos (by omega)]
def qf4 (t : Table) (n : Int) : Bool := decide (1 ≤ n) && decide (n ≤ (t.records.length : Int)) && !(t.records.getD (n - 1).toNat zRec).deleted
theorem qjw (t : Table) (c : Change) : qcx t c =
    if ¬(q08 t).2 = 0 then (q08 t).2 else if ¬c.file = t.file.name then 11 else if ¬(0 ≤ c.kind ∧ c.kind ≤ 2) then 4
    else if ¬(1 ≤ c.rrn ∧ c.rrn ≤ (t.records.length : Int) + if c.kind = 0 then 1 else 0) then 3
    else if (c.kind = 0 ∧ ¬c.before = ⟨#[]⟩) ∨ (c.kind = 2 ∧ ¬c.after = ⟨#[]⟩) then 5
    else if c.kind = 0 ∧ qf4 t c.rrn = true then 12 else if c.kind = 0 ∧ 60 < c.rrn then 30
    else if ¬c.kind = 0 ∧ qf4 t c.rrn = false then 11
    else if ¬c.kind = 0 ∧ ¬(t.records.getD (c.rrn - 1).toNat zRec).bytes = c.before then 15
    else if c.kind = 2 then 0 else (qc3 t.file.format c.after).2.2 := by
  have hff : qg1 c = false ↔ ¬((c.kind = 0 ∧ ¬c.before = ⟨#[]⟩) ∨ (c.kind = 2 ∧ ¬c.after = ⟨#[]⟩)) := by
    simp only [qg1, Bool.or_eq_false_iff, Bool.and_eq_false_iff]
    simp
    grind
  have h0 : qha t c = if ¬(q08 t).2 = 0 then (q08 t).2 else if ¬c.file = t.file.name then 11 else if ¬(0 ≤ c.kind ∧ c.kind ≤ 2) then 4
    else if ¬(1 ≤ c.rrn ∧ c.rrn ≤ (t.records.length : Int) + if c.kind = 0 then 1 else 0) then 3
    else if (c.kind = 0 ∧ ¬c.before = ⟨#[]⟩) ∨ (c.kind = 2 ∧ ¬c.after = ⟨#[]⟩) then 5 else 0 := by
    unfold qha qms
    by_cases a : (q08 t).2 = 0
    · by_cases b : c.file = t.file.name
      · by_cases d : 0 ≤ c.kind ∧ c.kind ≤ 2
        · have d1 : ¬(c.kind < 0 ∨ 3 ≤ c.kind) := by omega
          have e1 : (c.rrn < 1 ∨ (if c.kind = 0 then (t.records.length : Int) + 1 else (t.records.length : Int)) < c.rrn) ↔ ¬(1 ≤ c.rrn ∧ c.rrn ≤ (t.records.length : Int) + if c.kind = 0 then 1 else 0) := by
            split <;> omega
          simp only [ne_eq, a, b, d, d1, e1, true_and, not_true, if_false]
          by_cases g : (c.kind = 0 ∧ ¬c.before = ⟨#[]⟩) ∨ (c.kind = 2 ∧ ¬c.after = ⟨#[]⟩)
          · have g1 : qg1 c = true := by cases q : qg1 c with | true => rfl | false => exact absurd g (hff.1 q)
            simp only [g, g1, if_true]
          · have g1 : qg1 c = false := hff.2 g
            simp only [g, g1, if_false, Bool.false_eq_true]
        · have d1 : c.kind < 0 ∨ 3 ≤ c.kind := by omega
          simp only [ne_eq, a, b, d, d1, not_true, not_false_iff, if_false, if_true]
      · simp only [ne_eq, a, b, not_true, not_false_iff, if_false, if_true]
    · simp only [ne_eq, a, not_false_iff, if_true]
  by_cases a : (q08 t).2 = 0
  · rw [if_neg (fun e => e a)] at h0 ⊢
    by_cases b : c.file = t.file.name
    · rw [if_neg (fun e => e b)] at h0 ⊢
      by_cases d : 0 ≤ c.kind ∧ c.kind ≤ 2
      · rw [if_neg (fun e => e d)] at h0 ⊢
        by_cases e : 1 ≤ c.rrn ∧ c.rrn ≤ (t.records.length : Int) + if c.kind = 0 then 1 else 0
        · rw [if_neg (fun q => q e)] at h0 ⊢
          by_cases g : (c.kind = 0 ∧ ¬c.before = ⟨#[]⟩) ∨ (c.kind = 2 ∧ ¬c.after = ⟨#[]⟩)
          · rw [if_pos g] at h0 ⊢
            rw [qjb (by rw [h0]; decide), h0]
          · rw [if_neg g] at h0 ⊢
            have hth : qf4 t c.rrn = !qiq t c := by
              unfold qf4 qiq qmc
              by_cases q : c.rrn = (t.records.length : Int) + 1
              · have q2 : ¬c.rrn ≤ (t.records.length : Int) := by omega
                rw [show decide (c.rrn ≤ (t.records.length : Int)) = false by simpa using q2, show decide (c.rrn = (t.records.length : Int) + 1) = true by simpa using q]
                simp
              · have q2 : c.rrn ≤ (t.records.length : Int) := by split at e <;> omega
                rw [show decide (c.rrn ≤ (t.records.length : Int)) = true by simpa using q2, show decide (c.rrn = (t.records.length : Int) + 1) = false by simpa using q, show decide (1 ≤ c.rrn) = true by simpa using e.1]
                simp
            unfold qcx qg7 qmc
            rw [hth, if_neg (fun q => q h0)]
            by_cases k : c.kind = 0
            · have k2 : ¬c.kind = 2 := by omega
              cases hg : qiq t c
              · simp [k, qbs]
              · by_cases q : 60 < c.rrn
                · simp [k, qbs, q]
                · simp [k, qbs, q]
            · cases hg : qiq t c
              · by_cases q : (t.records.getD (c.rrn - 1).toNat zRec).bytes = c.before
                · simp only [k, q, if_false, false_and, Bool.not_false, not_true, and_false, true_and, Bool.false_eq_true, ne_eq, false_or, Bool.true_eq_false]
                · simp only [k, q, if_false, false_and, Bool.not_false, not_true, and_false, true_and, Bool.false_eq_true, ne_eq, false_or, Bool.true_eq_false, not_false_iff, if_true]
                  simp
              · simp [k]
        · rw [if_pos e] at h0 ⊢
          rw [qjb (by rw [h0]; decide), h0]
      · rw [if_pos d] at h0 ⊢
        rw [qjb (by rw [h0]; decide), h0]
    · rw [if_pos b] at h0 ⊢
      rw [qjb (by rw [h0]; decide), h0]
  · rw [if_pos a] at h0 ⊢
    rw [qjb (by rw [h0]; exact a), h0]
def revC (c : Change) : Change := ⟨c.file, qhx c.kind, c.rrn, c.after, c.before⟩
theorem q5g {c : Change} (h : c.kind = 0 ∨ c.kind = 1 ∨ c.kind = 2) : (qgi c).1 = revC c := by
  unfold qgi revC
  rw [if_pos (by omega)]
def qki (l : List Table) : Int × Int := if 8 < l.length then (0, 2) else match qb8 (tabE l) l.length with
  | some i => (i, tabE l i)
  | none => (0, 0)
theorem qbrw (l : List Table) : (qki l).2 = qd6 l := by
  unfold qki qd6
  split
  · rfl
  · cases qb8 (tabE l) l.length <;> rfl
section
variable {l : List Table} {i : Nat}
theorem qbm2 (h : 8 < (l.length : Int)) : qki l = (0, 2) := by unfold qki; rw [if_pos (by omega)]
theorem qbbo (h8 : l.length ≤ 8) (h : ∀ j, j < i → tabE l j = 0) (hi : i < l.length) (hg : ¬tabE l i = 0) : qki l = ((i : Int), tabE l i) := by
  unfold qki
  rw [if_neg (by omega), qd8 h hi hg]
theorem qbrx (h8 : l.length ≤ 8) (h : ∀ j, j < i → tabE l j = 0) (hi : l.length ≤ i) : qki l = (0, 0) := by
  unfold qki
  rw [if_neg (by omega), qd1 fun j hj => h j (by omega)]
end
end Go.Ev

namespace Go.Ev
open Go.Proofs Ty
set_option maxRecDepth 10000
set_option maxHeartbeats 4000000
noncomputable def e179 : List O → Option (Prop × O)
  | [.d x_t] => match qbg x_t with
    | some t => some (qbi t = 0, .d (.i .i64 (qex t)))
    | _ => none
  | _ => none
noncomputable def q1v : FuncId → List O → Option (Prop × O) := addT q8f 179 e179
noncomputable def e180 : List O → Option (Prop × O)
  | [.d (.s s), .d (.i .i64 a), .d (.i .i64 n)] => some (0 ≤ a ∧ 0 ≤ n ∧ a + n ≤ s.size ∧ s.size ≤ 1000, .d (.i .i64 (qez s a.toNat n.toNat)))
  | _ => none
noncomputable def q1w : FuncId → List O → Option (Prop × O) := addT q1v 180 e180
noncomputable def e195 : List O → Option (Prop × O)
  | [.d (.i .i64 n)] => some (0 ≤ n ∧ n ≤ 18, .d (.i .i64 (p10 n)))
  | _ => none
noncomputable def q1x : FuncId → List O → Option (Prop × O) := addT q1w 195 e195
noncomputable def e194 : List O → Option (Prop × O)
  | [.d (.i .i64 k)] => some (True, .d (.b (decide (1 ≤ k) && decide (k ≤ 3))))
  | _ => none
noncomputable def q1y : FuncId → List O → Option (Prop × O) := addT q1x 194 e194
noncomputable def e196 : List O → Option (Prop × O)
  | [.d (.i .i64 n), .d (.i .i64 h)] => some (True, .tup [.d (.i .i64 (if h = 11 ∨ h = 13 then IntKind.i64.wrap (-n) else n)), .d (.b (decide (10 ≤ h)))])
  | _ => none
noncomputable def q1z : FuncId → List O → Option (Prop × O) := addT q1y 196 e196
noncomputable def e178 : List O → Option (Prop × O)
  | [.d x_t] => match qbg x_t with
    | some t => some (True, .d (.i .i64 (qbi t)))
    | _ => none
  | _ => none
noncomputable def q10 : FuncId → List O → Option (Prop × O) := addT q1z 178 e178
noncomputable def e181 : List O → Option (Prop × O)
  | [.d x_t] => match qbg x_t with
    | some t => some (0 ≤ t.length ∧ t.length ≤ 18, .d (.i .i64 (p10 t.length - 1)))
    | _ => none
  | _ => none
noncomputable def q11 : FuncId → List O → Option (Prop × O) := addT q10 181 e181
noncomputable def e182 : List O → Option (Prop × O)
  | [.d (.s s)] => some (0 < s.size ∧ s.size ≤ 1000, .tup [.d (qb7 (qi5 s).1), .d (.i .i64 (qi5 s).2.1), .d (.i .i64 (qi5 s).2.2)])
  | _ => none
noncomputable def q12 : FuncId → List O → Option (Prop × O) := addT q11 182 e182
noncomputable def e183 : List O → Option (Prop × O)
  | [.d x_t, .d (.s s)] => match qbg x_t with
    | some t => some (t.kind = 1 ∧ (s.size : Int) = t.length / 2 + 1 ∧ 0 ≤ t.length ∧ t.length ≤ 100, .tup [.d (qb7 (qiu t s).1), .d (.i .i64 (qiu t s).2.1), .d (.i .i64 (qiu t s).2.2)])
    | _ => none
  | _ => none
noncomputable def q13 : FuncId → List O → Option (Prop × O) := addT q12 183 e183
noncomputable def e169 : List O → Option (Prop × O)
  | [.d x_t, .d (.s s)] => match qbg x_t with
    | some t => some (True, .tup [.d (qb7 (qdj t s).1), .d (.i .i64 (qdj t s).2.1), .d (.i .i64 (qdj t s).2.2)])
    | _ => none
  | _ => none
noncomputable def q14 : FuncId → List O → Option (Prop × O) := addT q13 169 e169
noncomputable def e193 : List O → Option (Prop × O)
  | [.d x_f, .d (.s name)] => match qb3 x_f with
    | some f => some (f.fields.length ≤ 1000000, .d (.i .i64 (idxI f.fields name)))
    | _ => none
  | _ => none
noncomputable def q15 : FuncId → List O → Option (Prop × O) := addT q14 193 e193
noncomputable def e177 : List O → Option (Prop × O)
  | [.d x_f] => match qb3 x_f with
    | some f => some (f.fields.length ≤ 1000000 ∧ (∀ j, j < f.fields.length → qbi (f.fields.getD j q04).type_ = 0), .d (.i .i64 (qfe f)))
    | _ => none
  | _ => none
noncomputable def q16 : FuncId → List O → Option (Prop × O) := addT q15 177 e177
noncomputable def e192 : List O → Option (Prop × O)
  | [.d x_f] => match qb3 x_f with
    | some f => some (f.fields.length ≤ 1000000, .tup [.d (.i .i64 (qg2 f.fields).1), .d (.i .i64 (qg2 f.fields).2)])
    | _ => none
  | _ => none
noncomputable def q17 : FuncId → List O → Option (Prop × O) := addT q16 192 e192
noncomputable def e175 : List O → Option (Prop × O)
  | [.d x_f] => match qb3 x_f with
    | some f => some (f.fields.length ≤ 1000000, .tup [.d (.i .i64 (qca f).1), .d (.i .i64 (qca f).2)])
    | _ => none
  | _ => none
noncomputable def q18 : FuncId → List O → Option (Prop × O) := addT q17 175 e175
noncomputable def e176 : List O → Option (Prop × O)
  | [.d x_f] => match qci x_f with
    | some f => some (f.format.fields.length ≤ 1000000 ∧ f.keys.length ≤ 1000000, .tup [.d (.i .i64 (qkh f).1), .d (.i .i64 (qkh f).2)])
    | _ => none
  | _ => none
noncomputable def q19 : FuncId → List O → Option (Prop × O) := addT q18 176 e176
noncomputable def e166 : List O → Option (Prop × O)
  | [.d x_f] => match qci x_f with
    | some f => some (f.format.fields.length ≤ 1000000 ∧ f.keys.length ≤ 1000000, .tup [.d (.i .i64 (qcb f).1), .d (.i .i64 (qcb f).2)])
    | _ => none
  | _ => none
noncomputable def q2a : FuncId → List O → Option (Prop × O) := addT q19 166 e166
noncomputable def e156 : List O → Option (Prop × O)
  | [.d x_f] => match qci x_f with
    | some f => some (f.format.fields.length ≤ 1000000 ∧ f.keys.length ≤ 1000000, .d (.i .i64 (qcb f).2))
    | _ => none
  | _ => none
noncomputable def q2b : FuncId → List O → Option (Prop × O) := addT q2a 156 e156
noncomputable def e138 : List O → Option (Prop × O)
  | [.d x_f] => match qci x_f with
    | some f => some (f.format.fields.length ≤ 1000000 ∧ f.keys.length ≤ 1000000, .d (.i .i64 (qcb f).2))
    | _ => none
  | _ => none
noncomputable def q2c : FuncId → List O → Option (Prop × O) := addT q2b 138 e138
noncomputable def e167 : List O → Option (Prop × O)
  | [.d x_f] => match qb3 x_f with
    | some f => some (f.fields.length ≤ 1000000, .d (.i .i64 (qca f).2))
    | _ => none
  | _ => none
noncomputable def q2d : FuncId → List O → Option (Prop × O) := addT q2c 167 e167
noncomputable def e168 : List O → Option (Prop × O)
  | [.d x_f] => match qb3 x_f with
    | some f => some (f.fields.length ≤ 1000000 ∧ (∀ j, j < f.fields.length → qbi (f.fields.getD j q04).type_ = 0), .d (.i .i64 (qfe f)))
    | _ => none
  | _ => none
noncomputable def q2e : FuncId → List O → Option (Prop × O) := addT q2d 168 e168
noncomputable def e184 : List O → Option (Prop × O)
  | [.d x_f, .d (.i .i64 a)] => match qb3 x_f with
    | some f => some (f.fields.length ≤ 1000000 ∧ (∀ j, j < f.fields.length → qbi (f.fields.getD j q04).type_ = 0) ∧ 0 ≤ a ∧ a ≤ (f.fields.length : Int), .d (.i .i64 (qcc f.fields a.toNat)))
    | _ => none
  | _ => none
noncomputable def q2f : FuncId → List O → Option (Prop × O) := addT q2e 184 e184
noncomputable def e170 : List O → Option (Prop × O)
  | [.d x_f, .d (.s s), .d (.i .i64 a)] => match qb3 x_f with
    | some f => some (f.fields.length ≤ 1000000 ∧ (∀ j, j < f.fields.length → qbi (f.fields.getD j q04).type_ = 0) ∧ 0 ≤ a ∧ a < (f.fields.length : Int) ∧ (s.size : Int) = qfe f, .d (.s (qp3 f s a.toNat)))
    | _ => none
  | _ => none
noncomputable def q2g : FuncId → List O → Option (Prop × O) := addT q2f 170 e170
noncomputable def e157 : List O → Option (Prop × O)
  | [.d x_f, .d (.s s)] => match qb3 x_f with
    | some f => some (f.fields.length ≤ 1000000, .tup [.d (.i .i64 (qc3 f s).2.1), .d (.i .i64 (qc3 f s).2.2)])
    | _ => none
  | _ => none
noncomputable def q2h : FuncId → List O → Option (Prop × O) := addT q2g 157 e157
noncomputable def e139 : List O → Option (Prop × O)
  | [.d x_f, .d (.s s)] => match qb3 x_f with
    | some f => some (f.fields.length ≤ 1000000, .d (.i .i64 (qc3 f s).2.2))
    | _ => none
  | _ => none
noncomputable def q2i : FuncId → List O → Option (Prop × O) := addT q2h 139 e139
noncomputable def e123 : List O → Option (Prop × O)
  | [.d x_t] => match q0y x_t with
    | some t => some ((t.file.format.fields.length ≤ 1000000 ∧ t.file.keys.length ≤ 1000000 ∧ t.records.length ≤ 1000000), .tup [.d (.i .i64 (q08 t).1), .d (.i .i64 (q08 t).2)])
    | _ => none
  | _ => none
noncomputable def q2j : FuncId → List O → Option (Prop × O) := addT q2i 123 e123
noncomputable def e96 : List O → Option (Prop × O)
  | [.d x_t] => match q0y x_t with
    | some t => some ((t.file.format.fields.length ≤ 1000000 ∧ t.file.keys.length ≤ 1000000 ∧ t.records.length ≤ 1000000), .d (.i .i64 (q08 t).2))
    | _ => none
  | _ => none
noncomputable def q8k : FuncId → List O → Option (Prop × O) := addT q2j 96 e96
end Go.Ev

namespace Go.Ev
def qj6 (l : List D) (n : Int) (u : D) (e : Int) : Option Ans := match decM q0y l, decL 1 (decI .i64) u with
  | some a, some b => some ⟨a, n, b, e⟩
  | _, _ => none
theorem q8l {T t : TypeId} {l : List D} {n : Int} {u : D} {e : Int} {x : Ans} (h : qj6 l n u e = some x) : ole (.bx T [.own t 6 l, .d (.i .i64 n), .d u, .d (.i .i64 e)]) (.bx T [.own t 6 (x.tables.map q0g), .d (.i .i64 x.n), .d (.sl 1 (x.units.map (D.i .i64))), .d (.i .i64 x.err)]) := by
  unfold qj6 at h
  split at h
  · rename_i h1 h2
    cases h
    exact ⟨rfl, ⟨rfl, rfl, qv7 q01 h1⟩, q02 _, q0x qg0 h2, q02 _, trivial⟩
  · cases h
theorem qlo (x : Ans) : qj6 (x.tables.map q0g) x.n (.sl 1 (x.units.map (D.i .i64))) x.err = some x := by
  unfold qj6
  rw [qcm, qd7]
theorem qjx (l : List Table) (n e : Int) : qj6 (l.map q0g) n .nil e = some ⟨l, n, [], e⟩ := by
  unfold qj6
  rw [qcm]; rfl
theorem qjy (l : List Table) (n e : Int) : qj6 (l.map q0g) n (.sl 1 []) e = some ⟨l, n, [], e⟩ := by
  unfold qj6
  rw [qcm]; rfl
def qy4 (s : List Table) (c : Change) : List Table := (qcf (s, 0) c).1
def doT (s : List Table) (c : Change) : List Table := if cond s c = 0 then qy4 s c else s
theorem qbbp (s : List Table) (n m : Int) (c : Change) : (qcf (s, n) c).1 = (qcf (s, m) c).1 := by
  unfold qcf
  split <;> rfl
section
variable {s ts : List Table} {c : Change} {cs : List Change} {k : Nat}
theorem q5h (h : qbq s c.file = -1) : cond s c = 0 ∧ doT s c = s := by
  have e : cond s c = 0 := by unfold cond; rw [if_pos (by omega)]
  refine ⟨e, ?_⟩
  unfold doT qy4 qcf
  rw [if_pos e, if_pos (by simp only; omega)]
theorem qbbq (h : ¬qbq s c.file = -1) (h2 : ¬qcx (s.getD (qbq s c.file).toNat q0z) c = 0) : cond s c = qcx (s.getD (qbq s c.file).toNat q0z) c ∧ doT s c = s := by
  have := qks s c.file
  have e : cond s c = qcx (s.getD (qbq s c.file).toNat q0z) c := by unfold cond; rw [if_neg (by omega)]
  refine ⟨e, ?_⟩
  unfold doT
  rw [if_neg (by rw [e]; exact h2)]
theorem qbbr (h : ¬qbq s c.file = -1) (h2 : qcx (s.getD (qbq s c.file).toNat q0z) c = 0) : cond s c = 0 ∧ doT s c = s.set (qbq s c.file).toNat (qey (s.getD (qbq s c.file).toNat q0z) c.rrn (qfb c)) := by
  have := qks s c.file
  have e : cond s c = 0 := by unfold cond; rw [if_neg (by omega)]; exact h2
  refine ⟨e, ?_⟩
  unfold doT qy4 qcf
  rw [if_pos e, if_neg (by simp only; omega)]
theorem qrs : mErr ts cs k = cond (mTo ts cs k).1 (cs.getD k q09) := rfl
theorem qbm3 (h : mErr ts cs k = 0) : doT (mTo ts cs k).1 (cs.getD k q09) = (mTo ts cs (k + 1)).1 := by
  unfold doT qy4
  rw [if_pos (by rw [← qrs]; exact h)]
  show _ = (qcf (mTo ts cs k) (cs.getD k q09)).1
  exact qbbp _ _ _ _
theorem qbf4 : (mTo ts cs (k + 1)).2 = (mTo ts cs k).2 + if qbq ts (cs.getD k q09).file = -1 then 0 else 1 := by
  have hl := qks ts (cs.getD k q09).file
  show (qcf (mTo ts cs k) (cs.getD k q09)).2 = _
  unfold qcf
  rw [qbfm]
  by_cases h : qbq ts (cs.getD k q09).file = -1
  · rw [if_pos (by omega), if_pos h]; omega
  · rw [if_neg (by omega), if_neg h]
end
def qfc (r : List Table × Int × Int) : Ans := ⟨r.1, r.2.1, [], r.2.2⟩
theorem qbm4 {ts : List Table} {cs : List Change} {k : Nat} (h : ∀ j, j < k → mErr ts cs j = 0) (hk : k < cs.length) (hg : ¬cond (mTo ts cs k).1 (cs.getD k q09) = 0) : qfc (qcd ts cs) = ⟨[], 0, [], cond (mTo ts cs k).1 (cs.getD k q09)⟩ := by
  rw [qp7 h hk hg]; rfl
theorem qbm5 {ts : List Table} {cs : List Change} {k : Nat} (h : ∀ j, j < k → mErr ts cs j = 0) (hk : k = cs.length) : qfc (qcd ts cs) = ⟨(mTo ts cs k).1, (mTo ts cs k).2, [], 0⟩ := by
  rw [qp8 h hk]; rfl
def qia (w : Want) (l : List Entry) (j : Nat) : List Change := ((l.drop j).filter (qgn w)).reverse.map fun x => revC x.change
theorem q2k {w : Want} {l : List Entry} {j : Nat} (hj : j < l.length) (h : qgn w (l.getD j q0i) = true) : qia w l j = qia w l (j + 1) ++ [revC (l.getD j q0i).change] := by
  unfold qia
  rw [qe5 q0i hj, List.filter_cons, if_pos h, List.reverse_cons, List.map_append]
  rfl
theorem qbm6 {w : Want} {l : List Entry} {j : Nat} (hj : j < l.length) (h : ¬qgn w (l.getD j q0i) = true) : qia w l j = qia w l (j + 1) := by
  unfold qia
  rw [qe5 q0i hj, List.filter_cons, if_neg h]
theorem q8m {w : Want} {l : List Entry} {j : Nat} (hj : l.length ≤ j) : qia w l j = [] := by
  unfold qia; rw [List.drop_of_length_le hj]; rfl
theorem qbf5 (w : Want) (l : List Entry) (j : Nat) : (qia w l j).length ≤ l.length := by
  unfold qia
  rw [List.length_map, List.length_reverse]
  have := List.length_filter_le (qgn w) (l.drop j)
  rw [List.length_drop] at this
  omega
theorem qbf6 {w : Want} {l : List Entry} (h : (qbc l).2 = 0) : qia w l 0 = qe7 w true l := by
  show _ = ((l.filter (qgn w)).map (qkg true)).reverse
  unfold qia
  rw [List.drop_zero, List.map_reverse]
  congr 1
  apply List.map_congr_left
  intro x hx
  obtain ⟨h1, h2⟩ := List.mem_filter.1 hx
  obtain ⟨j, hj, rfl⟩ := List.getElem_of_mem h1
  have hc := (qh3 h hj).1
  simp only [List.getD, List.getElem?_eq_getElem hj, Option.getD_some] at hc
  have hk : (l[j]).kind = 0 := by
    unfold qgn at h2
    simp only [Bool.and_eq_true, decide_eq_true_eq] at h2
    exact h2.1
  exact (q5g (qqc hc hk)).symm
def qgc (l : List Entry) : Int := if l.length = 0 then 1 else (l.getD 0 q0i).number
def qgd (l : List Entry) : Int := if l.length = 0 then 9999 else (l.getD (l.length - 1) q0i).number
section
variable {ts : List Table} {l : List Entry} {n : Int}
theorem q2l (l : List Entry) : qjv l = qgc l - 1 ∧ qlj l = qgd l := by
  unfold qjv qlj qgc qgd
  by_cases h : l.length = 0
  · have : ¬0 < l.length := by omega
    simp [h]
  · have : 0 < l.length := by omega
    simp [h, this]
theorem q2m (l : List Entry) : qlk l = qgc l ∧ qnc l = qgd l + 1 := by
  unfold qlk qnc qgc qgd
  by_cases h : l.length = 0
  · have : ¬0 < l.length := by omega
    simp [h]
  · have : 0 < l.length := by omega
    simp [h, this]
theorem qom (h : (qbc l).2 = 0) : 1 ≤ qgc l ∧ qgc l ≤ 9999 ∧ 1 ≤ qgd l ∧ qgd l ≤ 9999 := by
  unfold qgc qgd
  by_cases e : l.length = 0
  · simp [e]
  · rw [if_neg e, if_neg e]
    have a := qk6 h (j := 0) (by omega)
    have b := qk6 h (j := l.length - 1) (by omega)
    omega
theorem qbm7 (h : ¬chkE ts l = 0) : qfc (qew ts l n) = ⟨[], 0, [], chkE ts l⟩ := by rw [qmt h]; rfl
theorem qbm8 (h : chkE ts l = 0) (h2 : n < qgc l - 1 ∨ qgd l < n) : qfc (qew ts l n) = ⟨[], 0, [], 3⟩ := by
  rw [qmu h (by have := q2l l; omega)]; rfl
theorem qbry (h : chkE ts l = 0) (h2 : qgc l - 1 ≤ n ∧ n ≤ qgd l) : qfc (qew ts l n) = qfc (qcd ts (qe7 ⟨true, n⟩ false l)) := by
  rw [qp9 h (by have := q2l l; omega)]
theorem qbm9 (h : ¬chkE ts l = 0) : qfc (qfk ts l n) = ⟨[], 0, [], chkE ts l⟩ := by rw [qnd h]; rfl
theorem qbna (h : chkE ts l = 0) (h2 : n < qgc l ∨ qgd l + 1 < n) : qfc (qfk ts l n) = ⟨[], 0, [], 3⟩ := by
  rw [qne h (by have := q2m l; omega)]; rfl
theorem qbrz (h : chkE ts l = 0) (h2 : qgc l ≤ n ∧ n ≤ qgd l + 1) : qfc (qfk ts l n) = qfc (qcd ts (qe7 ⟨false, n⟩ true l)) := by
  rw [qrn h (by have := q2m l; omega)]
end
section
variable {t : Table} {c : Change}
theorem rc_0  (h : ¬(q08 t).2 = 0) : qcx t c = (q08 t).2 := by rw [qjw, if_pos h]
theorem rc_1 (h0 : (q08 t).2 = 0) (h : ¬c.file = t.file.name) : qcx t c = 11 := by rw [qjw, if_neg (fun q => q h0), if_pos h]
theorem rc_2 (h0 : (q08 t).2 = 0) (h1 : c.file = t.file.name) (h : c.kind < 0 ∨ 2 < c.kind) : qcx t c = 4 := by rw [qjw, if_neg (fun q => q h0), if_neg (fun q => q h1), if_pos (by omega)]
theorem rc_3 (h0 : (q08 t).2 = 0) (h1 : c.file = t.file.name) (h2 : 0 ≤ c.kind ∧ c.kind ≤ 2) (h : c.rrn < 1 ∨ ((t.records.length : Int) + if c.kind = 0 then 1 else 0) < c.rrn) : qcx t c = 3 := by rw [qjw, if_neg (fun q => q h0), if_neg (fun q => q h1), if_neg (fun q => q h2), if_pos (by omega)]
theorem rc_4 (h0 : (q08 t).2 = 0) (h1 : c.file = t.file.name) (h2 : 0 ≤ c.kind ∧ c.kind ≤ 2) (h3 : 1 ≤ c.rrn ∧ c.rrn ≤ (t.records.length : Int) + if c.kind = 0 then 1 else 0) (h : c.kind = 0 ∧ ¬c.before = ⟨#[]⟩ ∨ c.kind = 2 ∧ ¬c.after = ⟨#[]⟩) : qcx t c = 5 := by rw [qjw, if_neg (fun q => q h0), if_neg (fun q => q h1), if_neg (fun q => q h2), if_neg (fun q => q h3), if_pos h]
theorem rc_5 (h0 : (q08 t).2 = 0) (h1 : c.file = t.file.name) (h2 : 0 ≤ c.kind ∧ c.kind ≤ 2) (h3 : 1 ≤ c.rrn ∧ c.rrn ≤ (t.records.length : Int) + if c.kind = 0 then 1 else 0) (h4 : (¬c.kind = 0 ∨ c.before = ⟨#[]⟩) ∧ (¬c.kind = 2 ∨ c.after = ⟨#[]⟩)) (h : c.kind = 0 ∧ qf4 t c.rrn = true) : qcx t c = 12 := by rw [qjw, if_neg (fun q => q h0), if_neg (fun q => q h1), if_neg (fun q => q h2), if_neg (fun q => q h3), if_neg (fun q => q.elim (fun e => h4.1.elim (fun z => z e.1) e.2) (fun e => h4.2.elim (fun z => z e.1) e.2)), if_pos h]
theorem rc_6 (h0 : (q08 t).2 = 0) (h1 : c.file = t.file.name) (h2 : 0 ≤ c.kind ∧ c.kind ≤ 2) (h3 : 1 ≤ c.rrn ∧ c.rrn ≤ (t.records.length : Int) + if c.kind = 0 then 1 else 0) (h4 : (¬c.kind = 0 ∨ c.before = ⟨#[]⟩) ∧ (¬c.kind = 2 ∨ c.after = ⟨#[]⟩)) (h5 : ¬c.kind = 0 ∨ qf4 t c.rrn = false) (h : c.kind = 0 ∧ 60 < c.rrn) : qcx t c = 30 := by rw [qjw, if_neg (fun q => q h0), if_neg (fun q => q h1), if_neg (fun q => q h2), if_neg (fun q => q h3), if_neg (fun q => q.elim (fun e => h4.1.elim (fun z => z e.1) e.2) (fun e => h4.2.elim (fun z => z e.1) e.2)), if_neg (fun q => h5.elim (fun z => z q.1) (fun z => by rw [z] at q; exact absurd q.2 (by decide))), if_pos h]
theorem rc_7 (h0 : (q08 t).2 = 0) (h1 : c.file = t.file.name) (h2 : 0 ≤ c.kind ∧ c.kind ≤ 2) (h3 : 1 ≤ c.rrn ∧ c.rrn ≤ (t.records.length : Int) + if c.kind = 0 then 1 else 0) (h4 : (¬c.kind = 0 ∨ c.before = ⟨#[]⟩) ∧ (¬c.kind = 2 ∨ c.after = ⟨#[]⟩)) (h5 : ¬c.kind = 0 ∨ qf4 t c.rrn = false) (h6 : ¬c.kind = 0 ∨ c.rrn ≤ 60) (h : ¬c.kind = 0 ∧ qf4 t c.rrn = false) : qcx t c = 11 := by rw [qjw, if_neg (fun q => q h0), if_neg (fun q => q h1), if_neg (fun q => q h2), if_neg (fun q => q h3), if_neg (fun q => q.elim (fun e => h4.1.elim (fun z => z e.1) e.2) (fun e => h4.2.elim (fun z => z e.1) e.2)), if_neg (fun q => h5.elim (fun z => z q.1) (fun z => by rw [z] at q; exact absurd q.2 (by decide))), if_neg (by omega), if_pos h]
theorem rc_8 (h0 : (q08 t).2 = 0) (h1 : c.file = t.file.name) (h2 : 0 ≤ c.kind ∧ c.kind ≤ 2) (h3 : 1 ≤ c.rrn ∧ c.rrn ≤ (t.records.length : Int) + if c.kind = 0 then 1 else 0) (h4 : (¬c.kind = 0 ∨ c.before = ⟨#[]⟩) ∧ (¬c.kind = 2 ∨ c.after = ⟨#[]⟩)) (h5 : ¬c.kind = 0 ∨ qf4 t c.rrn = false) (h6 : ¬c.kind = 0 ∨ c.rrn ≤ 60) (h7 : c.kind = 0 ∨ qf4 t c.rrn = true) (h : ¬c.kind = 0 ∧ ¬(t.records.getD (c.rrn - 1).toNat zRec).bytes = c.before) : qcx t c = 15 := by rw [qjw, if_neg (fun q => q h0), if_neg (fun q => q h1), if_neg (fun q => q h2), if_neg (fun q => q h3), if_neg (fun q => q.elim (fun e => h4.1.elim (fun z => z e.1) e.2) (fun e => h4.2.elim (fun z => z e.1) e.2)), if_neg (fun q => h5.elim (fun z => z q.1) (fun z => by rw [z] at q; exact absurd q.2 (by decide))), if_neg (by omega), if_neg (fun q => h7.elim q.1 (fun z => by rw [z] at q; exact absurd q.2 (by decide))), if_pos h]
theorem rc_9 (h0 : (q08 t).2 = 0) (h1 : c.file = t.file.name) (h2 : 0 ≤ c.kind ∧ c.kind ≤ 2) (h3 : 1 ≤ c.rrn ∧ c.rrn ≤ (t.records.length : Int) + if c.kind = 0 then 1 else 0) (h4 : (¬c.kind = 0 ∨ c.before = ⟨#[]⟩) ∧ (¬c.kind = 2 ∨ c.after = ⟨#[]⟩)) (h5 : ¬c.kind = 0 ∨ qf4 t c.rrn = false) (h6 : ¬c.kind = 0 ∨ c.rrn ≤ 60) (h7 : c.kind = 0 ∨ qf4 t c.rrn = true) (h8 : c.kind = 0 ∨ (t.records.getD (c.rrn - 1).toNat zRec).bytes = c.before) (h : c.kind = 2) : qcx t c = 0 := by rw [qjw, if_neg (fun q => q h0), if_neg (fun q => q h1), if_neg (fun q => q h2), if_neg (fun q => q h3), if_neg (fun q => q.elim (fun e => h4.1.elim (fun z => z e.1) e.2) (fun e => h4.2.elim (fun z => z e.1) e.2)), if_neg (fun q => h5.elim (fun z => z q.1) (fun z => by rw [z] at q; exact absurd q.2 (by decide))), if_neg (by omega), if_neg (fun q => h7.elim q.1 (fun z => by rw [z] at q; exact absurd q.2 (by decide))), if_neg (fun q => h8.elim q.1 q.2), if_pos h]
theorem qbxl (h0 : (q08 t).2 = 0) (h1 : c.file = t.file.name) (h2 : 0 ≤ c.kind ∧ c.kind ≤ 2) (h3 : 1 ≤ c.rrn ∧ c.rrn ≤ (t.records.length : Int) + if c.kind = 0 then 1 else 0) (h4 : (¬c.kind = 0 ∨ c.before = ⟨#[]⟩) ∧ (¬c.kind = 2 ∨ c.after = ⟨#[]⟩)) (h5 : ¬c.kind = 0 ∨ qf4 t c.rrn = false) (h6 : ¬c.kind = 0 ∨ c.rrn ≤ 60) (h7 : c.kind = 0 ∨ qf4 t c.rrn = true) (h8 : c.kind = 0 ∨ (t.records.getD (c.rrn - 1).toNat zRec).bytes = c.before) (h9 : ¬c.kind = 2) : qcx t c = (qc3 t.file.format c.after).2.2 := by rw [qjw, if_neg (fun q => q h0), if_neg (fun q => q h1), if_neg (fun q => q h2), if_neg (fun q => q h3), if_neg (fun q => q.elim (fun e => h4.1.elim (fun z => z e.1) e.2) (fun e => h4.2.elim (fun z => z e.1) e.2)), if_neg (fun q => h5.elim (fun z => z q.1) (fun z => by rw [z] at q; exact absurd q.2 (by decide))), if_neg (by omega), if_neg (fun q => h7.elim q.1 (fun z => by rw [z] at q; exact absurd q.2 (by decide))), if_neg (fun q => h8.elim q.1 q.2), if_neg (h9)]
end
end Go.Ev

namespace Go.Ev
open Go.Proofs Ty
set_option maxRecDepth 10000
set_option maxHeartbeats 4000000
noncomputable def e140 : List O → Option (Prop × O)
  | [.d x_t, .d (.i .i64 n)] => match q0y x_t with
    | some t => some (t.records.length ≤ 1000000, .d (.b (qf4 t n)))
    | _ => none
  | _ => none
noncomputable def q2n : FuncId → List O → Option (Prop × O) := addT q8k 140 e140
noncomputable def e38o : List O → Option (Prop × O)
  | [.d x_t] => match q0y x_t with
    | some t => some ((t.file.format.fields.length ≤ 1000000 ∧ t.file.keys.length ≤ 1000000 ∧ t.records.length ≤ 1000000), .agg [.d (.s t.file.name), .d (.s t.file.format.name), .d (.sl 4 (t.file.format.fields.map q05)), .d (.sl 2 (t.file.keys.map q06)), .d (.b t.file.unique), .own 104 2 (t.records.map qbp)])
    | _ => none
  | _ => none
noncomputable def q2o : FuncId → List O → Option (Prop × O) := addT q2n 38 e38o
noncomputable def e141 : List O → Option (Prop × O)
  | [.d x_t, .d (.i .i64 n), .d x_r] => match q0y x_t, qc5 x_r with
    | some t, some r => some (1 ≤ n ∧ n ≤ (t.records.length : Int) + 1 ∧ t.records.length ≤ 1000000 ∧ t.file.format.fields.length ≤ 1000000 ∧ t.file.keys.length ≤ 1000000, .d (q0g (qey t n r)))
    | _, _ => none
  | _ => none
noncomputable def q2p : FuncId → List O → Option (Prop × O) := addT q2o 141 e141
noncomputable def e124 : List O → Option (Prop × O)
  | [.d x_t, .d x_c] => match q0y x_t, q00 x_c with
    | some t, some c => some ((t.file.format.fields.length ≤ 1000000 ∧ t.file.keys.length ≤ 1000000 ∧ t.records.length ≤ 1000000), .d (.i .i64 (qcx t c)))
    | _, _ => none
  | _ => none
noncomputable def q2q : FuncId → List O → Option (Prop × O) := addT q2p 124 e124
noncomputable def e125 : List O → Option (Prop × O)
  | [.d x_t, .d x_c] => match q0y x_t, q00 x_c with
    | some t, some c => some (1 ≤ c.rrn ∧ c.rrn ≤ (t.records.length : Int) + 1 ∧ t.records.length ≤ 1000000 ∧ t.file.format.fields.length ≤ 1000000 ∧ t.file.keys.length ≤ 1000000, .d (q0g (qey t c.rrn (qfb c))))
    | _, _ => none
  | _ => none
noncomputable def q2r : FuncId → List O → Option (Prop × O) := addT q2q 125 e125
noncomputable def e97 : List O → Option (Prop × O)
  | [.d x_t, .d x_c] => match q0y x_t, q00 x_c with
    | some t, some c => some ((t.file.format.fields.length ≤ 1000000 ∧ t.file.keys.length ≤ 1000000 ∧ t.records.length ≤ 1000000), .tup [.d (q0g (qgb t c).1), .d (.i .i64 (qgb t c).2)])
    | _, _ => none
  | _ => none
noncomputable def q8n : FuncId → List O → Option (Prop × O) := addT q2r 97 e97
noncomputable def e45 : List O → Option (Prop × O)
  | [.d x_c] => match q00 x_c with
    | some c => some (True, .d (q0u (revC c)))
    | _ => none
  | _ => none
noncomputable def q8o : FuncId → List O → Option (Prop × O) := addT q8n 45 e45
noncomputable def e77 : List O → Option (Prop × O)
  | [.d x_l, .d (.s n)] => match decL 6 q0y x_l with
    | some l => some (l.length ≤ 1000000, .d (.i .i64 (qbq l n)))
    | _ => none
  | _ => none
noncomputable def q8p : FuncId → List O → Option (Prop × O) := addT q8o 77 e77
noncomputable def e74 : List O → Option (Prop × O)
  | [.d x_l] => match decL 6 q0y x_l with
    | some l => some (okTs l, .tup [.d (.i .i64 (qki l).1), .d (.i .i64 (qki l).2)])
    | _ => none
  | _ => none
noncomputable def q8q : FuncId → List O → Option (Prop × O) := addT q8p 74 e74
noncomputable def e38d : List O → Option (Prop × O)
  | [.d x_t] => match q0y x_t with
    | some t => some ((t.file.format.fields.length ≤ 1000000 ∧ t.file.keys.length ≤ 1000000 ∧ t.records.length ≤ 1000000), .d (q0g t))
    | _ => none
  | _ => none
noncomputable def q2s : FuncId → List O → Option (Prop × O) := addT q8q 38 e38d
noncomputable def e75 : List O → Option (Prop × O)
  | [.bx 33 [.own 80 6 x_x, .d (.i .i64 n_x), .d u_x, .d (.i .i64 e_x)], .d x_c] => match qj6 x_x n_x u_x e_x, q00 x_c with
    | some x, some c => some (okTs x.tables, .tup [.d (.i .i64 (cond x.tables c)), .bx 33 [.own 80 6 ((doT x.tables c).map q0g), .d (.i .i64 x.n), .d (.sl 1 (x.units.map (D.i .i64))), .d (.i .i64 x.err)]])
    | _, _ => none
  | _ => none
noncomputable def q8r : FuncId → List O → Option (Prop × O) := addT q2s 75 e75
def mvz : FuncId → Nat → List (Nat × TypeId × Nat) := fun f => if f = 75 then (fun j => if j = 0 then [(4242, 33, 0), (0, 80, 6)] else []) else fun _ => []
noncomputable def e42 : List O → Option (Prop × O)
  | [.d x_ts, .d x_cs] => match decL 6 q0y x_ts, decL 5 q00 x_cs with
    | some ts, some cs => some (okTs ts ∧ cs.length ≤ 1000000, .d (qd4 (qfc (qcd ts cs))))
    | _, _ => none
  | _ => none
noncomputable def q8s : FuncId → List O → Option (Prop × O) := addT q8r 42 e42
noncomputable def e39 : List O → Option (Prop × O)
  | [.d x_ts, .d x_l] => match decL 6 q0y x_ts, decL 8 q0w x_l with
    | some ts, some l => some (okTs ts ∧ l.length ≤ 1000000, .d (.i .i64 (chkE ts l)))
    | _, _ => none
  | _ => none
noncomputable def q8t : FuncId → List O → Option (Prop × O) := addT q8s 39 e39
noncomputable def e40 : List O → Option (Prop × O)
  | [.d x_l] => match decL 8 q0w x_l with
    | some l => some (l.length ≤ 1000000, .tup [.d (.i .i64 (qgc l)), .d (.i .i64 (qgd l))])
    | _ => none
  | _ => none
noncomputable def q8u : FuncId → List O → Option (Prop × O) := addT q8t 40 e40
noncomputable def e13 : List O → Option (Prop × O)
  | [.d x_ts, .d x_l, .d (.i .i64 n)] => match decL 6 q0y x_ts, decL 8 q0w x_l with
    | some ts, some l => some (okTs ts ∧ l.length ≤ 1000000, .d (qd4 (qfc (qew ts l n))))
    | _, _ => none
  | _ => none
noncomputable def q8v : FuncId → List O → Option (Prop × O) := addT q8u 13 e13
noncomputable def e16 : List O → Option (Prop × O)
  | [.d x_ts, .d x_l, .d (.i .i64 n)] => match decL 6 q0y x_ts, decL 8 q0w x_l with
    | some ts, some l => some (okTs ts ∧ l.length ≤ 1000000, .d (qd4 (qfc (qfk ts l n))))
    | _, _ => none
  | _ => none
noncomputable def q8w : FuncId → List O → Option (Prop × O) := addT q8v 16 e16
noncomputable def e14 : List O → Option (Prop × O)
  | [.d x_ts, .d (.i .i64 e), .d x_x] => match decL 6 q0y x_ts, qgm x_x with
    | some ts, some x => some (okTs ts, .d (.b (decide (e = x.err) && decide (ts = x.tables))))
    | _, _ => none
  | _ => none
noncomputable def q8x : FuncId → List O → Option (Prop × O) := addT q8w 14 e14
noncomputable def e3 : List O → Option (Prop × O)
  | [.d x_ts, .d x_l, .d (.i .i64 n)] => match decL 6 q0y x_ts, decL 8 q0w x_l with
    | some ts, some l => some (True, .d (.b true))
    | _, _ => none
  | _ => none
noncomputable def tab3 : FuncId → List O → Option (Prop × O) := addT q8x 3 e3
noncomputable def e4 : List O → Option (Prop × O)
  | [.d x_ts, .d x_l, .d (.i .i64 n)] => match decL 6 q0y x_ts, decL 8 q0w x_l with
    | some ts, some l => some (True, .d (.b true))
    | _, _ => none
  | _ => none
noncomputable def tab4 : FuncId → List O → Option (Prop × O) := addT tab3 4 e4
end Go.Ev

namespace Go.Ev
def hitS (f : ByteArray) (x : Entry) : Bool := decide (x.kind = 4) && decide (x.change.file = f)
theorem qqe {f : ByteArray} {x : Entry} : hitS f x = true ↔ x.kind = 4 ∧ x.change.file = f := by simp [hitS]
def sIdx (l : List Entry) (f : ByteArray) : Nat → Int
  | 0 => -1
  | i + 1 => if hitS f (l.getD i q0i) = true then i else sIdx l f i
def sNum (l : List Entry) (f : ByteArray) : Nat → Int
  | 0 => 0
  | i + 1 => if hitS f (l.getD i q0i) = true then (l.getD i q0i).number else sNum l f i
section
variable {l : List Entry} {f : ByteArray} {i : Nat}
theorem qbf7 (h : (l.getD i q0i).kind = 4 ∧ (l.getD i q0i).change.file = f) : sIdx l f (i + 1) = i := by simp only [sIdx]; rw [if_pos (qqe.2 h)]
theorem qbnb (h : ¬(l.getD i q0i).kind = 4 ∨ ¬(l.getD i q0i).change.file = f) : sIdx l f (i + 1) = sIdx l f i := by
  simp only [sIdx]; rw [if_neg (fun e => by have := qqe.1 e; exact h.elim (fun q => q this.1) (fun q => q this.2))]
theorem qbf8 (h : (l.getD i q0i).kind = 4 ∧ (l.getD i q0i).change.file = f) : sNum l f (i + 1) = (l.getD i q0i).number := by simp only [sNum]; rw [if_pos (qqe.2 h)]
theorem qbnc (h : ¬(l.getD i q0i).kind = 4 ∨ ¬(l.getD i q0i).change.file = f) : sNum l f (i + 1) = sNum l f i := by
  simp only [sNum]; rw [if_neg (fun e => by have := qqe.1 e; exact h.elim (fun q => q this.1) (fun q => q this.2))]
theorem qsn (l : List Entry) (f : ByteArray) : ∀ i, -1 ≤ sIdx l f i ∧ sIdx l f i < i
  | 0 => by simp [sIdx]
  | i + 1 => by
    have := qsn l f i
    simp only [sIdx]
    split <;> omega
theorem qso (l : List Entry) (f : ByteArray) : ∀ i, sNum l f i = if sIdx l f i < 0 then 0 else (l.getD (sIdx l f i).toNat q0i).number
  | 0 => by simp [sNum, sIdx]
  | i + 1 => by
    simp only [sNum, sIdx]
    split
    · rw [if_neg (by omega), Int.toNat_natCast]
    · exact qso l f i
end
def qhv (l : List Entry) (f : ByteArray) : Int × Int :=
  if (qbc l).2 ≠ 0 then (0, (qbc l).2) else if qbb f = false then (0, 7) else if sIdx l f l.length < 0 then (0, 40) else ((l.getD (sIdx l f l.length).toNat q0i).number, 0)
section
variable {l : List Entry} {f : ByteArray}
theorem q2t (h : ¬(qbc l).2 = 0) : qhv l f = (0, (qbc l).2) := by unfold qhv; rw [if_pos h]
theorem qyc (h : (qbc l).2 = 0) (h2 : qbb f = false) : qhv l f = (0, 7) := by unfold qhv; rw [if_neg (fun e => e h), if_pos h2]
theorem qyd (h : (qbc l).2 = 0) (h2 : ¬qbb f = false) (h3 : sIdx l f l.length < 0) : qhv l f = (0, 40) := by unfold qhv; rw [if_neg (fun e => e h), if_neg h2, if_pos h3]
theorem qye (h : (qbc l).2 = 0) (h2 : ¬qbb f = false) (h3 : 0 ≤ sIdx l f l.length) : qhv l f = ((l.getD (sIdx l f l.length).toNat q0i).number, 0) := by unfold qhv; rw [if_neg (fun e => e h), if_neg h2, if_neg (by omega)]
theorem q2u (h : (qbc l).2 = 0) : 0 < sNum l f l.length ↔ 0 ≤ sIdx l f l.length := by
  rw [qso]
  have hb := qsn l f l.length
  split
  · omega
  · have := qk6 h (j := (sIdx l f l.length).toNat) (by omega)
    omega
theorem q8y (h : (qbc l).2 = 0) (h2 : ¬qbb f = false) (h3 : ¬0 < sNum l f l.length) : qhv l f = (0, 40) := qyd h h2 (by have := q2u (f := f) h; omega)
theorem q8z (h : (qbc l).2 = 0) (h2 : ¬qbb f = false) (h3 : 0 < sNum l f l.length) : qhv l f = (sNum l f l.length, 0) := by
  have := (q2u (f := f) h).1 h3
  rw [qye h h2 this, qso, if_neg (by omega)]
end
inductive WantZ where
  | le (n : Int)
  | ge (n : Int)
  | save (l : List Entry)
  | out (u : List Int)
  | inn (u : List Int)
def qrt (l : List Entry) (x : Entry) : Bool := decide (sIdx l x.change.file l.length < 0) || decide ((l.getD (sIdx l x.change.file l.length).toNat q0i).number < x.number)
def WantZ.has : WantZ → Entry → Bool
  | .le n, x => decide (x.number ≤ n)
  | .ge n, x => decide (n ≤ x.number)
  | .save l, x => qrt l x
  | .out u, x => !decide (x.unit ∈ u)
  | .inn u, x => decide (x.unit ∈ u)
def takP (p : Entry → Bool) (x : Entry) : Bool := decide (x.kind = 0) && p x
def qff (p : Entry → Bool) (back : Bool) (l : List Entry) : List Change := (l.filter (takP p)).map (qkg back)
def qbo (p : Entry → Bool) (back : Bool) (l : List Entry) : List Change := if back then (qff p back l).reverse else qff p back l
section
variable {p q : Entry → Bool} {back : Bool} {l : List Entry} {i : Nat}
theorem qn3 {x : Entry} : takP p x = true ↔ x.kind = 0 ∧ p x = true := by simp [takP]
theorem qvi (hi : i < l.length) : qff p back (l.take (i + 1)) = if takP p (l.getD i q0i) = true then qff p back (l.take i) ++ [qkg back (l.getD i q0i)] else qff p back (l.take i) := by
  unfold qff
  rw [qdw q0i hi, List.filter_append, List.map_append]
  generalize l.getD i q0i = x
  cases h : takP p x <;> simp [List.filter_cons, h]
theorem qmx : (qff p back (l.take i)).length ≤ i := by
  unfold qff
  rw [List.length_map]
  have := List.length_filter_le (takP p) (l.take i)
  rw [List.length_take] at this
  omega
theorem qn4 (p : Entry → Bool) (back : Bool) (l : List Entry) : (qbo p back l).length ≤ l.length := by
  have := qmx (p := p) (back := back) (l := l) (i := l.length)
  rw [List.take_length] at this
  unfold qbo
  split
  · rw [List.length_reverse]; exact this
  · exact this
theorem qk7 (hi : i < l.length) (h : (l.getD i q0i).kind = 0) (h2 : p (l.getD i q0i) = true) : qff p back (l.take (i + 1)) = qff p back (l.take i) ++ [qkg back (l.getD i q0i)] := by rw [qvi hi, if_pos (qn3.2 ⟨h, h2⟩)]
theorem qn5 (hi : i < l.length) (h : ¬(l.getD i q0i).kind = 0 ∨ p (l.getD i q0i) = false) : qff p back (l.take (i + 1)) = qff p back (l.take i) := by
  rw [qvi hi, if_neg]
  rw [qn3]
  rintro ⟨a, b⟩
  rcases h with h | h
  · exact h a
  · rw [h] at b; cases b
theorem qvj (h : l.length ≤ i) : (qff p true (l.take i)).reverse = qbo p true l := by rw [List.take_of_length_le h]; rfl
theorem qni (h : l.length ≤ i) : qff p false (l.take i) = qbo p false l := by rw [List.take_of_length_le h]; rfl
theorem q4a (h : l.length ≤ i) : List.take (qff p true (l.take i)).length (qff p true (l.take i)).reverse = qbo p true l := by
  rw [List.take_of_length_le (l := (qff p true (l.take i)).reverse) (by simp), qvj h]
theorem ql6 (h : ∀ x ∈ l, x.kind = 0 → p x = q x) : qbo p back l = qbo q back l := by
  have e : qff p back l = qff q back l := by
    unfold qff
    congr 1
    apply List.filter_congr
    intro x hx
    unfold takP
    by_cases k : x.kind = 0
    · rw [h x hx k]
    · simp [k]
  unfold qbo
  rw [e]
end
def qik (ts : List Table) (l : List Entry) : List Table × Int × Int := if chkE ts l ≠ 0 then ([], 0, chkE ts l) else qcd ts (qbo (qrt l) false l)
def qj7 (l : List Entry) (x : Entry) : Bool := decide (sNum l x.change.file l.length < x.number)
section
variable {ts : List Table} {l : List Entry}
theorem qbbs (h : ¬chkE ts l = 0) : qik ts l = ([], 0, chkE ts l) := by unfold qik; rw [if_pos h]
theorem qbi4 (h : chkE ts l = 0) : qik ts l = qcd ts (qbo (qrt l) false l) := by unfold qik; rw [if_neg (fun e => e h)]
theorem qbr0 (h : ¬chkE ts l = 0) : qfc (qik ts l) = ⟨[], 0, [], chkE ts l⟩ := by rw [qbbs h]; rfl
theorem qbf9 (h : (qbc l).2 = 0) : qbo (qrt l) false l = qbo (qj7 l) false l := by
  apply ql6
  intro x hx _
  obtain ⟨j, hj, rfl⟩ := List.getElem_of_mem hx
  have hn := qk6 h hj
  have e : l.getD j q0i = l[j] := by simp [List.getD, List.getElem?_eq_getElem hj]
  rw [e] at hn
  unfold qrt qj7
  rw [qso]
  by_cases q : sIdx l (l[j]).change.file l.length < 0
  · rw [if_pos q]
    have : 0 < (l[j]).number := by omega
    simp [q, this]
  · rw [if_neg q]; simp [q]
theorem qbxm {i : Nat} (h : chkE ts l = 0) (hi : l.length ≤ i) : qfc (qik ts l) = qfc (qcd ts (qff (qj7 l) false (l.take i))) := by
  rw [qbi4 h, qbf9 (qfj h).2, qni hi]
theorem qyf (h : okTs ts) : okTs (qik ts l).1 := by
  unfold qik
  split
  · exact qih
  · exact qmw h
end
end Go.Ev

namespace Go.Ev
def idxZ (l : List Int) (v : Int) : Int := match l.findIdx? (· == v) with | some i => (i : Int) | none => -1
theorem qbbt {l : List Int} {i : Nat} (h : i < l.length) : l.take (i + 1) = l.take i ++ [l.getD i 0] := qdw 0 h
theorem q2v {l : List Int} {v : Int} {i : Nat} (h : (l.take i).findIdx? (· == v) = none) (hi : i < l.length) (e : v = l.getD i 0) : idxZ l v = i := by
  unfold idxZ
  have : l.findIdx? (· == v) = some i := by
    rw [← List.take_append_drop i l, List.findIdx?_append, h, qe5 0 hi]
    rw [List.findIdx?_cons]
    have hl : (l.take i).length = i := by rw [List.length_take]; omega
    simp [e, hl]
  rw [this]
theorem qyg {l : List Int} {v : Int} {i : Nat} (h : (l.take i).findIdx? (· == v) = none) (hi : i < l.length) (e : ¬v = l.getD i 0) : (l.take (i + 1)).findIdx? (· == v) = none := by
  rw [qbbt hi, List.findIdx?_append, h]
  have : ¬ l.getD i 0 = v := fun h => e h.symm
  simp [List.findIdx?_cons] at this ⊢
  exact this
theorem q2w {l : List Int} {v : Int} {i : Nat} (h : (l.take i).findIdx? (· == v) = none) (hi : l.length ≤ i) : idxZ l v = -1 := by
  rw [List.take_of_length_le hi] at h
  unfold idxZ; rw [h]
theorem qtp (l : List Int) (v : Int) : (idxZ l v ≥ 0) ↔ v ∈ l := by
  unfold idxZ
  cases h : l.findIdx? (· == v) with
  | none =>
    rw [List.findIdx?_eq_none_iff] at h
    simp only [ge_iff_le]
    constructor
    · intro h; omega
    · intro hm; have := h v hm; simp at this
  | some i =>
    rw [List.findIdx?_eq_some_iff_getElem] at h
    obtain ⟨h1, h2, _⟩ := h
    simp at h2
    simp only [ge_iff_le]
    exact ⟨fun _ => h2 ▸ List.getElem_mem h1, fun _ => by omega⟩
end Go.Ev

namespace Go.Ev
open Go.Proofs Ty
set_option maxRecDepth 10000
set_option maxHeartbeats 4000000
def qg8 : WantZ → D
  | .le n => .fn 37 [.cp [.i .i64 n]]
  | .ge n => .fn 44 [.cp [.i .i64 n]]
  | .save l => .fn 49 [.cp [.sl 8 (l.map q0r)]]
  | .out u => .fn 54 [.cp [.sl 1 (u.map (D.i .i64))]]
  | .inn u => .fn 56 [.cp [.sl 1 (u.map (D.i .i64))]]
def qhr : D → Option WantZ
  | .fn f [.cp [d]] => if f = 37 then (match d with | .i .i64 n => some (.le n) | _ => none) else if f = 44 then (match d with | .i .i64 n => some (.ge n) | _ => none)
    else if f = 49 then (decL 8 q0w d).map .save else if f = 54 then (decL 1 (decI .i64) d).map .out else if f = 56 then (decL 1 (decI .i64) d).map .inn else none
  | _ => none
theorem q4b {d : D} {x : WantZ} (h : qhr d = some x) : dle d (qg8 x) := by
  unfold qhr at h
  split at h
  · split at h
    · rename_i hf; subst hf
      split at h
      · cases h; exact q02 _
      · cases h
    split at h
    · rename_i hf; subst hf
      split at h
      · cases h; exact q02 _
      · cases h
    split at h
    · rename_i hf; subst hf
      obtain ⟨l, hl, rfl⟩ := Option.map_eq_some_iff.1 h
      exact ⟨rfl, ⟨q0x q03 hl, trivial⟩, trivial⟩
    split at h
    · rename_i hf; subst hf
      obtain ⟨l, hl, rfl⟩ := Option.map_eq_some_iff.1 h
      exact ⟨rfl, ⟨q0x qg0 hl, trivial⟩, trivial⟩
    split at h
    · rename_i hf; subst hf
      obtain ⟨l, hl, rfl⟩ := Option.map_eq_some_iff.1 h
      exact ⟨rfl, ⟨q0x qg0 hl, trivial⟩, trivial⟩
    · cases h
  · cases h
theorem dWZ1 (n : Int) : qhr (.fn 37 [.cp [.i .i64 n]]) = some (.le n) := rfl
theorem dWZ2 (n : Int) : qhr (.fn 44 [.cp [.i .i64 n]]) = some (.ge n) := rfl
theorem dWZ3 (l : List Entry) : qhr (.fn 49 [.cp [.sl 8 (l.map q0r)]]) = some (.save l) := by unfold qhr; simp [qdu]
theorem dWZ4 (l : List Int) : qhr (.fn 54 [.cp [.sl 1 (l.map (D.i .i64))]]) = some (.out l) := by unfold qhr; simp [qd7]
theorem dWZ5 (l : List Int) : qhr (.fn 56 [.cp [.sl 1 (l.map (D.i .i64))]]) = some (.inn l) := by unfold qhr; simp [qd7]
noncomputable def e85 : List O → Option (Prop × O)
  | [.d x_l, .d (.i .i64 v)] => match decL 1 (decI .i64) x_l with
    | some l => some (l.length ≤ 1000000, .d (.i .i64 (idxZ l v)))
    | _ => none
  | _ => none
noncomputable def q80 : FuncId → List O → Option (Prop × O) := addT tab4 85 e85
noncomputable def e55 : List O → Option (Prop × O)
  | [.d x_l, .d (.i .i64 v)] => match decL 1 (decI .i64) x_l with
    | some l => some (l.length ≤ 1000000, .d (.b (decide (v ∈ l))))
    | _ => none
  | _ => none
noncomputable def q81 : FuncId → List O → Option (Prop × O) := addT q80 55 e55
noncomputable def e25 : List O → Option (Prop × O)
  | [.d x_a, .d x_b] => match decL 1 (decI .i64) x_a, decL 1 (decI .i64) x_b with
    | some a, some b => some (a.length ≤ 1000000, .d (.b (decide (a = b))))
    | _, _ => none
  | _ => none
noncomputable def q82 : FuncId → List O → Option (Prop × O) := addT q81 25 e25
noncomputable def e48 : List O → Option (Prop × O)
  | [.d x_l, .d (.s file)] => match decL 8 q0w x_l with
    | some l => some (l.length ≤ 1000000, .d (.i .i64 (sIdx l file l.length)))
    | _ => none
  | _ => none
noncomputable def q83 : FuncId → List O → Option (Prop × O) := addT q82 48 e48
noncomputable def e17 : List O → Option (Prop × O)
  | [.d x_l, .d (.s file)] => match decL 8 q0w x_l with
    | some l => some (l.length ≤ 1000000, .tup [.d (.i .i64 (qhv l file).1), .d (.i .i64 (qhv l file).2)])
    | _ => none
  | _ => none
noncomputable def q84 : FuncId → List O → Option (Prop × O) := addT q83 17 e17
noncomputable def e52 : List O → Option (Prop × O)
  | [.d x_l, .d (.s file)] => match decL 8 q0w x_l with
    | some l => some (l.length ≤ 1000000, .d (.i .i64 (sNum l file l.length)))
    | _ => none
  | _ => none
noncomputable def q85 : FuncId → List O → Option (Prop × O) := addT q84 52 e52
noncomputable def e19 : List O → Option (Prop × O)
  | [.d x_l, .d (.s file)] => match decL 8 q0w x_l with
    | some l => some (l.length ≤ 1000000, .tup [.d (.i .i64 (qhv l file).1), .d (.i .i64 (qhv l file).2)])
    | _ => none
  | _ => none
noncomputable def q86 : FuncId → List O → Option (Prop × O) := addT q85 19 e19
noncomputable def e37z : List O → Option (Prop × O)
  | [.d x_x, .d (.cp [.i .i64 n])] => match q0w x_x with
    | some x => some (True, .d (.b ((WantZ.le n).has x)))
    | _ => none
  | _ => none
noncomputable def q2x : FuncId → List O → Option (Prop × O) := addT q86 37 e37z
noncomputable def e44z : List O → Option (Prop × O)
  | [.d x_x, .d (.cp [.i .i64 n])] => match q0w x_x with
    | some x => some (True, .d (.b ((WantZ.ge n).has x)))
    | _ => none
  | _ => none
noncomputable def q2y : FuncId → List O → Option (Prop × O) := addT q2x 44 e44z
noncomputable def e49 : List O → Option (Prop × O)
  | [.d x_x, .d (.cp [x_l])] => match q0w x_x, decL 8 q0w x_l with
    | some x, some l => some (l.length ≤ 1000000, .d (.b ((WantZ.save l).has x)))
    | _, _ => none
  | _ => none
noncomputable def q87 : FuncId → List O → Option (Prop × O) := addT q2y 49 e49
noncomputable def e54 : List O → Option (Prop × O)
  | [.d x_x, .d (.cp [x_u])] => match q0w x_x, decL 1 (decI .i64) x_u with
    | some x, some u => some (u.length ≤ 1000000, .d (.b ((WantZ.out u).has x)))
    | _, _ => none
  | _ => none
noncomputable def q88 : FuncId → List O → Option (Prop × O) := addT q87 54 e54
noncomputable def e56 : List O → Option (Prop × O)
  | [.d x_x, .d (.cp [x_u])] => match q0w x_x, decL 1 (decI .i64) x_u with
    | some x, some u => some (u.length ≤ 1000000, .d (.b ((WantZ.inn u).has x)))
    | _, _ => none
  | _ => none
noncomputable def q89 : FuncId → List O → Option (Prop × O) := addT q88 56 e56
def WantZ.ok : WantZ → Prop
  | .save l => l.length ≤ 1000000
  | .out u => u.length ≤ 1000000
  | .inn u => u.length ≤ 1000000
  | _ => True
noncomputable def e36z : List O → Option (Prop × O)
  | [.d x_l, .d (.b back), .d x_w] => match decL 8 q0w x_l, qhr x_w with
    | some l, some w => some (l.length ≤ 1000000 ∧ w.ok, .d (.sl 5 ((qbo w.has back l).map q0u)))
    | _, _ => none
  | _ => none
noncomputable def q2z : FuncId → List O → Option (Prop × O) := addT q89 36 e36z
noncomputable def e18 : List O → Option (Prop × O)
  | [.d x_ts, .d x_l] => match decL 6 q0y x_ts, decL 8 q0w x_l with
    | some ts, some l => some (okTs ts ∧ l.length ≤ 1000000, .tup [.d (.sl 6 ((qik ts l).1.map q0g)), .d (.i .i64 (qik ts l).2.1), .d (.i .i64 (qik ts l).2.2)])
    | _, _ => none
  | _ => none
noncomputable def q9a : FuncId → List O → Option (Prop × O) := addT q2z 18 e18
noncomputable def e20 : List O → Option (Prop × O)
  | [.d x_ts, .d x_l] => match decL 6 q0y x_ts, decL 8 q0w x_l with
    | some ts, some l => some (okTs ts ∧ l.length ≤ 1000000, .d (qd4 (qfc (qik ts l))))
    | _, _ => none
  | _ => none
noncomputable def q9b : FuncId → List O → Option (Prop × O) := addT q9a 20 e20
noncomputable def e5 : List O → Option (Prop × O)
  | [.d x_ts, .d x_l, .d (.s file)] => match decL 6 q0y x_ts, decL 8 q0w x_l with
    | some ts, some l => some (True, .d (.b true))
    | _, _ => none
  | _ => none
noncomputable def tab5 : FuncId → List O → Option (Prop × O) := addT q9b 5 e5
end Go.Ev
