/- Tools and contracts under the laws of this seat: DyE6 to DyE15. -/
import Derived.Test.YtkgkgcojfocomaaGreatE07
import Derived.Test.YtkgkgcojfocomaaGreatE08
import Derived.Test.YtkgkgcojfocomaaGreatE05
import Derived.Test.YtkgkgcojfocomaaGreatE03
set_option linter.unusedVariables false
set_option linter.unusedSimpArgs false
namespace Go.Ev
open Go.Proofs Ty
set_option maxRecDepth 10000
set_option maxHeartbeats 4000000
set_option linter.unusedSimpArgs false
set_option linter.unusedVariables false
noncomputable def e36 : List O → Option (Prop × O)
  | [.d x_l, .d (.b back), .d x_w] => match decL 8 q0w x_l, qov x_w with
    | some l, some w => some (l.length ≤ 1000000, .d (.sl 5 ((qff w back l).map q0u)))
    | _, _ => none
  | _ => none
noncomputable def q6b : FuncId → List O → Option (Prop × O) := addT q59 36 e36
noncomputable def e35 : List O → Option (Prop × O)
  | [.d x_ts, .d x_cs] => match decL 6 q0x x_ts, decL 5 q0z x_cs with
    | some ts, some cs => some (okTs ts ∧ cs.length ≤ 1000000, .tup [.d (.sl 6 ((qcu ts cs).1.map q0g)), .d (.i .i64 (qcu ts cs).2.1), .d (.i .i64 (qcu ts cs).2.2)])
    | _, _ => none
  | _ => none
noncomputable def q6c : FuncId → List O → Option (Prop × O) := addT q6b 35 e35
end Go.Ev

namespace Go.Ev
theorem qkr {l : List Entry} (h : (qbc l).2 = 0) {j : Nat} (hj : j < l.length) : 1 ≤ (l.getD j q0q).number ∧ (l.getD j q0q).number ≤ 9999 := qpg (qji h hj).1
theorem qfj {ts : List Table} {l : List Entry} (h : chkE ts l = 0) : qes ts = 0 ∧ (qbc l).2 = 0 := by
  unfold chkE at h
  split at h
  · contradiction
  · rename_i h2; exact ⟨Decidable.not_not.1 h2, h⟩
theorem qlz (w : Want) (back : Bool) (l : List Entry) : (qff w back l).length ≤ l.length := by
  have := qbdr w back l
  unfold qff
  split
  · rw [List.length_reverse]; exact this
  · exact this
def qk2 (l : List Entry) : Int := if 0 < l.length then (l.getD 0 q0q).number - 1 else 0
def qms (l : List Entry) : Int := if 0 < l.length then (l.getD (l.length - 1) q0q).number else 9999
def qk3 (l : List Entry) : Int := if 0 < l.length then (l.getD 0 q0q).number else 1
def qmt (l : List Entry) : Int := if 0 < l.length then (l.getD (l.length - 1) q0q).number + 1 else 10000
def qf5 (ts : List Table) (l : List Entry) (n : Int) : List Table × Int × Int :=
  if chkE ts l ≠ 0 then ([], 0, chkE ts l) else if n < qk2 l ∨ qms l < n then ([], 0, 3) else qcu ts (qff ⟨true, n⟩ false l)
def qfd (ts : List Table) (l : List Entry) (n : Int) : List Table × Int × Int :=
  if chkE ts l ≠ 0 then ([], 0, chkE ts l) else if n < qk3 l ∨ qmt l < n then ([], 0, 3) else qcu ts (qff ⟨false, n⟩ true l)
section
variable {ts : List Table} {l : List Entry} {n : Int}
theorem qn3 (h : ¬chkE ts l = 0) : qf5 ts l n = ([], 0, chkE ts l) := by unfold qf5; rw [if_pos h]
theorem qn4 (h : chkE ts l = 0) (h2 : n < qk2 l ∨ qms l < n) : qf5 ts l n = ([], 0, 3) := by unfold qf5; rw [if_neg (fun e => e h), if_pos h2]
theorem qss (h : chkE ts l = 0) (h2 : qk2 l ≤ n ∧ n ≤ qms l) : qf5 ts l n = qcu ts (qff ⟨true, n⟩ false l) := by unfold qf5; rw [if_neg (fun e => e h), if_neg (by omega)]
theorem qmu (h : ¬chkE ts l = 0) : qfd ts l n = ([], 0, chkE ts l) := by unfold qfd; rw [if_pos h]
theorem qmv (h : chkE ts l = 0) (h2 : n < qk3 l ∨ qmt l < n) : qfd ts l n = ([], 0, 3) := by unfold qfd; rw [if_neg (fun e => e h), if_pos h2]
theorem qqu (h : chkE ts l = 0) (h2 : qk3 l ≤ n ∧ n ≤ qmt l) : qfd ts l n = qcu ts (qff ⟨false, n⟩ true l) := by unfold qfd; rw [if_neg (fun e => e h), if_neg (by omega)]
theorem qww (h : 0 < (l.length : Int)) : qk2 l = (l.getD 0 q0q).number - 1 ∧ qms l = (l.getD (l.length - 1) q0q).number ∧ qk3 l = (l.getD 0 q0q).number ∧ qmt l = (l.getD (l.length - 1) q0q).number + 1 := by
  have h : 0 < l.length := by omega
  simp [qk2, qms, qk3, qmt, h]
theorem qwx (h : (l.length : Int) ≤ 0) : qk2 l = 0 ∧ qms l = 9999 ∧ qk3 l = 1 ∧ qmt l = 10000 := by
  have h : ¬0 < l.length := by omega
  simp [qk2, qms, qk3, qmt, h]
end
theorem qqv {a b : Fmt} (h1 : a.name = b.name) (h2 : a.fields = b.fields) : a = b := by cases a; cases b; simp_all
theorem qow {a b : File} (h1 : a.name = b.name) (h2 : a.unique = b.unique) (h3 : a.format = b.format) (h4 : a.keys = b.keys) : a = b := by cases a; cases b; simp_all
theorem qmb (a b : Table) : decide (a = b) = (decide (a.file = b.file) && decide (a.records = b.records)) := by
  rw [Bool.eq_iff_iff]; cases a; cases b; simp
end Go.Ev

namespace Go.Ev
open Go.Proofs Ty
set_option maxRecDepth 10000
set_option maxHeartbeats 4000000
set_option linter.unusedSimpArgs false
set_option linter.unusedVariables false
noncomputable def e10 : List O → Option (Prop × O)
  | [.d x_ts, .d x_l, .d (.i .i64 n)] => match decL 6 q0x x_ts, decL 8 q0w x_l with
    | some ts, some l => some (okTs ts ∧ l.length ≤ 1000000, .tup [.d (.sl 6 ((qf5 ts l n).1.map q0g)), .d (.i .i64 (qf5 ts l n).2.1), .d (.i .i64 (qf5 ts l n).2.2)])
    | _, _ => none
  | _ => none
noncomputable def q6d : FuncId → List O → Option (Prop × O) := addT q6c 10 e10
noncomputable def e15 : List O → Option (Prop × O)
  | [.d x_ts, .d x_l, .d (.i .i64 n)] => match decL 6 q0x x_ts, decL 8 q0w x_l with
    | some ts, some l => some (okTs ts ∧ l.length ≤ 1000000, .tup [.d (.sl 6 ((qfd ts l n).1.map q0g)), .d (.i .i64 (qfd ts l n).2.1), .d (.i .i64 (qfd ts l n).2.2)])
    | _, _ => none
  | _ => none
noncomputable def q6e : FuncId → List O → Option (Prop × O) := addT q6d 15 e15
noncomputable def e95 : List O → Option (Prop × O)
  | [.d x_f] => match qb1 x_f with
    | some f => some (f.fields.length ≤ 1000000, .d (qbt f))
    | _ => none
  | _ => none
noncomputable def q6f : FuncId → List O → Option (Prop × O) := addT q6e 95 e95
noncomputable def e73 : List O → Option (Prop × O)
  | [.d x_f] => match qcd x_f with
    | some f => some (f.format.fields.length ≤ 1000000 ∧ f.keys.length ≤ 1000000, .d (qb5 f))
    | _ => none
  | _ => none
noncomputable def q6g : FuncId → List O → Option (Prop × O) := addT q6f 73 e73
noncomputable def e38 : List O → Option (Prop × O)
  | [.d x_t] => match q0x x_t with
    | some t => some ((t.file.format.fields.length ≤ 1000000 ∧ t.file.keys.length ≤ 1000000 ∧ t.records.length ≤ 1000000), .d (q0g t))
    | _ => none
  | _ => none
noncomputable def q6h : FuncId → List O → Option (Prop × O) := addT q6g 38 e38
noncomputable def e11 : List O → Option (Prop × O)
  | [.d x_ts] => match decL 6 q0x x_ts with
    | some ts => some (okTs ts, .own 80 6 (ts.map q0g))
    | _ => none
  | _ => none
noncomputable def q6i : FuncId → List O → Option (Prop × O) := addT q6h 11 e11
noncomputable def e99 : List O → Option (Prop × O)
  | [.d x_a, .d x_b] => match decL 2 qc0 x_a, decL 2 qc0 x_b with
    | some a, some b => some (a.length ≤ 1000000, .d (.b (decide (a = b))))
    | _, _ => none
  | _ => none
noncomputable def q6j : FuncId → List O → Option (Prop × O) := addT q6i 99 e99
noncomputable def e126 : List O → Option (Prop × O)
  | [.d x_a, .d x_b] => match qb1 x_a, qb1 x_b with
    | some a, some b => some (a.fields.length ≤ 1000000, .d (.b (decide (a = b))))
    | _, _ => none
  | _ => none
noncomputable def qz7 : FuncId → List O → Option (Prop × O) := addT q6j 126 e126
noncomputable def e98 : List O → Option (Prop × O)
  | [.d x_a, .d x_b] => match qcd x_a, qcd x_b with
    | some a, some b => some (a.format.fields.length ≤ 1000000 ∧ a.keys.length ≤ 1000000, .d (.b (decide (a = b))))
    | _, _ => none
  | _ => none
noncomputable def q6k : FuncId → List O → Option (Prop × O) := addT qz7 98 e98
noncomputable def e78 : List O → Option (Prop × O)
  | [.d x_a, .d x_b] => match q0x x_a, q0x x_b with
    | some a, some b => some (okT a, .d (.b (decide (a = b))))
    | _, _ => none
  | _ => none
noncomputable def q6l : FuncId → List O → Option (Prop × O) := addT q6k 78 e78
noncomputable def e64 : List O → Option (Prop × O)
  | [.d x_f] => match qb1 x_f with
    | some f => some (True, .d (.b (decide ((f.fields.length : Int) ≤ 22))))
    | _ => none
  | _ => none
noncomputable def q6m : FuncId → List O → Option (Prop × O) := addT q6l 64 e64
end Go.Ev

namespace Go.Ev
def qni (t : Table) (k : Nat) : Int := if 220 < ((t.records.getD k zRec).bytes.size : Int) then 1 else 0
def qi1 (t : Table) : Prop := 22 < (t.file.format.fields.length : Int) ∨ 6 < (t.file.keys.length : Int) ∨ 62 < (t.records.length : Int)
instance (t : Table) : Decidable (qi1 t) := by unfold qi1; infer_instance
def qhy (l : List Table) (i : Nat) : Int := if qi1 (l.getD i q05) then 1 else match qdc (qni (l.getD i q05)) (l.getD i q05).records.length with
  | some _ => 1
  | none => 0
def qhz (l : List Table) : Bool := if 10 < (l.length : Int) then false else (qdc (qhy l) l.length).isNone
section
variable {l : List Table} {i k : Nat}
theorem qbdu (h : 10 < (l.length : Int)) : qhz l = false := by unfold qhz; rw [if_pos h]
theorem q3o (h10 : (l.length : Int) ≤ 10) (h : ∀ j, j < i → qhy l j = 0) (hi : i < l.length) (hg : ¬qhy l i = 0) : qhz l = false := by
  unfold qhz
  rw [if_neg (by omega), qel h hi hg]; rfl
theorem qbkt (h10 : (l.length : Int) ≤ 10) (h : ∀ j, j < i → qhy l j = 0) (hi : l.length ≤ i) : qhz l = true := by
  unfold qhz
  rw [if_neg (by omega), qd5 fun j hj => h j (by omega)]; rfl
theorem q2m (h : qi1 (l.getD i q05)) : ¬qhy l i = 0 := by unfold qhy; rw [if_pos h]; decide
theorem q6n (h : ∀ j, j < k → qni (l.getD i q05) j = 0) (hk : k < (l.getD i q05).records.length) (hg : 220 < (((l.getD i q05).records.getD k zRec).bytes.size : Int)) : ¬qhy l i = 0 := by
  unfold qhy
  split
  · decide
  · rw [qel h hk (by unfold qni; rw [if_pos hg]; decide)]; exact (by decide : ¬(1 : Int) = 0)
theorem q6o (hh : ¬qi1 (l.getD i q05)) (h : ∀ j, j < k → qni (l.getD i q05) j = 0) (hk : (l.getD i q05).records.length ≤ k) : qhy l i = 0 := by
  unfold qhy
  rw [if_neg hh, qd5 fun j hj => h j (by omega)]
theorem q9g {t : Table} (h : ((t.records.getD k zRec).bytes.size : Int) ≤ 220) : qni t k = 0 := by unfold qni; rw [if_neg (by omega)]
theorem qlq (h : qhz l = true) : okTs l ∧ l.length ≤ 10 := by
  unfold qhz at h
  split at h
  · cases h
  refine ⟨⟨by omega, fun i => ?_⟩, by omega⟩
  by_cases hi : i < l.length
  · have hz : qhy l i = 0 := by
      cases hf : qdc (qhy l) l.length with
      | some j => rw [hf] at h; cases h
      | none =>
        unfold qdc at hf
        rw [List.find?_eq_none] at hf
        have := hf i (by simpa using hi)
        simpa using this
    unfold qhy at hz
    split at hz
    · cases hz
    · rename_i hh
      unfold qi1 at hh
      refine ⟨?_, ?_, ?_⟩ <;> omega
  · have : l.getD i q05 = q05 := by simp [List.getD, List.getElem?_eq_none (Nat.le_of_not_lt hi)]
    rw [this]
    exact ⟨by decide, by decide, by decide⟩
end
end Go.Ev

namespace Go.Ev
open Go.Proofs Ty
set_option maxRecDepth 10000
set_option maxHeartbeats 4000000
set_option linter.unusedSimpArgs false
set_option linter.unusedVariables false
noncomputable def e43 : List O → Option (Prop × O)
  | [.d x_a, .d x_b] => match decL 6 q0x x_a, decL 6 q0x x_b with
    | some a, some b => some (okTs a, .d (.b (decide (a = b))))
    | _, _ => none
  | _ => none
noncomputable def q6p : FuncId → List O → Option (Prop × O) := addT q6m 43 e43
noncomputable def e32 : List O → Option (Prop × O)
  | [.d x_l] => match decL 6 q0x x_l with
    | some l => some (True, .d (.b (qhz l)))
    | _ => none
  | _ => none
noncomputable def q6q : FuncId → List O → Option (Prop × O) := addT q6p 32 e32
noncomputable def e9 : List O → Option (Prop × O)
  | [.d x_ts, .d x_l] => match decL 6 q0x x_ts, decL 8 q0w x_l with
    | some ts, some l => some (True, .d (.b (qhz ts && qlw l)))
    | _, _ => none
  | _ => none
noncomputable def tab9 : FuncId → List O → Option (Prop × O) := addT q6q 9 e9
end Go.Ev

namespace Go.Ev
def qro (l : List Rec) : List Rec := (l.reverse.dropWhile fun r => r.deleted).reverse
def qj6 (t : Table) : Table := ⟨t.file, qro t.records⟩
theorem q3p {α : Type} (p : α → Bool) (z : α) : ∀ {l : List α} {k : Nat}, (∀ j, j < k → p (l.getD j z) = true) → k ≤ l.length → (k = l.length ∨ p (l.getD k z) = false) → l.dropWhile p = l.drop k
  | [], k, _, hi, _ => by simp at hi; subst hi; rfl
  | x :: l, 0, _, _, h => by
    have : p x = false := by rcases h with h | h; cases h; simpa using h
    simp [this]
  | x :: l, k + 1, h, hi, h2 => by
    have hx : p x = true := by simpa using h 0 (by omega)
    have h1 : ∀ j, j < k → p (l.getD j z) = true := fun j hj => by
      have := h (j + 1) (by omega)
      simpa using this
    rw [List.dropWhile_cons, if_pos hx, List.drop_succ_cons, q3p p z h1 (by simpa using hi) (by rcases h2 with h2 | h2; left; simpa using h2; right; simpa using h2)]
theorem qz8 (l : List Rec) {j : Nat} (hj : j < l.length) : l.reverse.getD j zRec = l.getD (l.length - 1 - j) zRec := by
  simp only [List.getD]; rw [List.getElem?_reverse hj]
theorem qbku {l : List Rec} {n : Nat} (hn : n ≤ l.length) (h : ∀ j, n ≤ j → j < l.length → (l.getD j zRec).deleted = true) (h2 : n = 0 ∨ (l.getD (n - 1) zRec).deleted = false) : qro l = l.take n := by
  unfold qro
  rw [q3p (fun r => r.deleted) zRec (k := l.length - n) (fun j hj => by rw [qz8 l (by omega)]; exact h _ (by omega) (by omega)) (by simp) (by
    rcases h2 with h2 | h2
    · left; simp; omega
    · by_cases h0 : n = 0
      · left; simp; omega
      · right; rw [qz8 l (by omega), show l.length - 1 - (l.length - n) = n - 1 by omega]; exact h2)]
  rw [List.drop_reverse, List.reverse_reverse, show l.length - (l.length - n) = n by omega]
def qh0 (l : List Table) (i : Nat) : List Table := (l.take i).map qj6 ++ l.drop i
theorem qk4 (l : List Table) (i : Nat) : (qh0 l i).length = l.length := by simp [qh0]; omega
theorem q2n (l : List Table) {i : Nat} (hi : i < l.length) : (qh0 l i).getD i q05 = l.getD i q05 := by
  simp only [qh0, List.getD]
  rw [List.getElem?_append_right (by simp; omega)]
  simp [Nat.min_eq_left (Nat.le_of_lt hi)]
theorem q6r {l : List Table} {i : Nat} (hi : i < l.length) (z : D) : ((qh0 l i).map q0g).getD i z = q0g (l.getD i q05) := by
  rw [qgc (by rw [qk4]; exact hi), q2n l hi]
theorem q2o {l : List Table} {i : Nat} (hi : i < l.length) : (qh0 l i).set i (qj6 (l.getD i q05)) = qh0 l (i + 1) := by
  have e : l.drop i = l.getD i q05 :: l.drop (i + 1) := by
    rw [List.drop_eq_getElem_cons hi]; simp [List.getD, List.getElem?_eq_getElem hi]
  simp only [qh0]
  rw [e, List.set_append_right _ _ (by simp; omega), qdy q05 hi, List.map_append]
  simp [Nat.min_eq_left (Nat.le_of_lt hi)]
theorem q6s {l : List Table} {i : Nat} (hi : l.length ≤ i) : qh0 l i = l.map qj6 := by simp [qh0, List.take_of_length_le hi, List.drop_eq_nil_of_le hi]
def q9h (a b : List Table) : Bool := qhz a && decide (a.map qj6 = b.map qj6)
theorem q9i (l : List Rec) : (qro l).length ≤ l.length := by
  unfold qro
  rw [List.length_reverse]
  have := (List.dropWhile_suffix (l := l.reverse) fun r => r.deleted).length_le
  simpa using this
theorem q9j {l : List Table} (h : okTs l) : okTs (l.map qj6) := by
  refine ⟨by rw [List.length_map]; exact h.1, fun i => ?_⟩
  have e : (l.map qj6).getD i q05 = qj6 (l.getD i q05) := by
    simp only [List.getD, List.getElem?_map]
    cases l[i]? <;> rfl
  rw [e]
  have hi := h.2 i
  have := q9i (l.getD i q05).records
  exact ⟨hi.1, hi.2.1, by have := hi.2.2; show (qro _).length ≤ _; omega⟩
end Go.Ev

namespace Go.Ev
open Go.Proofs Ty
set_option maxRecDepth 10000
set_option maxHeartbeats 4000000
set_option linter.unusedSimpArgs false
set_option linter.unusedVariables false
noncomputable def e60 : List O → Option (Prop × O)
  | [.d x_l] => match decL 6 q0x x_l with
    | some l => some (okTs l, .d (.sl 6 ((l.map qj6).map q0g)))
    | _ => none
  | _ => none
noncomputable def q6t : FuncId → List O → Option (Prop × O) := addT tab9 60 e60
noncomputable def e27 : List O → Option (Prop × O)
  | [.d x_a, .d x_b] => match decL 6 q0x x_a, decL 6 q0x x_b with
    | some a, some b => some (okTs b, .d (.b (q9h a b)))
    | _, _ => none
  | _ => none
noncomputable def q6u : FuncId → List O → Option (Prop × O) := addT q6t 27 e27
end Go.Ev

namespace Go.Ev
section
variable {ts : List Table} {l : List Entry} {c : Change} {i : Nat}
end
end Go.Ev

namespace Go.Ev
open Go.Proofs Ty
set_option maxRecDepth 10000
set_option maxHeartbeats 4000000
set_option linter.unusedSimpArgs false
set_option linter.unusedVariables false
end Go.Ev

namespace Go.Ev
theorem qz9 {g : Nat → Int} {n : Nat} (h : qdc g n = none) : ∀ j, j < n → g j = 0 := by
  unfold qdc at h
  rw [List.find?_eq_none] at h
  intro j hj
  have := h j (by simpa using hj)
  simpa using this
theorem qh8 : okTs [] := ⟨by simp, fun i => by
  have : ([] : List Table).getD i q05 = q05 := rfl
  rw [this]; exact ⟨by decide, by decide, by decide⟩⟩
theorem qmc {ts : List Table} {cs : List Change} (h : okTs ts) : okTs (qcu ts cs).1 := by
  unfold qcu
  cases hf : qdc (mErr ts cs) cs.length with
  | some k => exact qh8
  | none => exact qt5 h (qz9 hf)
theorem qh1 {ts : List Table} {l : List Entry} {n : Int} (h : okTs ts) : okTs (qf5 ts l n).1 := by
  unfold qf5
  split
  · exact qh8
  split
  · exact qh8
  · exact qmc h
theorem qg8 {ts : List Table} {l : List Entry} {n : Int} (h : okTs ts) : okTs (qfd ts l n).1 := by
  unfold qfd
  split
  · exact qh8
  split
  · exact qh8
  · exact qmc h
theorem q9k (l : List Table) (i : Nat) (n : Int) (r : Rec) : (l.set i (qhl (l.getD i q05) n r)).map (·.file) = l.map (·.file) := by
  rw [List.map_set]
  show (l.map (·.file)).set i (l.getD i q05).file = _
  by_cases h : i < l.length
  · have e : (l.getD i q05).file = (l.map (·.file))[i]'(by simpa using h) := by simp [List.getD, List.getElem?_eq_getElem h]
    rw [e, List.set_getElem_self]
  · rw [List.set_eq_of_length_le (by simpa using h)]
theorem qwy (ts : List Table) (cs : List Change) : ∀ k, (mTo ts cs k).1.map (·.file) = ts.map (·.file)
  | 0 => rfl
  | k + 1 => by
    have ih := qwy ts cs k
    simp only [mTo, qia]
    split
    · exact ih
    · simp only
      rw [q9k]
      exact ih
theorem q2p {a b : List Table} (h : a.map (·.file) = b.map (·.file)) (n : ByteArray) : qcw a n = qcw b n := by
  have hl : a.length = b.length := by have := congrArg List.length h; simpa using this
  have hg : qhq a n = qhq b n := by
    funext i
    unfold qhq
    have e : ∀ l : List Table, (l.getD i q05).file = (l.map (·.file)).getD i qxq := fun l => by
      simp only [List.getD, List.getElem?_map]
      cases l[i]? <;> rfl
    rw [e a, e b, h]
  unfold qcw
  rw [hg, hl]
theorem qbdv (ts : List Table) (cs : List Change) (k : Nat) (n : ByteArray) : qcw (mTo ts cs k).1 n = qcw ts n := q2p (qwy ts cs k) n
end Go.Ev

namespace Go.Ev
open Go.Proofs Ty
set_option maxRecDepth 10000
set_option maxHeartbeats 4000000
set_option linter.unusedSimpArgs false
set_option linter.unusedVariables false
end Go.Ev

namespace Go.Ev
def cond (s : List Table) (c : Change) : Int := if qcw s c.file < 0 then 0 else qc1 (s.getD (qcw s c.file).toNat q05) c
end Go.Ev

namespace Go.Ev
theorem qt6 {e : Entry} (h : qc3 e = 0) (hk : e.kind = 0) : e.change.kind = 0 ∨ e.change.kind = 1 ∨ e.change.kind = 2 := by
  unfold qc3 at h
  split at h
  · cases h
  split at h
  · cases h
  split at h
  · cases h
  split at h
  · cases h
  split at h
  · cases h
  split at h
  · rename_i q; exact absurd hk q.1
  split at h
  · cases h
  split at h
  · rename_i q; omega
  unfold qkn at h
  split at h
  · cases h
  omega
end Go.Ev

namespace Go.Ev
open Go.Proofs Ty
set_option maxRecDepth 10000
set_option maxHeartbeats 4000000
set_option linter.unusedSimpArgs false
set_option linter.unusedVariables false
end Go.Ev

namespace Go.Ev
theorem qbpe {c : Int} (h0 : 0 ≤ c) (h1 : c < 256) : loB c = c % 16 := by
  have key : ∀ k : Fin 256, loB ((k.1 : Nat) : Int) = ((k.1 : Nat) : Int) % 16 := by decide +kernel
  have := key ⟨c.toNat, by omega⟩
  simpa [Int.toNat_of_nonneg h0] using this
theorem q9l (c : Int) : hiB c = c / 16 := by
  unfold hiB
  rw [Int.fdiv_eq_ediv_of_nonneg _ (by decide)]
  rfl
theorem qhg (b : ByteArray) (i : Nat) : 0 ≤ chr b i ∧ chr b i < 256 := by
  have := qyo b i; omega
theorem q9m (b : ByteArray) (i : Nat) : loB (chr b i) = chr b i % 16 := qbpe (qhg b i).1 (qhg b i).2
theorem q00a (b : ByteArray) (i : Nat) : (chr b i).tmod 16 = loB (chr b i) := by
  rw [q9m, Int.tmod_eq_emod_of_nonneg (qhg b i).1]
theorem q00b (b : ByteArray) (i : Nat) : (chr b i).tdiv 16 = hiB (chr b i) := by
  rw [q9l, Int.tdiv_eq_ediv_of_nonneg (qhg b i).1]
theorem qt7 (b : ByteArray) (i : Nat) : 0 ≤ loB (chr b i) ∧ loB (chr b i) ≤ 15 := by rw [q9m]; omega
theorem qt8 (b : ByteArray) (i : Nat) : 0 ≤ hiB (chr b i) ∧ hiB (chr b i) ≤ 15 := by
  have := qhg b i
  rw [q9l]; omega
theorem qqw {t : DType} {b : ByteArray} (h : t.kind = 1) : ∀ {n i : Nat}, i < 2 * n → (qfy t b n).getD i 0 = if i % 2 = 1 then loB (chr b (i / 2)) else hiB (chr b (i / 2))
  | 0, i, hi => by omega
  | n + 1, i, hi => by
    have hl := qfw t b n
    rw [if_pos h] at hl
    rw [qu6 h]
    simp only [List.getD]
    by_cases e : i < 2 * n
    · rw [List.getElem?_append_left (by omega)]
      exact qqw h e
    · rw [List.getElem?_append_right (by omega), hl]
      by_cases e2 : i = 2 * n
      · subst e2
        rw [if_neg (by omega), show 2 * n / 2 = n by omega, Nat.sub_self]; rfl
      · have : i = 2 * n + 1 := by omega
        subst this
        rw [if_pos (by omega), show (2 * n + 1) / 2 = n by omega, show 2 * n + 1 - 2 * n = 1 by omega]; rfl
theorem qqx {t : DType} (h : t.kind = 1) : ∀ {n i : Nat}, i < 2 * n → (qgk t n).getD i 0 = ((i / 2 : Nat) : Int)
  | 0, i, hi => by omega
  | n + 1, i, hi => by
    have hl := qhw t n
    rw [if_pos h] at hl
    rw [qu8 h]
    simp only [List.getD]
    by_cases e : i < 2 * n
    · rw [List.getElem?_append_left (by omega)]
      exact qqx h e
    · rw [List.getElem?_append_right (by omega), hl]
      by_cases e2 : i = 2 * n
      · subst e2
        rw [show 2 * n / 2 = n by omega, Nat.sub_self]; rfl
      · have : i = 2 * n + 1 := by omega
        subst this
        rw [show (2 * n + 1) / 2 = n by omega, show 2 * n + 1 - 2 * n = 1 by omega]; rfl
theorem qt9 {t : DType} {b : ByteArray} (h : ¬t.kind = 1) : ∀ {n i : Nat}, i < n → (qfy t b n).getD i 0 = loB (chr b i)
  | 0, i, hi => by omega
  | n + 1, i, hi => by
    have hl := qfw t b n
    rw [if_neg h] at hl
    rw [qu7 h]
    simp only [List.getD]
    by_cases e : i < n
    · rw [List.getElem?_append_left (by omega)]
      exact qt9 h e
    · have : i = n := by omega
      subst this
      rw [List.getElem?_append_right (by omega), hl, Nat.sub_self]; rfl
theorem qua {t : DType} (h : ¬t.kind = 1) : ∀ {n i : Nat}, i < n → (qgk t n).getD i 0 = (i : Int)
  | 0, i, hi => by omega
  | n + 1, i, hi => by
    have hl := qhw t n
    rw [if_neg h] at hl
    rw [qu9 h]
    simp only [List.getD]
    by_cases e : i < n
    · rw [List.getElem?_append_left (by omega)]
      exact qua h e
    · have : i = n := by omega
      subst this
      rw [List.getElem?_append_right (by omega), hl, Nat.sub_self]; rfl
def qgl (t : DType) (b : ByteArray) (i : Nat) (n : Int) : Int × Int × Int :=
  qg4 t.length (qbq t b).1 (qbq t b).2 ((qbq t b).1.length - 1) (((qbq t b).1.take ((qbq t b).1.length - 1)).drop i) i n
section
variable {t : DType} {b : ByteArray} {i : Nat} {n : Int}
theorem q6v (h : t.kind = 2) : (qbq t b).1.length = b.size + 1 := by have := (qpj t b).1; rw [this, if_neg (by omega), if_pos h]
theorem q9n (h : t.kind = 2) : (qbq t b).1.take ((qbq t b).1.length - 1) = qfy t b b.size := by
  rw [q6v h, qli h, Nat.add_sub_cancel]
  have hl := qfw t b b.size
  rw [if_neg (by omega)] at hl
  rw [List.take_append_of_le_length (by omega), List.take_of_length_le (by omega)]
theorem qbpf (h : t.kind = 2) : (qbq t b).1.getD b.size 0 = hiB (chr b (b.size - 1)) := by
  have hl := qfw t b b.size
  rw [if_neg (by omega)] at hl
  rw [qli h]
  simp only [List.getD]
  rw [List.getElem?_append_right (by omega), hl, Nat.sub_self]; rfl
theorem qbkv (h : t.kind = 2) : (qbq t b).2.getD b.size 0 = (b.size : Int) - 1 := by
  have hl := qhw t b.size
  rw [if_neg (by omega)] at hl
  rw [qli h]
  simp only [List.getD]
  rw [List.getElem?_append_right (by omega), hl, Nat.sub_self]; rfl
theorem z_A (h : t.kind = 2) (hi : i < b.size) : (qbq t b).2.getD i 0 = (i : Int) := by
  have hl := qhw t b.size
  rw [if_neg (by omega)] at hl
  rw [qli h]
  simp only [List.getD]
  rw [List.getElem?_append_left (by omega)]
  exact qua (by omega) hi
theorem z_at (h : t.kind = 2) (hs : (b.size : Int) = t.length) (hi : i < b.size) : qgl t b i n =
    if 9 < loB (chr b i) then (0, (i : Int), 21) else qgl t b (i + 1) (IntKind.i64.wrap (IntKind.i64.wrap (n * 10) + IntKind.i64.wrap (loB (chr b i)))) := by
  have hl := qfw t b b.size
  rw [if_neg (by omega)] at hl
  unfold qgl
  rw [q9n h, qe0 0 (by omega), qg4, qt9 (by omega) hi, q6v h]
  by_cases e : 9 < loB (chr b i)
  · rw [if_pos (.inl e), if_pos e, z_A h hi]
  · rw [if_neg (by omega), if_neg e]
theorem qbgy (h : t.kind = 2) (hi : b.size ≤ i) : qgl t b i n = if hiB (chr b (b.size - 1)) < 10 then (0, (b.size : Int) - 1, 21) else (if hiB (chr b (b.size - 1)) = 11 ∨ hiB (chr b (b.size - 1)) = 13 then IntKind.i64.wrap (0 - n) else n, 0, 0) := by
  have hl := qfw t b b.size
  rw [if_neg (by omega)] at hl
  unfold qgl
  rw [q9n h, List.drop_of_length_le (by omega), qg4, q6v h, show (((b.size + 1 : Nat) : Int) - 1).toNat = b.size by omega, qbpf h, qbkv h]
theorem qxr (h : t.kind = 1) : (qbq t b).1.length = 2 * b.size := by have := (qpj t b).1; rw [this, if_pos h]
theorem p_at (h : t.kind = 1) (hs : (b.size : Int) = t.length / 2 + 1) (h0 : 0 ≤ t.length) (hi : i < 2 * b.size - 1) : qgl t b i n =
    if 9 < (if i % 2 = 1 then loB (chr b (i / 2)) else hiB (chr b (i / 2))) ∨ (i = 0 ∧ t.length % 2 = 0 ∧ hiB (chr b 0) ≠ 0) then (0, ((i / 2 : Nat) : Int), 21)
    else qgl t b (i + 1) (IntKind.i64.wrap (IntKind.i64.wrap (n * 10) + IntKind.i64.wrap (if i % 2 = 1 then loB (chr b (i / 2)) else hiB (chr b (i / 2))))) := by
  have hl := qfw t b b.size
  rw [if_pos h] at hl
  have hh := qt8 b 0
  unfold qgl
  have hn : (qbq t b).1 = qfy t b b.size := by rw [qnf (by omega)]
  have hA : (qbq t b).2.getD i 0 = ((i / 2 : Nat) : Int) := by rw [qnf (by omega)]; exact qqx h (by omega)
  have hT : ((qbq t b).1.take ((qbq t b).1.length - 1)).getD i 0 = if i % 2 = 1 then loB (chr b (i / 2)) else hiB (chr b (i / 2)) := by
    rw [hn]
    simp only [List.getD]
    rw [List.getElem?_take_of_lt (by omega)]
    exact qqw h (by omega)
  rw [qe0 0 (by rw [List.length_take, qxr h]; omega), qg4, hT, hA, qxr h]
  have hc : (0 < (if i % 2 = 1 then loB (chr b (i / 2)) else hiB (chr b (i / 2))) ∧ (i : Int) < ((2 * b.size : Nat) : Int) - 1 - t.length) ↔ (i = 0 ∧ t.length % 2 = 0 ∧ hiB (chr b 0) ≠ 0) := by
    constructor
    · rintro ⟨a, c⟩
      have hi0 : i = 0 := by omega
      subst hi0
      rw [if_neg (by decide)] at a
      refine ⟨rfl, by omega, by simp only [Nat.zero_div] at a; omega⟩
    · rintro ⟨a, c, d⟩
      subst a
      rw [if_neg (by decide)]
      simp only [Nat.zero_div]
      omega
  by_cases e : 9 < (if i % 2 = 1 then loB (chr b (i / 2)) else hiB (chr b (i / 2))) ∨ (i = 0 ∧ t.length % 2 = 0 ∧ hiB (chr b 0) ≠ 0)
  · rw [if_pos e, if_pos (e.imp id hc.2)]
  · rw [if_neg e, if_neg (fun q => e (q.imp id hc.1))]
theorem qbgz (h : t.kind = 1) (h0 : 0 < b.size) (hi : 2 * b.size - 1 ≤ i) : qgl t b i n = if loB (chr b (b.size - 1)) < 10 then (0, (b.size : Int) - 1, 21) else (if loB (chr b (b.size - 1)) = 11 ∨ loB (chr b (b.size - 1)) = 13 then IntKind.i64.wrap (0 - n) else n, 0, 0) := by
  have hl := qfw t b b.size
  rw [if_pos h] at hl
  unfold qgl
  have hn : (qbq t b).1 = qfy t b b.size := by rw [qnf (by omega)]
  have hA : (qbq t b).2.getD (2 * b.size - 1) 0 = (b.size : Int) - 1 := by rw [qnf (by omega), qqx h (by omega)]; omega
  have hL : (qbq t b).1.getD (2 * b.size - 1) 0 = loB (chr b (b.size - 1)) := by
    rw [hn, qqw h (by omega), if_pos (by omega), show (2 * b.size - 1) / 2 = b.size - 1 by omega]
  rw [List.drop_of_length_le (by rw [List.length_take, qxr h]; omega), qg4, qxr h, show (((2 * b.size : Nat) : Int) - 1).toNat = 2 * b.size - 1 by omega, hA, hL]
end
theorem qrp {n c : Int} (hn : -36028797018963968 ≤ n) (hn2 : n < 36028797018963968) (h0 : 0 ≤ c) (h1 : c < 256) : ior .i64 (IntKind.i64.wrap (n * 2 ^ 8)) c = n * 256 + c := by
  rw [show n * 2 ^ 8 = n * 256 from rfl, w64 (by omega) (by omega)]
  unfold ior
  have key : ((BitVec.ofInt IntKind.i64.bits (n * 256) ||| BitVec.ofInt IntKind.i64.bits c).toNat : Int) = (n * 256 + c) % 2 ^ 64 := by
    rw [BitVec.toNat_or, BitVec.toNat_ofInt, BitVec.toNat_ofInt]
    show (((((n * 256) % (2 ^ 64 : Nat)).toNat ||| ((c % (2 ^ 64 : Nat)).toNat)) : Nat) : Int) = _
    have ha : ((n * 256) % ((2 ^ 64 : Nat) : Int)).toNat = 2 ^ 8 * (n % 2 ^ 56).toNat := by
      rw [show ((2 ^ 64 : Nat) : Int) = 18446744073709551616 from rfl, show (2 : Int) ^ 56 = 72057594037927936 from rfl, show (2 : Nat) ^ 8 = 256 from rfl]
      omega
    have hc : (c % ((2 ^ 64 : Nat) : Int)).toNat = c.toNat := by rw [show ((2 ^ 64 : Nat) : Int) = 18446744073709551616 from rfl]; omega
    rw [ha, hc, ← Nat.two_pow_add_eq_or_of_lt (by omega)]
    rw [show (2 : Int) ^ 64 = 18446744073709551616 from rfl, show (2 : Int) ^ 56 = 72057594037927936 from rfl, show (2 : Nat) ^ 8 = 256 from rfl]
    omega
  rw [key]
  rw [show (2 : Int) ^ 64 = 18446744073709551616 from rfl]
  have e : (n * 256 + c) % 18446744073709551616 = n * 256 + c ∨ (n * 256 + c) % 18446744073709551616 = n * 256 + c + 18446744073709551616 := by omega
  unfold IntKind.wrap
  simp only [IntKind.bits, IntKind.signed, Bool.true_and]
  split <;> rename_i h <;> simp only [decide_eq_true_eq, ge_iff_le] at h <;> omega
theorem qbg0 {c : Int} (h0 : 0 ≤ c) (h1 : c < 256) : IntKind.i8.wrap c = if 128 ≤ c then c - 256 else c := by
  unfold IntKind.wrap
  simp only [IntKind.bits, IntKind.signed, Bool.true_and]
  split <;> split <;> rename_i h h2 <;> simp only [decide_eq_true_eq, ge_iff_le] at h <;> omega
def qeu (b : ByteArray) (a : Nat) : Nat → Int
  | 0 => 0
  | i + 1 => IntKind.i64.wrap (IntKind.i64.wrap (qeu b a i * 256) + chr b (a + i))
theorem qpp (b : ByteArray) (a : Nat) : ∀ {i : Nat}, i ≤ 6 → 0 ≤ qeu b a i ∧ qeu b a i < 256 ^ i
  | 0, _ => by simp [qeu]
  | i + 1, h => by
    have ih := qpp b a (i := i) (by omega)
    have hc := qhg b (a + i)
    have h6 : (256 : Int) ^ i ≤ 256 ^ 5 := by
      have := Int.ofNat_le.2 (Nat.pow_le_pow_right (show 256 > 0 by decide) (show i ≤ 5 by omega))
      rw [Int.natCast_pow, Int.natCast_pow] at this
      exact this
    have e5 : (256 : Int) ^ 5 = 1099511627776 := rfl
    have es : (256 : Int) ^ (i + 1) = 256 ^ i * 256 := Int.pow_succ _ _
    rw [e5] at h6
    simp only [qeu]
    rw [w64 (n := qeu b a i * 256) (by omega) (by omega), w64 (by omega) (by omega), es]
    omega
theorem qjv (b : ByteArray) (a : Nat) {i : Nat} (h : i ≤ 5) : qeu b a (i + 1) = qeu b a i * 256 + chr b (a + i) := by
  have ih := qpp b a (i := i) (by omega)
  have hc := qhg b (a + i)
  have h6 : (256 : Int) ^ i ≤ 256 ^ 5 := by
    have := Int.ofNat_le.2 (Nat.pow_le_pow_right (show 256 > 0 by decide) (show i ≤ 5 by omega))
    rw [Int.natCast_pow, Int.natCast_pow] at this
    exact this
  have e5 : (256 : Int) ^ 5 = 1099511627776 := rfl
  rw [e5] at h6
  simp only [qeu]
  rw [w64 (n := qeu b a i * 256) (by omega) (by omega), w64 (by omega) (by omega)]
theorem qbu6 {b : ByteArray} (h : b.size = 2) : binN b = (if 128 ≤ chr b 0 then qeu b 0 2 - 65536 else qeu b 0 2) ∧ -32768 ≤ binN b ∧ binN b ≤ 32767 := by
  have c0 := qhg b 0
  have c1 := qhg b 1
  rw [← qqs b 1 (by omega), qk1 b 0 (by omega)]
  simp only [Nat.reduceAdd]
  have e : qmq b 0 = IntKind.i8.wrap (chr b 0) := rfl
  rw [e, qbg0 c0.1 c0.2, qrp (by split <;> omega) (by split <;> omega) c1.1 c1.2, qjv b 0 (by omega), qjv b 0 (by omega)]
  simp only [qeu, Nat.zero_add, Nat.reduceAdd]
  split <;> omega
theorem qbu7 {b : ByteArray} (h : b.size = 4) : binN b = (if 128 ≤ chr b 0 then qeu b 0 4 - 4294967296 else qeu b 0 4) ∧ -2147483648 ≤ binN b ∧ binN b ≤ 2147483647 := by
  have c0 := qhg b 0
  have c1 := qhg b 1
  have c2 := qhg b 2
  have c3 := qhg b 3
  rw [← qqs b 3 (by omega), qk1 b 2 (by omega), qk1 b 1 (by omega), qk1 b 0 (by omega)]
  simp only [Nat.reduceAdd]
  have e : qmq b 0 = IntKind.i8.wrap (chr b 0) := rfl
  rw [e, qbg0 c0.1 c0.2, qrp (n := if 128 ≤ chr b 0 then chr b 0 - 256 else chr b 0) (by split <;> omega) (by split <;> omega) c1.1 c1.2]
  rw [qrp (n := (if 128 ≤ chr b 0 then chr b 0 - 256 else chr b 0) * 256 + chr b 1) (by split <;> omega) (by split <;> omega) c2.1 c2.2]
  rw [qrp (by split <;> omega) (by split <;> omega) c3.1 c3.2]
  rw [qjv b 0 (by omega), qjv b 0 (by omega), qjv b 0 (by omega), qjv b 0 (by omega)]
  simp only [qeu, Nat.zero_add, Nat.reduceAdd]
  split <;> omega
theorem qvg (b : ByteArray) (i : Nat) : IntKind.i64.wrap (hiB (chr b i)) = hiB (chr b i) := w64 (by have := qt8 b i; omega) (by have := qt8 b i; omega)
theorem qrq (b : ByteArray) (i : Nat) : IntKind.i64.wrap (loB (chr b i)) = loB (chr b i) := w64 (by have := qt7 b i; omega) (by have := qt7 b i; omega)
theorem qst (b : ByteArray) (i : Nat) : IntKind.u8.wrap (loB (chr b i)) = loB (chr b i) := wu8 (by have := qt7 b i; omega) (by have := qt7 b i; omega)
theorem qub (b : ByteArray) (i : Nat) : IntKind.i64.wrap (chr b i) = chr b i := w64 (by have := qhg b i; omega) (by have := qhg b i; omega)
def zT (s : ByteArray) : DType := ⟨2, s.size, 0⟩
def qiu (s : ByteArray) : Val × Int × Int := (⟨(decN (zT s) s).1, ⟨#[]⟩⟩, (decN (zT s) s).2.1, (decN (zT s) s).2.2)
section
variable {s : ByteArray} {i : Nat} {n : Int}
theorem q9o (h : qgl (zT s) s i n = decN (zT s) s) (hi : i < s.size) (h1 : 9 < loB (chr s i) ∨ (i = s.size - 1 ∧ hiB (chr s i) < 10)) : qiu s = (zVal, (i : Int), 21) := by
  have e : decN (zT s) s = (0, (i : Int), 21) := by
    rw [← h, z_at rfl rfl hi]
    by_cases e : 9 < loB (chr s i)
    · rw [if_pos e]
    · have h1 := h1.resolve_left e
      rw [if_neg e, qbgy rfl (by omega), ← h1.1, if_pos h1.2]
      congr 2
      omega
  unfold qiu; rw [e]; rfl
theorem qbkw (h : qgl (zT s) s i n = decN (zT s) s) (hi : i < s.size) (h1 : ¬9 < loB (chr s i)) : qgl (zT s) s (i + 1) (IntKind.i64.wrap (IntKind.i64.wrap (10 * n) + loB (chr s i))) = decN (zT s) s := by
  rw [z_at rfl rfl hi, if_neg h1, qrq, Int.mul_comm] at h
  exact h
theorem q00c (h : qgl (zT s) s i n = decN (zT s) s) (hi : s.size ≤ i) (h1 : ¬hiB (chr s (s.size - 1)) < 10) : qiu s = (⟨if hiB (chr s (s.size - 1)) = 11 ∨ hiB (chr s (s.size - 1)) = 13 then IntKind.i64.wrap (-n) else n, ⟨#[]⟩⟩, 0, 0) := by
  rw [qbgy rfl hi, if_neg h1, Int.zero_sub] at h
  unfold qiu; rw [← h]
end
def qii (t : DType) (s : ByteArray) : Val × Int × Int := (⟨(decN t s).1, ⟨#[]⟩⟩, (decN t s).2.1, (decN t s).2.2)
def qex (s : ByteArray) (i : Nat) : Int := if i % 2 = 1 then loB (chr s (i / 2)) else hiB (chr s (i / 2))
theorem q3q (s : ByteArray) (i : Nat) : 0 ≤ qex s i ∧ qex s i ≤ 15 := by
  unfold qex
  split
  · exact qt7 _ _
  · exact qt8 _ _
section
variable {t : DType} {s : ByteArray} {i : Nat} {n : Int}
theorem q9p (hk : t.kind = 1) (hs : (s.size : Int) = t.length / 2 + 1) (h0 : 0 ≤ t.length) (h : qgl t s i n = decN t s) (hi : i < 2 * s.size) (h1 : (i ≠ 2 * s.size - 1 ∧ 9 < qex s i) ∨ (i = 2 * s.size - 1 ∧ qex s i < 10) ∨ (i = 0 ∧ t.length % 2 = 0 ∧ qex s i ≠ 0)) : qii t s = (zVal, ((i / 2 : Nat) : Int), 21) := by
  have e : decN t s = (0, ((i / 2 : Nat) : Int), 21) := by
    rw [← h]
    by_cases e : i = 2 * s.size - 1
    · have hb : qex s i < 10 := by
        rcases h1 with a | a | a
        · exact absurd e a.1
        · exact a.2
        · omega
      unfold qex at hb
      rw [if_pos (by omega), show i / 2 = s.size - 1 by omega] at hb
      rw [qbgz hk (by omega) (by omega), if_pos hb]
      congr 2
      omega
    · rw [p_at hk hs h0 (by omega), if_pos]
      rcases h1 with a | a | a
      · exact .inl a.2
      · exact absurd a.1 e
      · refine .inr ⟨a.1, a.2.1, ?_⟩
        have := a.2.2
        rw [a.1] at this
        exact this
  unfold qii; rw [e]; rfl
theorem qbkx (hk : t.kind = 1) (hs : (s.size : Int) = t.length / 2 + 1) (h0 : 0 ≤ t.length) (h : qgl t s i n = decN t s) (hi : i < 2 * s.size - 1) (h1 : ¬9 < qex s i) (h2 : ¬(i = 0 ∧ t.length % 2 = 0 ∧ qex s i ≠ 0)) : qgl t s (i + 1) (IntKind.i64.wrap (IntKind.i64.wrap (10 * n) + qex s i)) = decN t s := by
  have hl := q3q s i
  rw [p_at hk hs h0 hi, if_neg] at h
  · rw [Int.mul_comm 10, ← h]
    show _ = qgl t s (i + 1) (IntKind.i64.wrap (IntKind.i64.wrap (n * 10) + IntKind.i64.wrap (qex s i)))
    rw [w64 (n := qex s i) (by omega) (by omega)]
  · rintro (a | a)
    · exact h1 a
    · refine h2 ⟨a.1, a.2.1, ?_⟩
      rw [a.1]; exact a.2.2
theorem qbpg (hk : t.kind = 1) (h : qgl t s i n = decN t s) (hi : i = 2 * s.size - 1) (h0 : 0 < s.size) (h1 : ¬qex s i < 10) : decN t s = (if qex s i = 11 ∨ qex s i = 13 then IntKind.i64.wrap (-n) else n, 0, 0) := by
  have e : qex s i = loB (chr s (s.size - 1)) := by
    unfold qex; rw [if_pos (by omega), show i / 2 = s.size - 1 by omega]
  rw [e] at h1 ⊢
  rw [qbgz hk h0 (by omega), if_neg h1, Int.zero_sub] at h
  exact h.symm
end
section
variable {t : DType} {s : ByteArray} {n : Int}
theorem qbky (h : ¬qbi t = 0) : qdg t s = (zVal, 0, qbi t) := by unfold qdg; rw [if_pos h]
theorem qbph (h0 : qbi t = 0) (h : t.kind = 4) : qdg t s = (zVal, 0, 17) := by unfold qdg; rw [if_neg (fun e => e h0), if_pos h]
theorem qbpi (h0 : qbi t = 0) (h : ¬t.kind = 4) (h2 : ¬(s.size : Int) = qet t) : qdg t s = (zVal, 0, 18) := by unfold qdg; rw [if_neg (fun e => e h0), if_neg h, if_pos h2]
theorem qbpj (h0 : qbi t = 0) (h2 : (s.size : Int) = qet t) (k : t.kind = 0) : qdg t s = (⟨0, s⟩, 0, 0) := by unfold qdg; rw [if_neg (fun e => e h0), if_neg (by omega), if_neg (fun e => e h2), if_pos k]
theorem quc {t t' : DType} (h : t.kind = t'.kind) (b : ByteArray) : ∀ i, qfy t b i = qfy t' b i
  | 0 => rfl
  | i + 1 => by simp only [qfy, quc h b i, h]
theorem qud {t t' : DType} (h : t.kind = t'.kind) : ∀ i, qgk t i = qgk t' i
  | 0 => rfl
  | i + 1 => by simp only [qgk, qud h i, h]
theorem q2q {t t' : DType} (h : t.kind = t'.kind) (b : ByteArray) : qbq t b = qbq t' b := by
  unfold qbq; simp only [quc h, qud h, h]
theorem qbdw (h0 : qbi t = 0) (h2 : (s.size : Int) = qet t) (k : t.kind = 2) : qdg t s = qiu s := by
  have hl : t.length = s.size := by rw [h2]; unfold qet; rw [if_neg (by omega), if_neg (by omega), if_neg (by omega)]
  have e : decN t s = decN (zT s) s := by
    unfold decN
    rw [q2q (t := t) (t' := zT s) k, hl]
    rfl
  unfold qdg qiu
  rw [if_neg (fun e => e h0), if_neg (by omega), if_neg (fun e => e h2), if_neg (by omega), if_neg (by omega), e]
theorem q9q (h0 : qbi t = 0) (h2 : (s.size : Int) = qet t) (k : t.kind = 1) : qdg t s = qii t s := by
  unfold qdg qii
  rw [if_neg (fun e => e h0), if_neg (by omega), if_neg (fun e => e h2), if_neg (by omega), if_neg (by omega)]
theorem que (h0 : qbi t = 0) (h2 : (s.size : Int) = qet t) (k : t.kind = 3) (hn : binN s = n) (h : -(p10 t.length - 1) ≤ n ∧ n ≤ p10 t.length - 1) : qdg t s = (⟨n, ⟨#[]⟩⟩, 0, 0) := by
  have hv : qiq t ⟨binN s, ⟨#[]⟩⟩ = 0 := by
    unfold qiq
    rw [if_neg (fun e => e h0), if_neg (by omega), if_neg (by omega), if_neg (fun e => e rfl), hn, if_neg (fun e => e h)]
  unfold qdg
  rw [if_neg (fun e => e h0), if_neg (by omega), if_neg (fun e => e h2), if_neg (by omega), if_pos k, if_neg (fun e => e hv), hn]
theorem qbkz (h0 : qbi t = 0) (h2 : (s.size : Int) = qet t) (k : t.kind = 3) (hn : binN s = n) (h : ¬(-(p10 t.length - 1) ≤ n ∧ n ≤ p10 t.length - 1)) : qdg t s = (zVal, 0, 19) := by
  have hv : qiq t ⟨binN s, ⟨#[]⟩⟩ = 19 := by
    unfold qiq
    rw [if_neg (fun e => e h0), if_neg (by omega), if_neg (by omega), if_neg (fun e => e rfl), hn, if_pos h]
  unfold qdg
  rw [if_neg (fun e => e h0), if_neg (by omega), if_neg (fun e => e h2), if_neg (by omega), if_pos k, hv, if_pos (by decide)]
end
theorem qbu8 : IntKind.i64.wrap (1 * 2 ^ min (8 * ((2 : Nat) : Int)).toNat 64) = 65536 := by decide +kernel
theorem qbu9 : IntKind.i64.wrap (1 * 2 ^ min (8 * ((4 : Nat) : Int)).toNat 64) = 4294967296 := by decide +kernel
theorem qbg1 (s : ByteArray) : 0 ≤ qeu s 0 2 ∧ qeu s 0 2 < 65536 := qpp s 0 (by decide)
theorem qbg2 (s : ByteArray) : 0 ≤ qeu s 0 4 ∧ qeu s 0 4 < 4294967296 := qpp s 0 (by decide)
theorem qbpk (s : ByteArray) : IntKind.i64.wrap (qeu s 0 2 - 65536) = qeu s 0 2 - 65536 := w64 (by have := qbg1 s; omega) (by have := qbg1 s; omega)
theorem qbpl (s : ByteArray) : IntKind.i64.wrap (qeu s 0 4 - 4294967296) = qeu s 0 4 - 4294967296 := w64 (by have := qbg2 s; omega) (by have := qbg2 s; omega)
theorem qbpm (n : Int) : IntKind.i64.wrap (0 - (p10 n - 1)) = -(p10 n - 1) := by
  have := qtz n
  rw [w64 (by omega) (by omega)]; omega
end Go.Ev

namespace Go.Ev
def idxI (l : List Field) (name : ByteArray) : Int := match idxF l name with
  | some i => i
  | none => -1
section
variable {l : List Field} {name : ByteArray} {i : Nat}
theorem qbdx (h : idxF (l.take i) name = none) (hi : i < l.length) (e : (l.getD i q02).name = name) : idxF l name = some i := by
  unfold idxF at h ⊢
  rw [← List.take_append_drop i l, List.findIdx?_append, h, qe0 q02 hi, List.findIdx?_cons]
  have hl : (l.take i).length = i := by rw [List.length_take]; omega
  have e' : decide ((l.getD i q02).name = name) = true := by simpa using e
  rw [e', hl, if_pos rfl]
  simp
theorem q00d (h : idxF (l.take i) name = none) (hi : i < l.length) (e : (l.getD i q02).name = name) : idxI l name = i := by
  unfold idxI; rw [qbdx h hi e]
theorem qbk0 (h : idxF (l.take i) name = none) (hi : l.length ≤ i) : idxI l name = -1 := by
  rw [List.take_of_length_le hi] at h
  unfold idxI; rw [h]
theorem qbk1 {j : Nat} (h : idxF l name = some j) : j < l.length := by
  unfold idxF at h
  rw [List.findIdx?_eq_some_iff_getElem] at h
  exact h.1
theorem qbg3 (l : List Field) (name : ByteArray) : (atF l name).2.2 = (idxF l name).isSome := by
  unfold atF; split <;> simp_all
theorem q00e (hi : i < l.length) : idxI l (l.getD i q02).name < i ↔ (atF (l.take i) (l.getD i q02).name).2.2 = true := by
  rw [qbg3]
  cases h : idxF (l.take i) (l.getD i q02).name with
  | none => rw [q00d h hi rfl]; simp
  | some j =>
    have hj := qbk1 h
    rw [List.length_take] at hj
    have e : idxF l (l.getD i q02).name = some j := by
      generalize (l.getD i q02).name = nm at h
      unfold idxF at h ⊢
      rw [← List.take_append_drop i l, List.findIdx?_append, h]
      rfl
    unfold idxI
    rw [e]
    simp
    omega
theorem qqy : idxI l name = -1 ↔ (atF l name).2.2 = false := by
  rw [qbg3]
  unfold idxI
  cases h : idxF l name with
  | none => simp
  | some j => simp
theorem q3r (h : qbb (l.getD i q02).name = false) : qeg l i = 7 := by unfold qeg; rw [if_pos h]
theorem q9r (hi : i < l.length) (h : ¬qbb (l.getD i q02).name = false) (h2 : idxI l (l.getD i q02).name < i) : qeg l i = 13 := by
  unfold qeg; rw [if_neg h, if_pos ((q00e hi).1 h2)]
theorem qvh (hi : i < l.length) (h : ¬qbb (l.getD i q02).name = false) (h2 : (i : Int) ≤ idxI l (l.getD i q02).name) : qeg l i = if qbi (l.getD i q02).type_ ≠ 0 then qbi (l.getD i q02).type_ else if (l.getD i q02).type_.kind = 4 then 17 else 0 := by
  have : ¬(atF (l.take i) (l.getD i q02).name).2.2 = true := fun e => by have := (q00e hi).2 e; omega
  unfold qeg; rw [if_neg h, if_neg this]
theorem q3s (hi : i < l.length) (h : ¬qbb (l.getD i q02).name = false) (h2 : (i : Int) ≤ idxI l (l.getD i q02).name) (h3 : ¬qbi (l.getD i q02).type_ = 0) : qeg l i = qbi (l.getD i q02).type_ := by
  rw [qvh hi h h2, if_pos h3]
theorem q9s (hi : i < l.length) (h : ¬qbb (l.getD i q02).name = false) (h2 : (i : Int) ≤ idxI l (l.getD i q02).name) (h3 : qbi (l.getD i q02).type_ = 0) (h4 : (l.getD i q02).type_.kind = 4) : qeg l i = 17 := by
  rw [qvh hi h h2, if_neg (fun e => e h3), if_pos h4]
theorem qbva (hi : i < l.length) (h : ¬qbb (l.getD i q02).name = false) (h2 : (i : Int) ≤ idxI l (l.getD i q02).name) (h3 : qbi (l.getD i q02).type_ = 0) (h4 : ¬(l.getD i q02).type_.kind = 4) : qeg l i = 0 := by
  rw [qvh hi h h2, if_neg (fun e => e h3), if_neg h4]
def qgt (l : List Field) : Int × Int := if l.length = 0 then (0, 1) else if 20 < l.length then (0, 2) else match qdc (qeg l) l.length with
  | some i => (i, qeg l i)
  | none => (0, if 200 < qb8 l l.length then 18 else 0)
theorem qbdy {f : Fmt} (h : qbb f.name = false) : qca f = (0, 7) := by unfold qca; rw [if_pos h]
theorem q6w {f : Fmt} (h : ¬qbb f.name = false) : qca f = qgt f.fields := by unfold qca qgt; rw [if_neg h]; rfl
theorem qbdz (h : (l.length : Int) = 0) : qgt l = (0, 1) := by unfold qgt; rw [if_pos (by omega)]
theorem q9t (h : 20 < (l.length : Int)) : qgt l = (0, 2) := by unfold qgt; rw [if_neg (by omega), if_pos (by omega)]
theorem qmw (h0 : 1 ≤ l.length ∧ l.length ≤ 20) (h : ∀ j, j < i → qeg l j = 0) (hi : i < l.length) (hg : ¬qeg l i = 0) : qgt l = ((i : Int), qeg l i) := by
  unfold qgt; rw [if_neg (by omega), if_neg (by omega), qel h hi hg]
theorem qmx (h0 : 1 ≤ l.length ∧ l.length ≤ 20) (h : ∀ j, j < i → qeg l j = 0) (hi : l.length ≤ i) : qgt l = (0, if 200 < qb8 l l.length then 18 else 0) := by
  unfold qgt; rw [if_neg (by omega), if_neg (by omega), qd5 fun j hj => h j (by omega)]
theorem qbd0 (h : ∀ j, j < i → qeg l j = 0) (hi : l.length ≤ i) : ∀ j, j < l.length → qbi (l.getD j q02).type_ = 0 := fun j hj => (qwi (h j (by omega))).1
theorem qwz {f : Fmt} (h : (qca f).2 = 0) : ∀ j, j < f.fields.length → qbi (f.fields.getD j q02).type_ = 0 := fun j hj => (qwi ((q87 h).2.2.2.1 j hj)).1
theorem q00f (h : ∀ j, j < l.length → qbi (l.getD j q02).type_ = 0) (hi : i < l.length) : qb8 l (i + 1) = qb8 l i + qet (l.getD i q02).type_ := by
  simp only [qb8, qfl, if_pos (h i hi)]
end
section
variable {f : File} {i k : Nat}
def qj7 (f : File) : Int × Int := if 4 < f.keys.length then (0, 2) else match qdc (keyE f) f.keys.length with
  | some i => (i, keyE f i)
  | none => (0, 0)
theorem q9u (h : qbb f.name = false) : qch f = (0, 7) := by unfold qch; rw [if_pos h]
theorem qbd1 (h : ¬qbb f.name = false) (h2 : ¬(qca f.format).2 = 0) : qch f = (0, (qca f.format).2) := by unfold qch; rw [if_neg h, if_pos h2]
theorem q9v (h : ¬qbb f.name = false) (h2 : (qca f.format).2 = 0) : qch f = qj7 f := by unfold qch qj7; rw [if_neg h, if_neg (fun e => e h2)]; rfl
theorem qbpn (h : 4 < (f.keys.length : Int)) : qj7 f = (0, 2) := by unfold qj7; rw [if_pos (by omega)]
theorem q00g (h0 : f.keys.length ≤ 4) (h : ∀ j, j < i → keyE f j = 0) (hi : i < f.keys.length) (hg : ¬keyE f i = 0) : qj7 f = ((i : Int), keyE f i) := by
  unfold qj7; rw [if_neg (by omega), qel h hi hg]
theorem qbd2 (h0 : f.keys.length ≤ 4) (h : ∀ j, j < i → keyE f j = 0) (hi : f.keys.length ≤ i) : qj7 f = (0, 0) := by
  unfold qj7; rw [if_neg (by omega), qd5 fun j hj => h j (by omega)]
theorem q3t (h : idxI f.format.fields (f.keys.getD i qdm).name = -1) : keyE f i = 11 := by unfold keyE; rw [if_pos (qqy.1 h)]
theorem q9w (h : ¬idxI f.format.fields (f.keys.getD i qdm).name = -1) (hk : k < i) (hi : i < f.keys.length) (e : (f.keys.getD k qdm).name = (f.keys.getD i qdm).name) : keyE f i = 13 := by
  have h1 : (f.keys.take i).any (fun k => decide (k.name = (f.keys.getD i qdm).name)) = true := by
    rw [List.any_eq_true]
    refine ⟨f.keys.getD k qdm, ?_, by simpa using e⟩
    have : f.keys.getD k qdm = (f.keys.take i)[k]'(by rw [List.length_take]; omega) := by
      simp [List.getD, List.getElem?_eq_getElem (show k < f.keys.length by omega)]
    rw [this]
    exact List.getElem_mem _
  unfold keyE
  rw [if_neg (fun q => h (qqy.2 q)), if_pos h1]
def qox (f : File) (i k : Nat) : Int := if (f.keys.getD k qdm).name = (f.keys.getD i qdm).name then 1 else 0
theorem qbvb (h : ¬(f.keys.getD k qdm).name = (f.keys.getD i qdm).name) : qox f i k = 0 := by unfold qox; rw [if_neg h]
theorem qbvc (h : ¬idxI f.format.fields (f.keys.getD i qdm).name = -1) (hk : ∀ j, j < k → qox f i j = 0) (hi : i ≤ k) : keyE f i = 0 := by
  have h1 : ¬(f.keys.take i).any (fun k => decide (k.name = (f.keys.getD i qdm).name)) = true := by
    rw [List.any_eq_true]
    rintro ⟨x, hx, e⟩
    obtain ⟨j, hj, rfl⟩ := List.getElem_of_mem hx
    rw [List.length_take] at hj
    have := hk j (by omega)
    unfold qox at this
    have ej : f.keys.getD j qdm = (f.keys.take i)[j]'(by rw [List.length_take]; omega) := by
      simp [List.getD, List.getElem?_eq_getElem (show j < f.keys.length by omega)]
    rw [if_pos (by rw [ej]; simpa using e)] at this
    cases this
  unfold keyE
  rw [if_neg (fun q => h (qqy.2 q)), if_neg h1]
end
theorem qbd3 {f : Fmt} {b : ByteArray} {i : Nat} (h : qbi (f.fields.getD i q02).type_ = 0) : b.extract (qb8 f.fields i).toNat (qb8 f.fields i + qet (f.fields.getD i q02).type_).toNat = qpk f b i := by
  unfold qpk
  simp only [qb8, qfl, if_pos h]
theorem qbd4 {f : Fmt} {b : ByteArray} {i : Nat} (hs : (b.size : Int) = qfc f) (hi : i < f.fields.length) (h : qbi (f.fields.getD i q02).type_ = 0) : 0 ≤ qb8 f.fields i ∧ qb8 f.fields i + qet (f.fields.getD i q02).type_ ≤ (b.size : Int) := by
  have h1 := qrk hs hi
  unfold qfl at h1
  rw [if_pos h] at h1
  exact ⟨(qgh f.fields i).1, h1⟩
theorem qbd5 {f : Fmt} {b : ByteArray} {i : Nat} (h0 : (qca f).2 = 0) (hs : (b.size : Int) = qfc f) (h : ∀ j, j < i → qj5 f b j = 0) (hi : i < f.fields.length) (hg : ¬qj5 f b i = 0) : qdh f b = ([], (i : Int), qj5 f b i) := by
  rw [qrl h0 hs, qvb h hi hg]
theorem qbd6 {f : Fmt} {b : ByteArray} {i : Nat} (h0 : (qca f).2 = 0) (hs : (b.size : Int) = qfc f) (h : ∀ j, j < i → qj5 f b j = 0) (hi : f.fields.length ≤ i) : qdh f b = (qj3 f b f.fields.length, 0, 0) := by
  rw [qrl h0 hs, qvc h hi]
theorem qbd7 {t : Table} (h : ¬(qch t.file).2 = 0) : q09 t = (0, (qch t.file).2) := by unfold q09; rw [if_pos h]
theorem qbpo {t : Table} (h : (qch t.file).2 = 0) (h2 : 60 < (t.records.length : Int)) : q09 t = (0, 2) := by unfold q09; rw [if_neg (fun e => e h), if_pos (by omega)]
def qfx (t : Table) (n : Int) : Bool := decide (1 ≤ n) && decide (n ≤ (t.records.length : Int)) && !(t.records.getD (n - 1).toNat zRec).deleted
theorem qjm (t : Table) (c : Change) : qc1 t c =
    if ¬(q09 t).2 = 0 then (q09 t).2 else if ¬c.file = t.file.name then 11 else if ¬(0 ≤ c.kind ∧ c.kind ≤ 2) then 4
    else if ¬(1 ≤ c.rrn ∧ c.rrn ≤ (t.records.length : Int) + if c.kind = 0 then 1 else 0) then 3
    else if (c.kind = 0 ∧ ¬c.before = ⟨#[]⟩) ∨ (c.kind = 2 ∧ ¬c.after = ⟨#[]⟩) then 5
    else if c.kind = 0 ∧ qfx t c.rrn = true then 12 else if c.kind = 0 ∧ 60 < c.rrn then 30
    else if ¬c.kind = 0 ∧ qfx t c.rrn = false then 11
    else if ¬c.kind = 0 ∧ ¬(t.records.getD (c.rrn - 1).toNat zRec).bytes = c.before then 15
    else if c.kind = 2 then 0 else (qdh t.file.format c.after).2.2 := by
  have hff : qhp c = false ↔ ¬((c.kind = 0 ∧ ¬c.before = ⟨#[]⟩) ∨ (c.kind = 2 ∧ ¬c.after = ⟨#[]⟩)) := by
    simp only [qhp, Bool.or_eq_false_iff, Bool.and_eq_false_iff]
    simp
    grind
  have h0 : qg0 t c = if ¬(q09 t).2 = 0 then (q09 t).2 else if ¬c.file = t.file.name then 11 else if ¬(0 ≤ c.kind ∧ c.kind ≤ 2) then 4
    else if ¬(1 ≤ c.rrn ∧ c.rrn ≤ (t.records.length : Int) + if c.kind = 0 then 1 else 0) then 3
    else if (c.kind = 0 ∧ ¬c.before = ⟨#[]⟩) ∨ (c.kind = 2 ∧ ¬c.after = ⟨#[]⟩) then 5 else 0 := by
    unfold qg0 qor
    by_cases a : (q09 t).2 = 0
    · by_cases b : c.file = t.file.name
      · by_cases d : 0 ≤ c.kind ∧ c.kind ≤ 2
        · have d1 : ¬(c.kind < 0 ∨ 3 ≤ c.kind) := by omega
          have e1 : (c.rrn < 1 ∨ (if c.kind = 0 then (t.records.length : Int) + 1 else (t.records.length : Int)) < c.rrn) ↔ ¬(1 ≤ c.rrn ∧ c.rrn ≤ (t.records.length : Int) + if c.kind = 0 then 1 else 0) := by
            split <;> omega
          simp only [ne_eq, a, b, d, d1, e1, true_and, not_true, if_false]
          by_cases g : (c.kind = 0 ∧ ¬c.before = ⟨#[]⟩) ∨ (c.kind = 2 ∧ ¬c.after = ⟨#[]⟩)
          · have g1 : qhp c = true := by cases q : qhp c with | true => rfl | false => exact absurd g (hff.1 q)
            simp only [g, g1, if_true]
          · have g1 : qhp c = false := hff.2 g
            simp only [g, g1, if_false, Bool.false_eq_true]
        · have d1 : c.kind < 0 ∨ 3 ≤ c.kind := by omega
          simp only [ne_eq, a, b, d, d1, not_true, not_false_iff, if_false, if_true]
      · simp only [ne_eq, a, b, not_true, not_false_iff, if_false, if_true]
    · simp only [ne_eq, a, not_false_iff, if_true]
  by_cases a : (q09 t).2 = 0
  · rw [if_neg (fun e => e a)] at h0 ⊢
    by_cases b : c.file = t.file.name
    · rw [if_neg (fun e => e b)] at h0 ⊢
      by_cases d : 0 ≤ c.kind ∧ c.kind ≤ 2
      · rw [if_neg (fun e => e d)] at h0 ⊢
        by_cases e : 1 ≤ c.rrn ∧ c.rrn ≤ (t.records.length : Int) + if c.kind = 0 then 1 else 0
        · rw [if_neg (fun q => q e)] at h0 ⊢
          by_cases g : (c.kind = 0 ∧ ¬c.before = ⟨#[]⟩) ∨ (c.kind = 2 ∧ ¬c.after = ⟨#[]⟩)
          · rw [if_pos g] at h0 ⊢
            rw [qi0 (by rw [h0]; decide), h0]
          · rw [if_neg g] at h0 ⊢
            have hth : qfx t c.rrn = !qng t c := by
              unfold qfx qng qt4
              by_cases q : c.rrn = (t.records.length : Int) + 1
              · have q2 : ¬c.rrn ≤ (t.records.length : Int) := by omega
                rw [show decide (c.rrn ≤ (t.records.length : Int)) = false by simpa using q2, show decide (c.rrn = (t.records.length : Int) + 1) = true by simpa using q]
                simp
              · have q2 : c.rrn ≤ (t.records.length : Int) := by split at e <;> omega
                rw [show decide (c.rrn ≤ (t.records.length : Int)) = true by simpa using q2, show decide (c.rrn = (t.records.length : Int) + 1) = false by simpa using q, show decide (1 ≤ c.rrn) = true by simpa using e.1]
                simp
            unfold qc1 qir qt4
            rw [hth, if_neg (fun q => q h0)]
            by_cases k : c.kind = 0
            · have k2 : ¬c.kind = 2 := by omega
              cases hg : qng t c
              · simp [k, qbu]
              · by_cases q : 60 < c.rrn
                · simp [k, qbu, q]
                · simp [k, qbu, q]
            · cases hg : qng t c
              · by_cases q : (t.records.getD (c.rrn - 1).toNat zRec).bytes = c.before
                · simp only [k, q, if_false, false_and, Bool.not_false, not_true, and_false, true_and, Bool.false_eq_true, ne_eq, false_or, Bool.true_eq_false]
                · simp only [k, q, if_false, false_and, Bool.not_false, not_true, and_false, true_and, Bool.false_eq_true, ne_eq, false_or, Bool.true_eq_false, not_false_iff, if_true]
                  simp
              · simp [k]
        · rw [if_pos e] at h0 ⊢
          rw [qi0 (by rw [h0]; decide), h0]
      · rw [if_pos d] at h0 ⊢
        rw [qi0 (by rw [h0]; decide), h0]
    · rw [if_pos b] at h0 ⊢
      rw [qi0 (by rw [h0]; decide), h0]
  · rw [if_pos a] at h0 ⊢
    rw [qi0 (by rw [h0]; exact a), h0]
def revC (c : Change) : Change := ⟨c.file, qll c.kind, c.rrn, c.after, c.before⟩
theorem q3u {c : Change} (h : c.kind = 0 ∨ c.kind = 1 ∨ c.kind = 2) : (qg7 c).1 = revC c := by
  unfold qg7 revC
  rw [if_pos (by omega)]
def qj8 (l : List Table) : Int × Int := if 8 < l.length then (0, 2) else match qdc (tabE l) l.length with
  | some i => (i, tabE l i)
  | none => (0, 0)
theorem qbpp (l : List Table) : (qj8 l).2 = qes l := by
  unfold qj8 qes
  split
  · rfl
  · cases qdc (tabE l) l.length <;> rfl
section
variable {l : List Table} {i : Nat}
theorem qbk2 (h : 8 < (l.length : Int)) : qj8 l = (0, 2) := by unfold qj8; rw [if_pos (by omega)]
theorem q9x (h8 : l.length ≤ 8) (h : ∀ j, j < i → tabE l j = 0) (hi : i < l.length) (hg : ¬tabE l i = 0) : qj8 l = ((i : Int), tabE l i) := by
  unfold qj8
  rw [if_neg (by omega), qel h hi hg]
theorem qbpq (h8 : l.length ≤ 8) (h : ∀ j, j < i → tabE l j = 0) (hi : l.length ≤ i) : qj8 l = (0, 0) := by
  unfold qj8
  rw [if_neg (by omega), qd5 fun j hj => h j (by omega)]
end
end Go.Ev

namespace Go.Ev
open Go.Proofs Ty
set_option maxRecDepth 10000
set_option maxHeartbeats 4000000
set_option linter.unusedSimpArgs false
set_option linter.unusedVariables false
noncomputable def e179 : List O → Option (Prop × O)
  | [.d x_t] => match qbg x_t with
    | some t => some (qbi t = 0, .d (.i .i64 (qet t)))
    | _ => none
  | _ => none
noncomputable def q00h : FuncId → List O → Option (Prop × O) := addT q6u 179 e179
noncomputable def e180 : List O → Option (Prop × O)
  | [.d (.s s), .d (.i .i64 a), .d (.i .i64 n)] => some (0 ≤ a ∧ 0 ≤ n ∧ a + n ≤ s.size ∧ s.size ≤ 1000, .d (.i .i64 (qeu s a.toNat n.toNat)))
  | _ => none
noncomputable def q00i : FuncId → List O → Option (Prop × O) := addT q00h 180 e180
noncomputable def e195 : List O → Option (Prop × O)
  | [.d (.i .i64 n)] => some (0 ≤ n ∧ n ≤ 18, .d (.i .i64 (p10 n)))
  | _ => none
noncomputable def q00j : FuncId → List O → Option (Prop × O) := addT q00i 195 e195
noncomputable def e194 : List O → Option (Prop × O)
  | [.d (.i .i64 k)] => some (True, .d (.b (decide (1 ≤ k) && decide (k ≤ 3))))
  | _ => none
noncomputable def q00k : FuncId → List O → Option (Prop × O) := addT q00j 194 e194
noncomputable def e196 : List O → Option (Prop × O)
  | [.d (.i .i64 n), .d (.i .i64 h)] => some (True, .tup [.d (.i .i64 (if h = 11 ∨ h = 13 then IntKind.i64.wrap (-n) else n)), .d (.b (decide (10 ≤ h)))])
  | _ => none
noncomputable def q00l : FuncId → List O → Option (Prop × O) := addT q00k 196 e196
noncomputable def e178 : List O → Option (Prop × O)
  | [.d x_t] => match qbg x_t with
    | some t => some (True, .d (.i .i64 (qbi t)))
    | _ => none
  | _ => none
noncomputable def q00m : FuncId → List O → Option (Prop × O) := addT q00l 178 e178
noncomputable def e181 : List O → Option (Prop × O)
  | [.d x_t] => match qbg x_t with
    | some t => some (0 ≤ t.length ∧ t.length ≤ 18, .d (.i .i64 (p10 t.length - 1)))
    | _ => none
  | _ => none
noncomputable def q00n : FuncId → List O → Option (Prop × O) := addT q00m 181 e181
noncomputable def e182 : List O → Option (Prop × O)
  | [.d (.s s)] => some (0 < s.size ∧ s.size ≤ 1000, .tup [.d (qb6 (qiu s).1), .d (.i .i64 (qiu s).2.1), .d (.i .i64 (qiu s).2.2)])
  | _ => none
noncomputable def q00o : FuncId → List O → Option (Prop × O) := addT q00n 182 e182
noncomputable def e183 : List O → Option (Prop × O)
  | [.d x_t, .d (.s s)] => match qbg x_t with
    | some t => some (t.kind = 1 ∧ (s.size : Int) = t.length / 2 + 1 ∧ 0 ≤ t.length ∧ t.length ≤ 100, .tup [.d (qb6 (qii t s).1), .d (.i .i64 (qii t s).2.1), .d (.i .i64 (qii t s).2.2)])
    | _ => none
  | _ => none
noncomputable def q00p : FuncId → List O → Option (Prop × O) := addT q00o 183 e183
noncomputable def e169 : List O → Option (Prop × O)
  | [.d x_t, .d (.s s)] => match qbg x_t with
    | some t => some (True, .tup [.d (qb6 (qdg t s).1), .d (.i .i64 (qdg t s).2.1), .d (.i .i64 (qdg t s).2.2)])
    | _ => none
  | _ => none
noncomputable def q00q : FuncId → List O → Option (Prop × O) := addT q00p 169 e169
noncomputable def e193 : List O → Option (Prop × O)
  | [.d x_f, .d (.s name)] => match qb1 x_f with
    | some f => some (f.fields.length ≤ 1000000, .d (.i .i64 (idxI f.fields name)))
    | _ => none
  | _ => none
noncomputable def q00r : FuncId → List O → Option (Prop × O) := addT q00q 193 e193
noncomputable def e177 : List O → Option (Prop × O)
  | [.d x_f] => match qb1 x_f with
    | some f => some (f.fields.length ≤ 1000000 ∧ (∀ j, j < f.fields.length → qbi (f.fields.getD j q02).type_ = 0), .d (.i .i64 (qfc f)))
    | _ => none
  | _ => none
noncomputable def q00s : FuncId → List O → Option (Prop × O) := addT q00r 177 e177
noncomputable def e192 : List O → Option (Prop × O)
  | [.d x_f] => match qb1 x_f with
    | some f => some (f.fields.length ≤ 1000000, .tup [.d (.i .i64 (qgt f.fields).1), .d (.i .i64 (qgt f.fields).2)])
    | _ => none
  | _ => none
noncomputable def q00t : FuncId → List O → Option (Prop × O) := addT q00s 192 e192
noncomputable def e175 : List O → Option (Prop × O)
  | [.d x_f] => match qb1 x_f with
    | some f => some (f.fields.length ≤ 1000000, .tup [.d (.i .i64 (qca f).1), .d (.i .i64 (qca f).2)])
    | _ => none
  | _ => none
noncomputable def q00u : FuncId → List O → Option (Prop × O) := addT q00t 175 e175
noncomputable def e176 : List O → Option (Prop × O)
  | [.d x_f] => match qcd x_f with
    | some f => some (f.format.fields.length ≤ 1000000 ∧ f.keys.length ≤ 1000000, .tup [.d (.i .i64 (qj7 f).1), .d (.i .i64 (qj7 f).2)])
    | _ => none
  | _ => none
noncomputable def q00v : FuncId → List O → Option (Prop × O) := addT q00u 176 e176
noncomputable def e166 : List O → Option (Prop × O)
  | [.d x_f] => match qcd x_f with
    | some f => some (f.format.fields.length ≤ 1000000 ∧ f.keys.length ≤ 1000000, .tup [.d (.i .i64 (qch f).1), .d (.i .i64 (qch f).2)])
    | _ => none
  | _ => none
noncomputable def q00w : FuncId → List O → Option (Prop × O) := addT q00v 166 e166
noncomputable def e156 : List O → Option (Prop × O)
  | [.d x_f] => match qcd x_f with
    | some f => some (f.format.fields.length ≤ 1000000 ∧ f.keys.length ≤ 1000000, .d (.i .i64 (qch f).2))
    | _ => none
  | _ => none
noncomputable def q00x : FuncId → List O → Option (Prop × O) := addT q00w 156 e156
noncomputable def e138 : List O → Option (Prop × O)
  | [.d x_f] => match qcd x_f with
    | some f => some (f.format.fields.length ≤ 1000000 ∧ f.keys.length ≤ 1000000, .d (.i .i64 (qch f).2))
    | _ => none
  | _ => none
noncomputable def q00y : FuncId → List O → Option (Prop × O) := addT q00x 138 e138
noncomputable def e167 : List O → Option (Prop × O)
  | [.d x_f] => match qb1 x_f with
    | some f => some (f.fields.length ≤ 1000000, .d (.i .i64 (qca f).2))
    | _ => none
  | _ => none
noncomputable def q00z : FuncId → List O → Option (Prop × O) := addT q00y 167 e167
noncomputable def e168 : List O → Option (Prop × O)
  | [.d x_f] => match qb1 x_f with
    | some f => some (f.fields.length ≤ 1000000 ∧ (∀ j, j < f.fields.length → qbi (f.fields.getD j q02).type_ = 0), .d (.i .i64 (qfc f)))
    | _ => none
  | _ => none
noncomputable def q000 : FuncId → List O → Option (Prop × O) := addT q00z 168 e168
noncomputable def e184 : List O → Option (Prop × O)
  | [.d x_f, .d (.i .i64 a)] => match qb1 x_f with
    | some f => some (f.fields.length ≤ 1000000 ∧ (∀ j, j < f.fields.length → qbi (f.fields.getD j q02).type_ = 0) ∧ 0 ≤ a ∧ a ≤ (f.fields.length : Int), .d (.i .i64 (qb8 f.fields a.toNat)))
    | _ => none
  | _ => none
noncomputable def q001 : FuncId → List O → Option (Prop × O) := addT q000 184 e184
noncomputable def e170 : List O → Option (Prop × O)
  | [.d x_f, .d (.s s), .d (.i .i64 a)] => match qb1 x_f with
    | some f => some (f.fields.length ≤ 1000000 ∧ (∀ j, j < f.fields.length → qbi (f.fields.getD j q02).type_ = 0) ∧ 0 ≤ a ∧ a < (f.fields.length : Int) ∧ (s.size : Int) = qfc f, .d (.s (qpk f s a.toNat)))
    | _ => none
  | _ => none
noncomputable def q002 : FuncId → List O → Option (Prop × O) := addT q001 170 e170
noncomputable def e157 : List O → Option (Prop × O)
  | [.d x_f, .d (.s s)] => match qb1 x_f with
    | some f => some (f.fields.length ≤ 1000000, .tup [.d (.i .i64 (qdh f s).2.1), .d (.i .i64 (qdh f s).2.2)])
    | _ => none
  | _ => none
noncomputable def q003 : FuncId → List O → Option (Prop × O) := addT q002 157 e157
noncomputable def e139 : List O → Option (Prop × O)
  | [.d x_f, .d (.s s)] => match qb1 x_f with
    | some f => some (f.fields.length ≤ 1000000, .d (.i .i64 (qdh f s).2.2))
    | _ => none
  | _ => none
noncomputable def q004 : FuncId → List O → Option (Prop × O) := addT q003 139 e139
noncomputable def e123 : List O → Option (Prop × O)
  | [.d x_t] => match q0x x_t with
    | some t => some ((t.file.format.fields.length ≤ 1000000 ∧ t.file.keys.length ≤ 1000000 ∧ t.records.length ≤ 1000000), .tup [.d (.i .i64 (q09 t).1), .d (.i .i64 (q09 t).2)])
    | _ => none
  | _ => none
noncomputable def q005 : FuncId → List O → Option (Prop × O) := addT q004 123 e123
noncomputable def e96 : List O → Option (Prop × O)
  | [.d x_t] => match q0x x_t with
    | some t => some ((t.file.format.fields.length ≤ 1000000 ∧ t.file.keys.length ≤ 1000000 ∧ t.records.length ≤ 1000000), .d (.i .i64 (q09 t).2))
    | _ => none
  | _ => none
noncomputable def q6x : FuncId → List O → Option (Prop × O) := addT q005 96 e96
end Go.Ev

namespace Go.Ev
def qjw (l : List D) (n : Int) (u : D) (e : Int) : Option Ans := match decM q0x l, decL 1 (decI .i64) u with
  | some a, some b => some ⟨a, n, b, e⟩
  | _, _ => none
theorem q6y {T t : TypeId} {l : List D} {n : Int} {u : D} {e : Int} {x : Ans} (h : qjw l n u e = some x) : ole (.bx T [.own t 6 l, .d (.i .i64 n), .d u, .d (.i .i64 e)]) (.bx T [.own t 6 (x.tables.map q0g), .d (.i .i64 x.n), .d (.sl 1 (x.units.map (D.i .i64))), .d (.i .i64 x.err)]) := by
  unfold qjw at h
  split at h
  · rename_i h1 h2
    cases h
    exact ⟨rfl, ⟨rfl, rfl, qu1 q00 h1⟩, q01 _, q0y qho h2, q01 _, trivial⟩
  · cases h
theorem qk5 (x : Ans) : qjw (x.tables.map q0g) x.n (.sl 1 (x.units.map (D.i .i64))) x.err = some x := by
  unfold qjw
  rw [qcg, qd4]
theorem qjn (l : List Table) (n e : Int) : qjw (l.map q0g) n .nil e = some ⟨l, n, [], e⟩ := by
  unfold qjw
  rw [qcg]; rfl
theorem qjo (l : List Table) (n e : Int) : qjw (l.map q0g) n (.sl 1 []) e = some ⟨l, n, [], e⟩ := by
  unfold qjw
  rw [qcg]; rfl
def qxs (s : List Table) (c : Change) : List Table := (qia (s, 0) c).1
def doT (s : List Table) (c : Change) : List Table := if cond s c = 0 then qxs s c else s
theorem q9y (s : List Table) (n m : Int) (c : Change) : (qia (s, n) c).1 = (qia (s, m) c).1 := by
  unfold qia
  split <;> rfl
section
variable {s ts : List Table} {c : Change} {cs : List Change} {k : Nat}
theorem q3v (h : qcw s c.file = -1) : cond s c = 0 ∧ doT s c = s := by
  have e : cond s c = 0 := by unfold cond; rw [if_pos (by omega)]
  refine ⟨e, ?_⟩
  unfold doT qxs qia
  rw [if_pos e, if_pos (by simp only; omega)]
theorem q9z (h : ¬qcw s c.file = -1) (h2 : ¬qc1 (s.getD (qcw s c.file).toNat q05) c = 0) : cond s c = qc1 (s.getD (qcw s c.file).toNat q05) c ∧ doT s c = s := by
  have := qlo s c.file
  have e : cond s c = qc1 (s.getD (qcw s c.file).toNat q05) c := by unfold cond; rw [if_neg (by omega)]
  refine ⟨e, ?_⟩
  unfold doT
  rw [if_neg (by rw [e]; exact h2)]
theorem q90 (h : ¬qcw s c.file = -1) (h2 : qc1 (s.getD (qcw s c.file).toNat q05) c = 0) : cond s c = 0 ∧ doT s c = s.set (qcw s c.file).toNat (qhl (s.getD (qcw s c.file).toNat q05) c.rrn (qn1 c)) := by
  have := qlo s c.file
  have e : cond s c = 0 := by unfold cond; rw [if_neg (by omega)]; exact h2
  refine ⟨e, ?_⟩
  unfold doT qxs qia
  rw [if_pos e, if_neg (by simp only; omega)]
theorem qqz : mErr ts cs k = cond (mTo ts cs k).1 (cs.getD k qba) := rfl
theorem qbk3 (h : mErr ts cs k = 0) : doT (mTo ts cs k).1 (cs.getD k qba) = (mTo ts cs (k + 1)).1 := by
  unfold doT qxs
  rw [if_pos (by rw [← qqz]; exact h)]
  show _ = (qia (mTo ts cs k) (cs.getD k qba)).1
  exact q9y _ _ _ _
theorem qbd8 : (mTo ts cs (k + 1)).2 = (mTo ts cs k).2 + if qcw ts (cs.getD k qba).file = -1 then 0 else 1 := by
  have hl := qlo ts (cs.getD k qba).file
  show (qia (mTo ts cs k) (cs.getD k qba)).2 = _
  unfold qia
  rw [qbdv]
  by_cases h : qcw ts (cs.getD k qba).file = -1
  · rw [if_pos (by omega), if_pos h]; omega
  · rw [if_neg (by omega), if_neg h]
end
def qe6 (r : List Table × Int × Int) : Ans := ⟨r.1, r.2.1, [], r.2.2⟩
theorem qbk4 {ts : List Table} {cs : List Change} {k : Nat} (h : ∀ j, j < k → mErr ts cs j = 0) (hk : k < cs.length) (hg : ¬cond (mTo ts cs k).1 (cs.getD k qba) = 0) : qe6 (qcu ts cs) = ⟨[], 0, [], cond (mTo ts cs k).1 (cs.getD k qba)⟩ := by
  rw [qpo h hk hg]; rfl
theorem qbk5 {ts : List Table} {cs : List Change} {k : Nat} (h : ∀ j, j < k → mErr ts cs j = 0) (hk : k = cs.length) : qe6 (qcu ts cs) = ⟨(mTo ts cs k).1, (mTo ts cs k).2, [], 0⟩ := by
  rw [qsr h hk]; rfl
def qh2 (w : Want) (l : List Entry) (j : Nat) : List Change := ((l.drop j).filter (qg1 w)).reverse.map fun x => revC x.change
theorem q006 {w : Want} {l : List Entry} {j : Nat} (hj : j < l.length) (h : qg1 w (l.getD j q0q) = true) : qh2 w l j = qh2 w l (j + 1) ++ [revC (l.getD j q0q).change] := by
  unfold qh2
  rw [qe0 q0q hj, List.filter_cons, if_pos h, List.reverse_cons, List.map_append]
  rfl
theorem qbk6 {w : Want} {l : List Entry} {j : Nat} (hj : j < l.length) (h : ¬qg1 w (l.getD j q0q) = true) : qh2 w l j = qh2 w l (j + 1) := by
  unfold qh2
  rw [qe0 q0q hj, List.filter_cons, if_neg h]
theorem q6z {w : Want} {l : List Entry} {j : Nat} (hj : l.length ≤ j) : qh2 w l j = [] := by
  unfold qh2; rw [List.drop_of_length_le hj]; rfl
theorem qbd9 (w : Want) (l : List Entry) (j : Nat) : (qh2 w l j).length ≤ l.length := by
  unfold qh2
  rw [List.length_map, List.length_reverse]
  have := List.length_filter_le (qg1 w) (l.drop j)
  rw [List.length_drop] at this
  omega
theorem qbea {w : Want} {l : List Entry} (h : (qbc l).2 = 0) : qh2 w l 0 = qff w true l := by
  show _ = ((l.filter (qg1 w)).map (qn2 true)).reverse
  unfold qh2
  rw [List.drop_zero, List.map_reverse]
  congr 1
  apply List.map_congr_left
  intro x hx
  obtain ⟨h1, h2⟩ := List.mem_filter.1 hx
  obtain ⟨j, hj, rfl⟩ := List.getElem_of_mem h1
  have hc := (qji h hj).1
  simp only [List.getD, List.getElem?_eq_getElem hj, Option.getD_some] at hc
  have hk : (l[j]).kind = 0 := by
    unfold qg1 at h2
    simp only [Bool.and_eq_true, decide_eq_true_eq] at h2
    exact h2.1
  exact (q3u (qt6 hc hk)).symm
def qf6 (l : List Entry) : Int := if l.length = 0 then 1 else (l.getD 0 q0q).number
def qf7 (l : List Entry) : Int := if l.length = 0 then 9999 else (l.getD (l.length - 1) q0q).number
section
variable {ts : List Table} {l : List Entry} {n : Int}
theorem q007 (l : List Entry) : qk2 l = qf6 l - 1 ∧ qms l = qf7 l := by
  unfold qk2 qms qf6 qf7
  by_cases h : l.length = 0
  · have : ¬0 < l.length := by omega
    simp [h]
  · have : 0 < l.length := by omega
    simp [h, this]
theorem q008 (l : List Entry) : qk3 l = qf6 l ∧ qmt l = qf7 l + 1 := by
  unfold qk3 qmt qf6 qf7
  by_cases h : l.length = 0
  · have : ¬0 < l.length := by omega
    simp [h]
  · have : 0 < l.length := by omega
    simp [h, this]
theorem qn5 (h : (qbc l).2 = 0) : 1 ≤ qf6 l ∧ qf6 l ≤ 9999 ∧ 1 ≤ qf7 l ∧ qf7 l ≤ 9999 := by
  unfold qf6 qf7
  by_cases e : l.length = 0
  · simp [e]
  · rw [if_neg e, if_neg e]
    have a := qkr h (j := 0) (by omega)
    have b := qkr h (j := l.length - 1) (by omega)
    omega
theorem qbk7 (h : ¬chkE ts l = 0) : qe6 (qf5 ts l n) = ⟨[], 0, [], chkE ts l⟩ := by rw [qn3 h]; rfl
theorem qbk8 (h : chkE ts l = 0) (h2 : n < qf6 l - 1 ∨ qf7 l < n) : qe6 (qf5 ts l n) = ⟨[], 0, [], 3⟩ := by
  rw [qn4 h (by have := q007 l; omega)]; rfl
theorem qbpr (h : chkE ts l = 0) (h2 : qf6 l - 1 ≤ n ∧ n ≤ qf7 l) : qe6 (qf5 ts l n) = qe6 (qcu ts (qff ⟨true, n⟩ false l)) := by
  rw [qss h (by have := q007 l; omega)]
theorem qbk9 (h : ¬chkE ts l = 0) : qe6 (qfd ts l n) = ⟨[], 0, [], chkE ts l⟩ := by rw [qmu h]; rfl
theorem qbla (h : chkE ts l = 0) (h2 : n < qf6 l ∨ qf7 l + 1 < n) : qe6 (qfd ts l n) = ⟨[], 0, [], 3⟩ := by
  rw [qmv h (by have := q008 l; omega)]; rfl
theorem qbps (h : chkE ts l = 0) (h2 : qf6 l ≤ n ∧ n ≤ qf7 l + 1) : qe6 (qfd ts l n) = qe6 (qcu ts (qff ⟨false, n⟩ true l)) := by
  rw [qqu h (by have := q008 l; omega)]
end
section
variable {t : Table} {c : Change}
theorem rc_0  (h : ¬(q09 t).2 = 0) : qc1 t c = (q09 t).2 := by rw [qjm, if_pos h]
theorem rc_1 (h0 : (q09 t).2 = 0) (h : ¬c.file = t.file.name) : qc1 t c = 11 := by rw [qjm, if_neg (fun q => q h0), if_pos h]
theorem rc_2 (h0 : (q09 t).2 = 0) (h1 : c.file = t.file.name) (h : c.kind < 0 ∨ 2 < c.kind) : qc1 t c = 4 := by rw [qjm, if_neg (fun q => q h0), if_neg (fun q => q h1), if_pos (by omega)]
theorem rc_3 (h0 : (q09 t).2 = 0) (h1 : c.file = t.file.name) (h2 : 0 ≤ c.kind ∧ c.kind ≤ 2) (h : c.rrn < 1 ∨ ((t.records.length : Int) + if c.kind = 0 then 1 else 0) < c.rrn) : qc1 t c = 3 := by rw [qjm, if_neg (fun q => q h0), if_neg (fun q => q h1), if_neg (fun q => q h2), if_pos (by omega)]
theorem rc_4 (h0 : (q09 t).2 = 0) (h1 : c.file = t.file.name) (h2 : 0 ≤ c.kind ∧ c.kind ≤ 2) (h3 : 1 ≤ c.rrn ∧ c.rrn ≤ (t.records.length : Int) + if c.kind = 0 then 1 else 0) (h : c.kind = 0 ∧ ¬c.before = ⟨#[]⟩ ∨ c.kind = 2 ∧ ¬c.after = ⟨#[]⟩) : qc1 t c = 5 := by rw [qjm, if_neg (fun q => q h0), if_neg (fun q => q h1), if_neg (fun q => q h2), if_neg (fun q => q h3), if_pos h]
theorem rc_5 (h0 : (q09 t).2 = 0) (h1 : c.file = t.file.name) (h2 : 0 ≤ c.kind ∧ c.kind ≤ 2) (h3 : 1 ≤ c.rrn ∧ c.rrn ≤ (t.records.length : Int) + if c.kind = 0 then 1 else 0) (h4 : (¬c.kind = 0 ∨ c.before = ⟨#[]⟩) ∧ (¬c.kind = 2 ∨ c.after = ⟨#[]⟩)) (h : c.kind = 0 ∧ qfx t c.rrn = true) : qc1 t c = 12 := by rw [qjm, if_neg (fun q => q h0), if_neg (fun q => q h1), if_neg (fun q => q h2), if_neg (fun q => q h3), if_neg (fun q => q.elim (fun e => h4.1.elim (fun z => z e.1) e.2) (fun e => h4.2.elim (fun z => z e.1) e.2)), if_pos h]
theorem rc_6 (h0 : (q09 t).2 = 0) (h1 : c.file = t.file.name) (h2 : 0 ≤ c.kind ∧ c.kind ≤ 2) (h3 : 1 ≤ c.rrn ∧ c.rrn ≤ (t.records.length : Int) + if c.kind = 0 then 1 else 0) (h4 : (¬c.kind = 0 ∨ c.before = ⟨#[]⟩) ∧ (¬c.kind = 2 ∨ c.after = ⟨#[]⟩)) (h5 : ¬c.kind = 0 ∨ qfx t c.rrn = false) (h : c.kind = 0 ∧ 60 < c.rrn) : qc1 t c = 30 := by rw [qjm, if_neg (fun q => q h0), if_neg (fun q => q h1), if_neg (fun q => q h2), if_neg (fun q => q h3), if_neg (fun q => q.elim (fun e => h4.1.elim (fun z => z e.1) e.2) (fun e => h4.2.elim (fun z => z e.1) e.2)), if_neg (fun q => h5.elim (fun z => z q.1) (fun z => by rw [z] at q; exact absurd q.2 (by decide))), if_pos h]
theorem rc_7 (h0 : (q09 t).2 = 0) (h1 : c.file = t.file.name) (h2 : 0 ≤ c.kind ∧ c.kind ≤ 2) (h3 : 1 ≤ c.rrn ∧ c.rrn ≤ (t.records.length : Int) + if c.kind = 0 then 1 else 0) (h4 : (¬c.kind = 0 ∨ c.before = ⟨#[]⟩) ∧ (¬c.kind = 2 ∨ c.after = ⟨#[]⟩)) (h5 : ¬c.kind = 0 ∨ qfx t c.rrn = false) (h6 : ¬c.kind = 0 ∨ c.rrn ≤ 60) (h : ¬c.kind = 0 ∧ qfx t c.rrn = false) : qc1 t c = 11 := by rw [qjm, if_neg (fun q => q h0), if_neg (fun q => q h1), if_neg (fun q => q h2), if_neg (fun q => q h3), if_neg (fun q => q.elim (fun e => h4.1.elim (fun z => z e.1) e.2) (fun e => h4.2.elim (fun z => z e.1) e.2)), if_neg (fun q => h5.elim (fun z => z q.1) (fun z => by rw [z] at q; exact absurd q.2 (by decide))), if_neg (by omega), if_pos h]
theorem rc_8 (h0 : (q09 t).2 = 0) (h1 : c.file = t.file.name) (h2 : 0 ≤ c.kind ∧ c.kind ≤ 2) (h3 : 1 ≤ c.rrn ∧ c.rrn ≤ (t.records.length : Int) + if c.kind = 0 then 1 else 0) (h4 : (¬c.kind = 0 ∨ c.before = ⟨#[]⟩) ∧ (¬c.kind = 2 ∨ c.after = ⟨#[]⟩)) (h5 : ¬c.kind = 0 ∨ qfx t c.rrn = false) (h6 : ¬c.kind = 0 ∨ c.rrn ≤ 60) (h7 : c.kind = 0 ∨ qfx t c.rrn = true) (h : ¬c.kind = 0 ∧ ¬(t.records.getD (c.rrn - 1).toNat zRec).bytes = c.before) : qc1 t c = 15 := by rw [qjm, if_neg (fun q => q h0), if_neg (fun q => q h1), if_neg (fun q => q h2), if_neg (fun q => q h3), if_neg (fun q => q.elim (fun e => h4.1.elim (fun z => z e.1) e.2) (fun e => h4.2.elim (fun z => z e.1) e.2)), if_neg (fun q => h5.elim (fun z => z q.1) (fun z => by rw [z] at q; exact absurd q.2 (by decide))), if_neg (by omega), if_neg (fun q => h7.elim q.1 (fun z => by rw [z] at q; exact absurd q.2 (by decide))), if_pos h]
theorem rc_9 (h0 : (q09 t).2 = 0) (h1 : c.file = t.file.name) (h2 : 0 ≤ c.kind ∧ c.kind ≤ 2) (h3 : 1 ≤ c.rrn ∧ c.rrn ≤ (t.records.length : Int) + if c.kind = 0 then 1 else 0) (h4 : (¬c.kind = 0 ∨ c.before = ⟨#[]⟩) ∧ (¬c.kind = 2 ∨ c.after = ⟨#[]⟩)) (h5 : ¬c.kind = 0 ∨ qfx t c.rrn = false) (h6 : ¬c.kind = 0 ∨ c.rrn ≤ 60) (h7 : c.kind = 0 ∨ qfx t c.rrn = true) (h8 : c.kind = 0 ∨ (t.records.getD (c.rrn - 1).toNat zRec).bytes = c.before) (h : c.kind = 2) : qc1 t c = 0 := by rw [qjm, if_neg (fun q => q h0), if_neg (fun q => q h1), if_neg (fun q => q h2), if_neg (fun q => q h3), if_neg (fun q => q.elim (fun e => h4.1.elim (fun z => z e.1) e.2) (fun e => h4.2.elim (fun z => z e.1) e.2)), if_neg (fun q => h5.elim (fun z => z q.1) (fun z => by rw [z] at q; exact absurd q.2 (by decide))), if_neg (by omega), if_neg (fun q => h7.elim q.1 (fun z => by rw [z] at q; exact absurd q.2 (by decide))), if_neg (fun q => h8.elim q.1 q.2), if_pos h]
theorem qbvd (h0 : (q09 t).2 = 0) (h1 : c.file = t.file.name) (h2 : 0 ≤ c.kind ∧ c.kind ≤ 2) (h3 : 1 ≤ c.rrn ∧ c.rrn ≤ (t.records.length : Int) + if c.kind = 0 then 1 else 0) (h4 : (¬c.kind = 0 ∨ c.before = ⟨#[]⟩) ∧ (¬c.kind = 2 ∨ c.after = ⟨#[]⟩)) (h5 : ¬c.kind = 0 ∨ qfx t c.rrn = false) (h6 : ¬c.kind = 0 ∨ c.rrn ≤ 60) (h7 : c.kind = 0 ∨ qfx t c.rrn = true) (h8 : c.kind = 0 ∨ (t.records.getD (c.rrn - 1).toNat zRec).bytes = c.before) (h9 : ¬c.kind = 2) : qc1 t c = (qdh t.file.format c.after).2.2 := by rw [qjm, if_neg (fun q => q h0), if_neg (fun q => q h1), if_neg (fun q => q h2), if_neg (fun q => q h3), if_neg (fun q => q.elim (fun e => h4.1.elim (fun z => z e.1) e.2) (fun e => h4.2.elim (fun z => z e.1) e.2)), if_neg (fun q => h5.elim (fun z => z q.1) (fun z => by rw [z] at q; exact absurd q.2 (by decide))), if_neg (by omega), if_neg (fun q => h7.elim q.1 (fun z => by rw [z] at q; exact absurd q.2 (by decide))), if_neg (fun q => h8.elim q.1 q.2), if_neg (h9)]
end
end Go.Ev

namespace Go.Ev
open Go.Proofs Ty
set_option maxRecDepth 10000
set_option maxHeartbeats 4000000
set_option linter.unusedSimpArgs false
set_option linter.unusedVariables false
noncomputable def e140 : List O → Option (Prop × O)
  | [.d x_t, .d (.i .i64 n)] => match q0x x_t with
    | some t => some (t.records.length ≤ 1000000, .d (.b (qfx t n)))
    | _ => none
  | _ => none
noncomputable def q009 : FuncId → List O → Option (Prop × O) := addT q6x 140 e140
noncomputable def e38o : List O → Option (Prop × O)
  | [.d x_t] => match q0x x_t with
    | some t => some ((t.file.format.fields.length ≤ 1000000 ∧ t.file.keys.length ≤ 1000000 ∧ t.records.length ≤ 1000000), .agg [.d (.s t.file.name), .d (.s t.file.format.name), .d (.sl 4 (t.file.format.fields.map q03)), .d (.sl 2 (t.file.keys.map q06)), .d (.b t.file.unique), .own 104 2 (t.records.map qbo)])
    | _ => none
  | _ => none
noncomputable def q1a : FuncId → List O → Option (Prop × O) := addT q009 38 e38o
noncomputable def e141 : List O → Option (Prop × O)
  | [.d x_t, .d (.i .i64 n), .d x_r] => match q0x x_t, qc0 x_r with
    | some t, some r => some (1 ≤ n ∧ n ≤ (t.records.length : Int) + 1 ∧ t.records.length ≤ 1000000 ∧ t.file.format.fields.length ≤ 1000000 ∧ t.file.keys.length ≤ 1000000, .d (q0g (qhl t n r)))
    | _, _ => none
  | _ => none
noncomputable def q1b : FuncId → List O → Option (Prop × O) := addT q1a 141 e141
noncomputable def e124 : List O → Option (Prop × O)
  | [.d x_t, .d x_c] => match q0x x_t, q0z x_c with
    | some t, some c => some ((t.file.format.fields.length ≤ 1000000 ∧ t.file.keys.length ≤ 1000000 ∧ t.records.length ≤ 1000000), .d (.i .i64 (qc1 t c)))
    | _, _ => none
  | _ => none
noncomputable def q1c : FuncId → List O → Option (Prop × O) := addT q1b 124 e124
noncomputable def e125 : List O → Option (Prop × O)
  | [.d x_t, .d x_c] => match q0x x_t, q0z x_c with
    | some t, some c => some (1 ≤ c.rrn ∧ c.rrn ≤ (t.records.length : Int) + 1 ∧ t.records.length ≤ 1000000 ∧ t.file.format.fields.length ≤ 1000000 ∧ t.file.keys.length ≤ 1000000, .d (q0g (qhl t c.rrn (qn1 c))))
    | _, _ => none
  | _ => none
noncomputable def q1d : FuncId → List O → Option (Prop × O) := addT q1c 125 e125
noncomputable def e97 : List O → Option (Prop × O)
  | [.d x_t, .d x_c] => match q0x x_t, q0z x_c with
    | some t, some c => some ((t.file.format.fields.length ≤ 1000000 ∧ t.file.keys.length ≤ 1000000 ∧ t.records.length ≤ 1000000), .tup [.d (q0g (qf4 t c).1), .d (.i .i64 (qf4 t c).2)])
    | _, _ => none
  | _ => none
noncomputable def q60 : FuncId → List O → Option (Prop × O) := addT q1d 97 e97
noncomputable def e45 : List O → Option (Prop × O)
  | [.d x_c] => match q0z x_c with
    | some c => some (True, .d (q0u (revC c)))
    | _ => none
  | _ => none
noncomputable def q61 : FuncId → List O → Option (Prop × O) := addT q60 45 e45
noncomputable def e77 : List O → Option (Prop × O)
  | [.d x_l, .d (.s n)] => match decL 6 q0x x_l with
    | some l => some (l.length ≤ 1000000, .d (.i .i64 (qcw l n)))
    | _ => none
  | _ => none
noncomputable def q62 : FuncId → List O → Option (Prop × O) := addT q61 77 e77
noncomputable def e74 : List O → Option (Prop × O)
  | [.d x_l] => match decL 6 q0x x_l with
    | some l => some (okTs l, .tup [.d (.i .i64 (qj8 l).1), .d (.i .i64 (qj8 l).2)])
    | _ => none
  | _ => none
noncomputable def q63 : FuncId → List O → Option (Prop × O) := addT q62 74 e74
noncomputable def e38d : List O → Option (Prop × O)
  | [.d x_t] => match q0x x_t with
    | some t => some ((t.file.format.fields.length ≤ 1000000 ∧ t.file.keys.length ≤ 1000000 ∧ t.records.length ≤ 1000000), .d (q0g t))
    | _ => none
  | _ => none
noncomputable def q1e : FuncId → List O → Option (Prop × O) := addT q63 38 e38d
noncomputable def e75 : List O → Option (Prop × O)
  | [.bx 33 [.own 80 6 x_x, .d (.i .i64 n_x), .d u_x, .d (.i .i64 e_x)], .d x_c] => match qjw x_x n_x u_x e_x, q0z x_c with
    | some x, some c => some (okTs x.tables, .tup [.d (.i .i64 (cond x.tables c)), .bx 33 [.own 80 6 ((doT x.tables c).map q0g), .d (.i .i64 x.n), .d (.sl 1 (x.units.map (D.i .i64))), .d (.i .i64 x.err)]])
    | _, _ => none
  | _ => none
noncomputable def q64 : FuncId → List O → Option (Prop × O) := addT q1e 75 e75
def mvz : FuncId → Nat → List (Nat × TypeId × Nat) := fun f => if f = 75 then (fun j => if j = 0 then [(4242, 33, 0), (0, 80, 6)] else []) else fun _ => []
noncomputable def e42 : List O → Option (Prop × O)
  | [.d x_ts, .d x_cs] => match decL 6 q0x x_ts, decL 5 q0z x_cs with
    | some ts, some cs => some (okTs ts ∧ cs.length ≤ 1000000, .d (qd2 (qe6 (qcu ts cs))))
    | _, _ => none
  | _ => none
noncomputable def q65 : FuncId → List O → Option (Prop × O) := addT q64 42 e42
noncomputable def e39 : List O → Option (Prop × O)
  | [.d x_ts, .d x_l] => match decL 6 q0x x_ts, decL 8 q0w x_l with
    | some ts, some l => some (okTs ts ∧ l.length ≤ 1000000, .d (.i .i64 (chkE ts l)))
    | _, _ => none
  | _ => none
noncomputable def q66 : FuncId → List O → Option (Prop × O) := addT q65 39 e39
noncomputable def e40 : List O → Option (Prop × O)
  | [.d x_l] => match decL 8 q0w x_l with
    | some l => some (l.length ≤ 1000000, .tup [.d (.i .i64 (qf6 l)), .d (.i .i64 (qf7 l))])
    | _ => none
  | _ => none
noncomputable def q67 : FuncId → List O → Option (Prop × O) := addT q66 40 e40
noncomputable def e13 : List O → Option (Prop × O)
  | [.d x_ts, .d x_l, .d (.i .i64 n)] => match decL 6 q0x x_ts, decL 8 q0w x_l with
    | some ts, some l => some (okTs ts ∧ l.length ≤ 1000000, .d (qd2 (qe6 (qf5 ts l n))))
    | _, _ => none
  | _ => none
noncomputable def q68 : FuncId → List O → Option (Prop × O) := addT q67 13 e13
noncomputable def e16 : List O → Option (Prop × O)
  | [.d x_ts, .d x_l, .d (.i .i64 n)] => match decL 6 q0x x_ts, decL 8 q0w x_l with
    | some ts, some l => some (okTs ts ∧ l.length ≤ 1000000, .d (qd2 (qe6 (qfd ts l n))))
    | _, _ => none
  | _ => none
noncomputable def q69 : FuncId → List O → Option (Prop × O) := addT q68 16 e16
noncomputable def e14 : List O → Option (Prop × O)
  | [.d x_ts, .d (.i .i64 e), .d x_x] => match decL 6 q0x x_ts, qgf x_x with
    | some ts, some x => some (okTs ts, .d (.b (decide (e = x.err) && decide (ts = x.tables))))
    | _, _ => none
  | _ => none
noncomputable def q7a : FuncId → List O → Option (Prop × O) := addT q69 14 e14
noncomputable def e3 : List O → Option (Prop × O)
  | [.d x_ts, .d x_l, .d (.i .i64 n)] => match decL 6 q0x x_ts, decL 8 q0w x_l with
    | some ts, some l => some (True, .d (.b true))
    | _, _ => none
  | _ => none
noncomputable def tab3 : FuncId → List O → Option (Prop × O) := addT q7a 3 e3
noncomputable def e4 : List O → Option (Prop × O)
  | [.d x_ts, .d x_l, .d (.i .i64 n)] => match decL 6 q0x x_ts, decL 8 q0w x_l with
    | some ts, some l => some (True, .d (.b true))
    | _, _ => none
  | _ => none
noncomputable def tab4 : FuncId → List O → Option (Prop × O) := addT tab3 4 e4
end Go.Ev

namespace Go.Ev
def hitS (f : ByteArray) (x : Entry) : Bool := decide (x.kind = 4) && decide (x.change.file = f)
theorem qpq {f : ByteArray} {x : Entry} : hitS f x = true ↔ x.kind = 4 ∧ x.change.file = f := by simp [hitS]
def sIdx (l : List Entry) (f : ByteArray) : Nat → Int
  | 0 => -1
  | i + 1 => if hitS f (l.getD i q0q) = true then i else sIdx l f i
def sNum (l : List Entry) (f : ByteArray) : Nat → Int
  | 0 => 0
  | i + 1 => if hitS f (l.getD i q0q) = true then (l.getD i q0q).number else sNum l f i
section
variable {l : List Entry} {f : ByteArray} {i : Nat}
theorem qbeb (h : (l.getD i q0q).kind = 4 ∧ (l.getD i q0q).change.file = f) : sIdx l f (i + 1) = i := by simp only [sIdx]; rw [if_pos (qpq.2 h)]
theorem qblb (h : ¬(l.getD i q0q).kind = 4 ∨ ¬(l.getD i q0q).change.file = f) : sIdx l f (i + 1) = sIdx l f i := by
  simp only [sIdx]; rw [if_neg (fun e => by have := qpq.1 e; exact h.elim (fun q => q this.1) (fun q => q this.2))]
theorem qbec (h : (l.getD i q0q).kind = 4 ∧ (l.getD i q0q).change.file = f) : sNum l f (i + 1) = (l.getD i q0q).number := by simp only [sNum]; rw [if_pos (qpq.2 h)]
theorem qblc (h : ¬(l.getD i q0q).kind = 4 ∨ ¬(l.getD i q0q).change.file = f) : sNum l f (i + 1) = sNum l f i := by
  simp only [sNum]; rw [if_neg (fun e => by have := qpq.1 e; exact h.elim (fun q => q this.1) (fun q => q this.2))]
theorem qrr (l : List Entry) (f : ByteArray) : ∀ i, -1 ≤ sIdx l f i ∧ sIdx l f i < i
  | 0 => by simp [sIdx]
  | i + 1 => by
    have := qrr l f i
    simp only [sIdx]
    split <;> omega
theorem qrs (l : List Entry) (f : ByteArray) : ∀ i, sNum l f i = if sIdx l f i < 0 then 0 else (l.getD (sIdx l f i).toNat q0q).number
  | 0 => by simp [sNum, sIdx]
  | i + 1 => by
    simp only [sNum, sIdx]
    split
    · rw [if_neg (by omega), Int.toNat_natCast]
    · exact qrs l f i
end
def qhm (l : List Entry) (f : ByteArray) : Int × Int :=
  if (qbc l).2 ≠ 0 then (0, (qbc l).2) else if qbb f = false then (0, 7) else if sIdx l f l.length < 0 then (0, 40) else ((l.getD (sIdx l f l.length).toNat q0q).number, 0)
section
variable {l : List Entry} {f : ByteArray}
theorem q1f (h : ¬(qbc l).2 = 0) : qhm l f = (0, (qbc l).2) := by unfold qhm; rw [if_pos h]
theorem qw0 (h : (qbc l).2 = 0) (h2 : qbb f = false) : qhm l f = (0, 7) := by unfold qhm; rw [if_neg (fun e => e h), if_pos h2]
theorem qw1 (h : (qbc l).2 = 0) (h2 : ¬qbb f = false) (h3 : sIdx l f l.length < 0) : qhm l f = (0, 40) := by unfold qhm; rw [if_neg (fun e => e h), if_neg h2, if_pos h3]
theorem qw2 (h : (qbc l).2 = 0) (h2 : ¬qbb f = false) (h3 : 0 ≤ sIdx l f l.length) : qhm l f = ((l.getD (sIdx l f l.length).toNat q0q).number, 0) := by unfold qhm; rw [if_neg (fun e => e h), if_neg h2, if_neg (by omega)]
theorem q1g (h : (qbc l).2 = 0) : 0 < sNum l f l.length ↔ 0 ≤ sIdx l f l.length := by
  rw [qrs]
  have hb := qrr l f l.length
  split
  · omega
  · have := qkr h (j := (sIdx l f l.length).toNat) (by omega)
    omega
theorem q7b (h : (qbc l).2 = 0) (h2 : ¬qbb f = false) (h3 : ¬0 < sNum l f l.length) : qhm l f = (0, 40) := qw1 h h2 (by have := q1g (f := f) h; omega)
theorem q7c (h : (qbc l).2 = 0) (h2 : ¬qbb f = false) (h3 : 0 < sNum l f l.length) : qhm l f = (sNum l f l.length, 0) := by
  have := (q1g (f := f) h).1 h3
  rw [qw2 h h2 this, qrs, if_neg (by omega)]
end
inductive WantZ where
  | le (n : Int)
  | ge (n : Int)
  | save (l : List Entry)
  | out (u : List Int)
  | inn (u : List Int)
def qq0 (l : List Entry) (x : Entry) : Bool := decide (sIdx l x.change.file l.length < 0) || decide ((l.getD (sIdx l x.change.file l.length).toNat q0q).number < x.number)
def WantZ.has : WantZ → Entry → Bool
  | .le n, x => decide (x.number ≤ n)
  | .ge n, x => decide (n ≤ x.number)
  | .save l, x => qq0 l x
  | .out u, x => !decide (x.unit ∈ u)
  | .inn u, x => decide (x.unit ∈ u)
def takP (p : Entry → Bool) (x : Entry) : Bool := decide (x.kind = 0) && p x
def qe7 (p : Entry → Bool) (back : Bool) (l : List Entry) : List Change := (l.filter (takP p)).map (qn2 back)
def qbx (p : Entry → Bool) (back : Bool) (l : List Entry) : List Change := if back then (qe7 p back l).reverse else qe7 p back l
section
variable {p q : Entry → Bool} {back : Bool} {l : List Entry} {i : Nat}
theorem qnj {x : Entry} : takP p x = true ↔ x.kind = 0 ∧ p x = true := by simp [takP]
theorem quf (hi : i < l.length) : qe7 p back (l.take (i + 1)) = if takP p (l.getD i q0q) = true then qe7 p back (l.take i) ++ [qn2 back (l.getD i q0q)] else qe7 p back (l.take i) := by
  unfold qe7
  rw [qdy q0q hi, List.filter_append, List.map_append]
  generalize l.getD i q0q = x
  cases h : takP p x <;> simp [List.filter_cons, h]
theorem qmd : (qe7 p back (l.take i)).length ≤ i := by
  unfold qe7
  rw [List.length_map]
  have := List.length_filter_le (takP p) (l.take i)
  rw [List.length_take] at this
  omega
theorem qnk (p : Entry → Bool) (back : Bool) (l : List Entry) : (qbx p back l).length ≤ l.length := by
  have := qmd (p := p) (back := back) (l := l) (i := l.length)
  rw [List.take_length] at this
  unfold qbx
  split
  · rw [List.length_reverse]; exact this
  · exact this
theorem qks (hi : i < l.length) (h : (l.getD i q0q).kind = 0) (h2 : p (l.getD i q0q) = true) : qe7 p back (l.take (i + 1)) = qe7 p back (l.take i) ++ [qn2 back (l.getD i q0q)] := by rw [quf hi, if_pos (qnj.2 ⟨h, h2⟩)]
theorem qnl (hi : i < l.length) (h : ¬(l.getD i q0q).kind = 0 ∨ p (l.getD i q0q) = false) : qe7 p back (l.take (i + 1)) = qe7 p back (l.take i) := by
  rw [quf hi, if_neg]
  rw [qnj]
  rintro ⟨a, b⟩
  rcases h with h | h
  · exact h a
  · rw [h] at b; cases b
theorem qug (h : l.length ≤ i) : (qe7 p true (l.take i)).reverse = qbx p true l := by rw [List.take_of_length_le h]; rfl
theorem qmy (h : l.length ≤ i) : qe7 p false (l.take i) = qbx p false l := by rw [List.take_of_length_le h]; rfl
theorem q2r (h : l.length ≤ i) : List.take (qe7 p true (l.take i)).length (qe7 p true (l.take i)).reverse = qbx p true l := by
  rw [List.take_of_length_le (l := (qe7 p true (l.take i)).reverse) (by simp), qug h]
theorem qlr (h : ∀ x ∈ l, x.kind = 0 → p x = q x) : qbx p back l = qbx q back l := by
  have e : qe7 p back l = qe7 q back l := by
    unfold qe7
    congr 1
    apply List.filter_congr
    intro x hx
    unfold takP
    by_cases k : x.kind = 0
    · rw [h x hx k]
    · simp [k]
  unfold qbx
  rw [e]
end
def qib (ts : List Table) (l : List Entry) : List Table × Int × Int := if chkE ts l ≠ 0 then ([], 0, chkE ts l) else qcu ts (qbx (qq0 l) false l)
def qjx (l : List Entry) (x : Entry) : Bool := decide (sNum l x.change.file l.length < x.number)
section
variable {ts : List Table} {l : List Entry}
theorem q91 (h : ¬chkE ts l = 0) : qib ts l = ([], 0, chkE ts l) := by unfold qib; rw [if_pos h]
theorem qbg4 (h : chkE ts l = 0) : qib ts l = qcu ts (qbx (qq0 l) false l) := by unfold qib; rw [if_neg (fun e => e h)]
theorem qbpt (h : ¬chkE ts l = 0) : qe6 (qib ts l) = ⟨[], 0, [], chkE ts l⟩ := by rw [q91 h]; rfl
theorem qbed (h : (qbc l).2 = 0) : qbx (qq0 l) false l = qbx (qjx l) false l := by
  apply qlr
  intro x hx _
  obtain ⟨j, hj, rfl⟩ := List.getElem_of_mem hx
  have hn := qkr h hj
  have e : l.getD j q0q = l[j] := by simp [List.getD, List.getElem?_eq_getElem hj]
  rw [e] at hn
  unfold qq0 qjx
  rw [qrs]
  by_cases q : sIdx l (l[j]).change.file l.length < 0
  · rw [if_pos q]
    have : 0 < (l[j]).number := by omega
    simp [q, this]
  · rw [if_neg q]; simp [q]
theorem qbve {i : Nat} (h : chkE ts l = 0) (hi : l.length ≤ i) : qe6 (qib ts l) = qe6 (qcu ts (qe7 (qjx l) false (l.take i))) := by
  rw [qbg4 h, qbed (qfj h).2, qmy hi]
theorem qw3 (h : okTs ts) : okTs (qib ts l).1 := by
  unfold qib
  split
  · exact qh8
  · exact qmc h
end
end Go.Ev

namespace Go.Ev
def idxZ (l : List Int) (v : Int) : Int := match l.findIdx? (· == v) with | some i => (i : Int) | none => -1
theorem q92 {l : List Int} {i : Nat} (h : i < l.length) : l.take (i + 1) = l.take i ++ [l.getD i 0] := qdy 0 h
theorem qbee {l : List Int} {v : Int} {i : Nat} (h : (l.take i).findIdx? (· == v) = none) (hi : i < l.length) (e : v = l.getD i 0) : idxZ l v = i := by
  unfold idxZ
  have : l.findIdx? (· == v) = some i := by
    rw [← List.take_append_drop i l, List.findIdx?_append, h, qe0 0 hi]
    rw [List.findIdx?_cons]
    have hl : (l.take i).length = i := by rw [List.length_take]; omega
    simp [e, hl]
  rw [this]
theorem q93 {l : List Int} {v : Int} {i : Nat} (h : (l.take i).findIdx? (· == v) = none) (hi : i < l.length) (e : ¬v = l.getD i 0) : (l.take (i + 1)).findIdx? (· == v) = none := by
  rw [q92 hi, List.findIdx?_append, h]
  have : ¬ l.getD i 0 = v := fun h => e h.symm
  simp [List.findIdx?_cons] at this ⊢
  exact this
theorem qbef {l : List Int} {v : Int} {i : Nat} (h : (l.take i).findIdx? (· == v) = none) (hi : l.length ≤ i) : idxZ l v = -1 := by
  rw [List.take_of_length_le hi] at h
  unfold idxZ; rw [h]
theorem q1h (l : List Int) (v : Int) : (idxZ l v ≥ 0) ↔ v ∈ l := by
  unfold idxZ
  cases h : l.findIdx? (· == v) with
  | none =>
    rw [List.findIdx?_eq_none_iff] at h
    simp only [ge_iff_le]
    constructor
    · intro h; omega
    · intro hm; have := h v hm; simp at this
  | some i =>
    rw [List.findIdx?_eq_some_iff_getElem] at h
    obtain ⟨h1, h2, _⟩ := h
    simp at h2
    simp only [ge_iff_le]
    exact ⟨fun _ => h2 ▸ List.getElem_mem h1, fun _ => by omega⟩
end Go.Ev

namespace Go.Ev
open Go.Proofs Ty
set_option maxRecDepth 10000
set_option maxHeartbeats 4000000
set_option linter.unusedSimpArgs false
set_option linter.unusedVariables false
def qgy : WantZ → D
  | .le n => .fn 37 [.cp [.i .i64 n]]
  | .ge n => .fn 44 [.cp [.i .i64 n]]
  | .save l => .fn 49 [.cp [.sl 8 (l.map q0r)]]
  | .out u => .fn 54 [.cp [.sl 1 (u.map (D.i .i64))]]
  | .inn u => .fn 56 [.cp [.sl 1 (u.map (D.i .i64))]]
def qhh : D → Option WantZ
  | .fn f [.cp [d]] => if f = 37 then (match d with | .i .i64 n => some (.le n) | _ => none) else if f = 44 then (match d with | .i .i64 n => some (.ge n) | _ => none)
    else if f = 49 then (decL 8 q0w d).map .save else if f = 54 then (decL 1 (decI .i64) d).map .out else if f = 56 then (decL 1 (decI .i64) d).map .inn else none
  | _ => none
theorem q2s {d : D} {x : WantZ} (h : qhh d = some x) : dle d (qgy x) := by
  unfold qhh at h
  split at h
  · split at h
    · rename_i hf; subst hf
      split at h
      · cases h; exact q01 _
      · cases h
    split at h
    · rename_i hf; subst hf
      split at h
      · cases h; exact q01 _
      · cases h
    split at h
    · rename_i hf; subst hf
      obtain ⟨l, hl, rfl⟩ := Option.map_eq_some_iff.1 h
      exact ⟨rfl, ⟨q0y q04 hl, trivial⟩, trivial⟩
    split at h
    · rename_i hf; subst hf
      obtain ⟨l, hl, rfl⟩ := Option.map_eq_some_iff.1 h
      exact ⟨rfl, ⟨q0y qho hl, trivial⟩, trivial⟩
    split at h
    · rename_i hf; subst hf
      obtain ⟨l, hl, rfl⟩ := Option.map_eq_some_iff.1 h
      exact ⟨rfl, ⟨q0y qho hl, trivial⟩, trivial⟩
    · cases h
  · cases h
theorem dWZ1 (n : Int) : qhh (.fn 37 [.cp [.i .i64 n]]) = some (.le n) := rfl
theorem dWZ2 (n : Int) : qhh (.fn 44 [.cp [.i .i64 n]]) = some (.ge n) := rfl
theorem dWZ3 (l : List Entry) : qhh (.fn 49 [.cp [.sl 8 (l.map q0r)]]) = some (.save l) := by unfold qhh; simp [qdt]
theorem dWZ4 (l : List Int) : qhh (.fn 54 [.cp [.sl 1 (l.map (D.i .i64))]]) = some (.out l) := by unfold qhh; simp [qd4]
theorem dWZ5 (l : List Int) : qhh (.fn 56 [.cp [.sl 1 (l.map (D.i .i64))]]) = some (.inn l) := by unfold qhh; simp [qd4]
noncomputable def e85 : List O → Option (Prop × O)
  | [.d x_l, .d (.i .i64 v)] => match decL 1 (decI .i64) x_l with
    | some l => some (l.length ≤ 1000000, .d (.i .i64 (idxZ l v)))
    | _ => none
  | _ => none
noncomputable def q7d : FuncId → List O → Option (Prop × O) := addT tab4 85 e85
noncomputable def e55 : List O → Option (Prop × O)
  | [.d x_l, .d (.i .i64 v)] => match decL 1 (decI .i64) x_l with
    | some l => some (l.length ≤ 1000000, .d (.b (decide (v ∈ l))))
    | _ => none
  | _ => none
noncomputable def q7e : FuncId → List O → Option (Prop × O) := addT q7d 55 e55
noncomputable def e25 : List O → Option (Prop × O)
  | [.d x_a, .d x_b] => match decL 1 (decI .i64) x_a, decL 1 (decI .i64) x_b with
    | some a, some b => some (a.length ≤ 1000000, .d (.b (decide (a = b))))
    | _, _ => none
  | _ => none
noncomputable def q7f : FuncId → List O → Option (Prop × O) := addT q7e 25 e25
noncomputable def e48 : List O → Option (Prop × O)
  | [.d x_l, .d (.s file)] => match decL 8 q0w x_l with
    | some l => some (l.length ≤ 1000000, .d (.i .i64 (sIdx l file l.length)))
    | _ => none
  | _ => none
noncomputable def q7g : FuncId → List O → Option (Prop × O) := addT q7f 48 e48
noncomputable def e17 : List O → Option (Prop × O)
  | [.d x_l, .d (.s file)] => match decL 8 q0w x_l with
    | some l => some (l.length ≤ 1000000, .tup [.d (.i .i64 (qhm l file).1), .d (.i .i64 (qhm l file).2)])
    | _ => none
  | _ => none
noncomputable def q7h : FuncId → List O → Option (Prop × O) := addT q7g 17 e17
noncomputable def e52 : List O → Option (Prop × O)
  | [.d x_l, .d (.s file)] => match decL 8 q0w x_l with
    | some l => some (l.length ≤ 1000000, .d (.i .i64 (sNum l file l.length)))
    | _ => none
  | _ => none
noncomputable def q7i : FuncId → List O → Option (Prop × O) := addT q7h 52 e52
noncomputable def e19 : List O → Option (Prop × O)
  | [.d x_l, .d (.s file)] => match decL 8 q0w x_l with
    | some l => some (l.length ≤ 1000000, .tup [.d (.i .i64 (qhm l file).1), .d (.i .i64 (qhm l file).2)])
    | _ => none
  | _ => none
noncomputable def q7j : FuncId → List O → Option (Prop × O) := addT q7i 19 e19
noncomputable def e37z : List O → Option (Prop × O)
  | [.d x_x, .d (.cp [.i .i64 n])] => match q0w x_x with
    | some x => some (True, .d (.b ((WantZ.le n).has x)))
    | _ => none
  | _ => none
noncomputable def q1i : FuncId → List O → Option (Prop × O) := addT q7j 37 e37z
noncomputable def e44z : List O → Option (Prop × O)
  | [.d x_x, .d (.cp [.i .i64 n])] => match q0w x_x with
    | some x => some (True, .d (.b ((WantZ.ge n).has x)))
    | _ => none
  | _ => none
noncomputable def q1j : FuncId → List O → Option (Prop × O) := addT q1i 44 e44z
noncomputable def e49 : List O → Option (Prop × O)
  | [.d x_x, .d (.cp [x_l])] => match q0w x_x, decL 8 q0w x_l with
    | some x, some l => some (l.length ≤ 1000000, .d (.b ((WantZ.save l).has x)))
    | _, _ => none
  | _ => none
noncomputable def q7k : FuncId → List O → Option (Prop × O) := addT q1j 49 e49
noncomputable def e54 : List O → Option (Prop × O)
  | [.d x_x, .d (.cp [x_u])] => match q0w x_x, decL 1 (decI .i64) x_u with
    | some x, some u => some (u.length ≤ 1000000, .d (.b ((WantZ.out u).has x)))
    | _, _ => none
  | _ => none
noncomputable def q7l : FuncId → List O → Option (Prop × O) := addT q7k 54 e54
noncomputable def e56 : List O → Option (Prop × O)
  | [.d x_x, .d (.cp [x_u])] => match q0w x_x, decL 1 (decI .i64) x_u with
    | some x, some u => some (u.length ≤ 1000000, .d (.b ((WantZ.inn u).has x)))
    | _, _ => none
  | _ => none
noncomputable def q7m : FuncId → List O → Option (Prop × O) := addT q7l 56 e56
def WantZ.ok : WantZ → Prop
  | .save l => l.length ≤ 1000000
  | .out u => u.length ≤ 1000000
  | .inn u => u.length ≤ 1000000
  | _ => True
noncomputable def e36z : List O → Option (Prop × O)
  | [.d x_l, .d (.b back), .d x_w] => match decL 8 q0w x_l, qhh x_w with
    | some l, some w => some (l.length ≤ 1000000 ∧ w.ok, .d (.sl 5 ((qbx w.has back l).map q0u)))
    | _, _ => none
  | _ => none
noncomputable def q1k : FuncId → List O → Option (Prop × O) := addT q7m 36 e36z
noncomputable def e18 : List O → Option (Prop × O)
  | [.d x_ts, .d x_l] => match decL 6 q0x x_ts, decL 8 q0w x_l with
    | some ts, some l => some (okTs ts ∧ l.length ≤ 1000000, .tup [.d (.sl 6 ((qib ts l).1.map q0g)), .d (.i .i64 (qib ts l).2.1), .d (.i .i64 (qib ts l).2.2)])
    | _, _ => none
  | _ => none
noncomputable def q7n : FuncId → List O → Option (Prop × O) := addT q1k 18 e18
noncomputable def e20 : List O → Option (Prop × O)
  | [.d x_ts, .d x_l] => match decL 6 q0x x_ts, decL 8 q0w x_l with
    | some ts, some l => some (okTs ts ∧ l.length ≤ 1000000, .d (qd2 (qe6 (qib ts l))))
    | _, _ => none
  | _ => none
noncomputable def q7o : FuncId → List O → Option (Prop × O) := addT q7n 20 e20
noncomputable def e5 : List O → Option (Prop × O)
  | [.d x_ts, .d x_l, .d (.s file)] => match decL 6 q0x x_ts, decL 8 q0w x_l with
    | some ts, some l => some (True, .d (.b true))
    | _, _ => none
  | _ => none
noncomputable def tab5 : FuncId → List O → Option (Prop × O) := addT q7o 5 e5
end Go.Ev
