/- Tools and contracts under the laws of this seat: DyE6 to DyE14. -/
import Derived.Test.YtkgkgcojfocomaaGreatE07
import Derived.Test.YtkgkgcojfocomaaGreatE08
import Derived.Test.YtkgkgcojfocomaaGreatE05
set_option linter.unusedVariables false
set_option linter.unusedSimpArgs false
namespace Go.Ev
open Go.Proofs Ty
set_option maxRecDepth 10000
set_option maxHeartbeats 4000000
set_option linter.unusedSimpArgs false
set_option linter.unusedVariables false
noncomputable def e36 : List O → Option (Prop × O)
  | [.d x_l, .d (.b back), .d x_w] => match decL 8 decEntry x_l, decWant x_w with
    | some l, some w => some (l.length ≤ 1000000, .d (.sl 5 ((changesOf w back l).map encChange)))
    | _, _ => none
  | _ => none
noncomputable def tab36 : FuncId → List O → Option (Prop × O) := addT tab34 36 e36
noncomputable def e35 : List O → Option (Prop × O)
  | [.d x_ts, .d x_cs] => match decL 6 decTable x_ts, decL 5 decChange x_cs with
    | some ts, some cs => some (okTs ts ∧ cs.length ≤ 1000000, .tup [.d (.sl 6 ((madeT ts cs).1.map encTable)), .d (.i .i64 (madeT ts cs).2.1), .d (.i .i64 (madeT ts cs).2.2)])
    | _, _ => none
  | _ => none
noncomputable def tab35 : FuncId → List O → Option (Prop × O) := addT tab36 35 e35
end Go.Ev

namespace Go.Ev
theorem num_chk {l : List Entry} (h : (check l).2 = 0) {j : Nat} (hj : j < l.length) : 1 ≤ (l.getD j zEntry).number ∧ (l.getD j zEntry).number ≤ 9999 := num_bounds (check_all h hj).1
theorem chkE_ok {ts : List Table} {l : List Entry} (h : chkE ts l = 0) : tablesErr ts = 0 ∧ (check l).2 = 0 := by
  unfold chkE at h
  split at h
  · contradiction
  · rename_i h2; exact ⟨Decidable.not_not.1 h2, h⟩
theorem changes_len (w : Want) (back : Bool) (l : List Entry) : (changesOf w back l).length ≤ l.length := by
  have := chgs_all w back l
  unfold changesOf
  split
  · rw [List.length_reverse]; exact this
  · exact this
def leastA (l : List Entry) : Int := if 0 < l.length then (l.getD 0 zEntry).number - 1 else 0
def mostA (l : List Entry) : Int := if 0 < l.length then (l.getD (l.length - 1) zEntry).number else 9999
def leastR (l : List Entry) : Int := if 0 < l.length then (l.getD 0 zEntry).number else 1
def mostR (l : List Entry) : Int := if 0 < l.length then (l.getD (l.length - 1) zEntry).number + 1 else 10000
def applyT (ts : List Table) (l : List Entry) (n : Int) : List Table × Int × Int :=
  if chkE ts l ≠ 0 then ([], 0, chkE ts l) else if n < leastA l ∨ mostA l < n then ([], 0, 3) else madeT ts (changesOf ⟨true, n⟩ false l)
def removeT (ts : List Table) (l : List Entry) (n : Int) : List Table × Int × Int :=
  if chkE ts l ≠ 0 then ([], 0, chkE ts l) else if n < leastR l ∨ mostR l < n then ([], 0, 3) else madeT ts (changesOf ⟨false, n⟩ true l)
section
variable {ts : List Table} {l : List Entry} {n : Int}
theorem apply_err (h : ¬chkE ts l = 0) : applyT ts l n = ([], 0, chkE ts l) := by unfold applyT; rw [if_pos h]
theorem apply_out (h : chkE ts l = 0) (h2 : n < leastA l ∨ mostA l < n) : applyT ts l n = ([], 0, 3) := by unfold applyT; rw [if_neg (fun e => e h), if_pos h2]
theorem apply_in (h : chkE ts l = 0) (h2 : leastA l ≤ n ∧ n ≤ mostA l) : applyT ts l n = madeT ts (changesOf ⟨true, n⟩ false l) := by unfold applyT; rw [if_neg (fun e => e h), if_neg (by omega)]
theorem remove_err (h : ¬chkE ts l = 0) : removeT ts l n = ([], 0, chkE ts l) := by unfold removeT; rw [if_pos h]
theorem remove_out (h : chkE ts l = 0) (h2 : n < leastR l ∨ mostR l < n) : removeT ts l n = ([], 0, 3) := by unfold removeT; rw [if_neg (fun e => e h), if_pos h2]
theorem remove_in (h : chkE ts l = 0) (h2 : leastR l ≤ n ∧ n ≤ mostR l) : removeT ts l n = madeT ts (changesOf ⟨false, n⟩ true l) := by unfold removeT; rw [if_neg (fun e => e h), if_neg (by omega)]
theorem edge_some (h : 0 < (l.length : Int)) : leastA l = (l.getD 0 zEntry).number - 1 ∧ mostA l = (l.getD (l.length - 1) zEntry).number ∧ leastR l = (l.getD 0 zEntry).number ∧ mostR l = (l.getD (l.length - 1) zEntry).number + 1 := by
  have h : 0 < l.length := by omega
  simp [leastA, mostA, leastR, mostR, h]
theorem edge_none (h : (l.length : Int) ≤ 0) : leastA l = 0 ∧ mostA l = 9999 ∧ leastR l = 1 ∧ mostR l = 10000 := by
  have h : ¬0 < l.length := by omega
  simp [leastA, mostA, leastR, mostR, h]
end
theorem fmt_eq {a b : Fmt} (h1 : a.name = b.name) (h2 : a.fields = b.fields) : a = b := by cases a; cases b; simp_all
theorem file_eq {a b : File} (h1 : a.name = b.name) (h2 : a.unique = b.unique) (h3 : a.format = b.format) (h4 : a.keys = b.keys) : a = b := by cases a; cases b; simp_all
theorem table_dec (a b : Table) : decide (a = b) = (decide (a.file = b.file) && decide (a.records = b.records)) := by
  rw [Bool.eq_iff_iff]; cases a; cases b; simp
end Go.Ev

namespace Go.Ev
open Go.Proofs Ty
set_option maxRecDepth 10000
set_option maxHeartbeats 4000000
set_option linter.unusedSimpArgs false
set_option linter.unusedVariables false
noncomputable def e10 : List O → Option (Prop × O)
  | [.d x_ts, .d x_l, .d (.i .i64 n)] => match decL 6 decTable x_ts, decL 8 decEntry x_l with
    | some ts, some l => some (okTs ts ∧ l.length ≤ 1000000, .tup [.d (.sl 6 ((applyT ts l n).1.map encTable)), .d (.i .i64 (applyT ts l n).2.1), .d (.i .i64 (applyT ts l n).2.2)])
    | _, _ => none
  | _ => none
noncomputable def tab10 : FuncId → List O → Option (Prop × O) := addT tab35 10 e10
noncomputable def e15 : List O → Option (Prop × O)
  | [.d x_ts, .d x_l, .d (.i .i64 n)] => match decL 6 decTable x_ts, decL 8 decEntry x_l with
    | some ts, some l => some (okTs ts ∧ l.length ≤ 1000000, .tup [.d (.sl 6 ((removeT ts l n).1.map encTable)), .d (.i .i64 (removeT ts l n).2.1), .d (.i .i64 (removeT ts l n).2.2)])
    | _, _ => none
  | _ => none
noncomputable def tab15 : FuncId → List O → Option (Prop × O) := addT tab10 15 e15
noncomputable def e95 : List O → Option (Prop × O)
  | [.d x_f] => match decFmt x_f with
    | some f => some (f.fields.length ≤ 1000000, .d (encFmt f))
    | _ => none
  | _ => none
noncomputable def tab95 : FuncId → List O → Option (Prop × O) := addT tab15 95 e95
noncomputable def e73 : List O → Option (Prop × O)
  | [.d x_f] => match decFile x_f with
    | some f => some (f.format.fields.length ≤ 1000000 ∧ f.keys.length ≤ 1000000, .d (encFile f))
    | _ => none
  | _ => none
noncomputable def tab73 : FuncId → List O → Option (Prop × O) := addT tab95 73 e73
noncomputable def e38 : List O → Option (Prop × O)
  | [.d x_t] => match decTable x_t with
    | some t => some ((t.file.format.fields.length ≤ 1000000 ∧ t.file.keys.length ≤ 1000000 ∧ t.records.length ≤ 1000000), .d (encTable t))
    | _ => none
  | _ => none
noncomputable def tab38 : FuncId → List O → Option (Prop × O) := addT tab73 38 e38
noncomputable def e11 : List O → Option (Prop × O)
  | [.d x_ts] => match decL 6 decTable x_ts with
    | some ts => some (okTs ts, .own 80 6 (ts.map encTable))
    | _ => none
  | _ => none
noncomputable def tab11 : FuncId → List O → Option (Prop × O) := addT tab38 11 e11
noncomputable def e99 : List O → Option (Prop × O)
  | [.d x_a, .d x_b] => match decL 2 decRec x_a, decL 2 decRec x_b with
    | some a, some b => some (a.length ≤ 1000000, .d (.b (decide (a = b))))
    | _, _ => none
  | _ => none
noncomputable def tab99 : FuncId → List O → Option (Prop × O) := addT tab11 99 e99
noncomputable def e126 : List O → Option (Prop × O)
  | [.d x_a, .d x_b] => match decFmt x_a, decFmt x_b with
    | some a, some b => some (a.fields.length ≤ 1000000, .d (.b (decide (a = b))))
    | _, _ => none
  | _ => none
noncomputable def tab126 : FuncId → List O → Option (Prop × O) := addT tab99 126 e126
noncomputable def e98 : List O → Option (Prop × O)
  | [.d x_a, .d x_b] => match decFile x_a, decFile x_b with
    | some a, some b => some (a.format.fields.length ≤ 1000000 ∧ a.keys.length ≤ 1000000, .d (.b (decide (a = b))))
    | _, _ => none
  | _ => none
noncomputable def tab98 : FuncId → List O → Option (Prop × O) := addT tab126 98 e98
noncomputable def e78 : List O → Option (Prop × O)
  | [.d x_a, .d x_b] => match decTable x_a, decTable x_b with
    | some a, some b => some (okT a, .d (.b (decide (a = b))))
    | _, _ => none
  | _ => none
noncomputable def tab78 : FuncId → List O → Option (Prop × O) := addT tab98 78 e78
noncomputable def e64 : List O → Option (Prop × O)
  | [.d x_f] => match decFmt x_f with
    | some f => some (True, .d (.b (decide ((f.fields.length : Int) ≤ 22))))
    | _ => none
  | _ => none
noncomputable def tab64 : FuncId → List O → Option (Prop × O) := addT tab78 64 e64
end Go.Ev

namespace Go.Ev
def recBig (t : Table) (k : Nat) : Int := if 220 < ((t.records.getD k zRec).bytes.size : Int) then 1 else 0
def headBig (t : Table) : Prop := 22 < (t.file.format.fields.length : Int) ∨ 6 < (t.file.keys.length : Int) ∨ 62 < (t.records.length : Int)
instance (t : Table) : Decidable (headBig t) := by unfold headBig; infer_instance
def tabBig (l : List Table) (i : Nat) : Int := if headBig (l.getD i zTable) then 1 else match firstBad (recBig (l.getD i zTable)) (l.getD i zTable).records.length with
  | some _ => 1
  | none => 0
def fewTs (l : List Table) : Bool := if 10 < (l.length : Int) then false else (firstBad (tabBig l) l.length).isNone
section
variable {l : List Table} {i k : Nat}
theorem few_many (h : 10 < (l.length : Int)) : fewTs l = false := by unfold fewTs; rw [if_pos h]
theorem few_bad (h10 : (l.length : Int) ≤ 10) (h : ∀ j, j < i → tabBig l j = 0) (hi : i < l.length) (hg : ¬tabBig l i = 0) : fewTs l = false := by
  unfold fewTs
  rw [if_neg (by omega), firstBad_some h hi hg]; rfl
theorem few_end (h10 : (l.length : Int) ≤ 10) (h : ∀ j, j < i → tabBig l j = 0) (hi : l.length ≤ i) : fewTs l = true := by
  unfold fewTs
  rw [if_neg (by omega), firstBad_none fun j hj => h j (by omega)]; rfl
theorem tabBig_head (h : headBig (l.getD i zTable)) : ¬tabBig l i = 0 := by unfold tabBig; rw [if_pos h]; decide
theorem tabBig_rec (h : ∀ j, j < k → recBig (l.getD i zTable) j = 0) (hk : k < (l.getD i zTable).records.length) (hg : 220 < (((l.getD i zTable).records.getD k zRec).bytes.size : Int)) : ¬tabBig l i = 0 := by
  unfold tabBig
  split
  · decide
  · rw [firstBad_some h hk (by unfold recBig; rw [if_pos hg]; decide)]; exact (by decide : ¬(1 : Int) = 0)
theorem tabBig_end (hh : ¬headBig (l.getD i zTable)) (h : ∀ j, j < k → recBig (l.getD i zTable) j = 0) (hk : (l.getD i zTable).records.length ≤ k) : tabBig l i = 0 := by
  unfold tabBig
  rw [if_neg hh, firstBad_none fun j hj => h j (by omega)]
theorem recBig_no {t : Table} (h : ((t.records.getD k zRec).bytes.size : Int) ≤ 220) : recBig t k = 0 := by unfold recBig; rw [if_neg (by omega)]
theorem fewTs_ok (h : fewTs l = true) : okTs l ∧ l.length ≤ 10 := by
  unfold fewTs at h
  split at h
  · cases h
  refine ⟨⟨by omega, fun i => ?_⟩, by omega⟩
  by_cases hi : i < l.length
  · have hz : tabBig l i = 0 := by
      cases hf : firstBad (tabBig l) l.length with
      | some j => rw [hf] at h; cases h
      | none =>
        unfold firstBad at hf
        rw [List.find?_eq_none] at hf
        have := hf i (by simpa using hi)
        simpa using this
    unfold tabBig at hz
    split at hz
    · cases hz
    · rename_i hh
      unfold headBig at hh
      refine ⟨?_, ?_, ?_⟩ <;> omega
  · have : l.getD i zTable = zTable := by simp [List.getD, List.getElem?_eq_none (Nat.le_of_not_lt hi)]
    rw [this]
    exact ⟨by decide, by decide, by decide⟩
end
end Go.Ev

namespace Go.Ev
open Go.Proofs Ty
set_option maxRecDepth 10000
set_option maxHeartbeats 4000000
set_option linter.unusedSimpArgs false
set_option linter.unusedVariables false
noncomputable def e43 : List O → Option (Prop × O)
  | [.d x_a, .d x_b] => match decL 6 decTable x_a, decL 6 decTable x_b with
    | some a, some b => some (okTs a, .d (.b (decide (a = b))))
    | _, _ => none
  | _ => none
noncomputable def tab43 : FuncId → List O → Option (Prop × O) := addT tab64 43 e43
noncomputable def e32 : List O → Option (Prop × O)
  | [.d x_l] => match decL 6 decTable x_l with
    | some l => some (True, .d (.b (fewTs l)))
    | _ => none
  | _ => none
noncomputable def tab32 : FuncId → List O → Option (Prop × O) := addT tab43 32 e32
noncomputable def e9 : List O → Option (Prop × O)
  | [.d x_ts, .d x_l] => match decL 6 decTable x_ts, decL 8 decEntry x_l with
    | some ts, some l => some (True, .d (.b (fewTs ts && few35 l)))
    | _, _ => none
  | _ => none
noncomputable def tab9 : FuncId → List O → Option (Prop × O) := addT tab32 9 e9
end Go.Ev

namespace Go.Ev
def trimR (l : List Rec) : List Rec := (l.reverse.dropWhile fun r => r.deleted).reverse
def trimT (t : Table) : Table := ⟨t.file, trimR t.records⟩
theorem dw_drop {α : Type} (p : α → Bool) (z : α) : ∀ {l : List α} {k : Nat}, (∀ j, j < k → p (l.getD j z) = true) → k ≤ l.length → (k = l.length ∨ p (l.getD k z) = false) → l.dropWhile p = l.drop k
  | [], k, _, hi, _ => by simp at hi; subst hi; rfl
  | x :: l, 0, _, _, h => by
    have : p x = false := by rcases h with h | h; cases h; simpa using h
    simp [this]
  | x :: l, k + 1, h, hi, h2 => by
    have hx : p x = true := by simpa using h 0 (by omega)
    have h1 : ∀ j, j < k → p (l.getD j z) = true := fun j hj => by
      have := h (j + 1) (by omega)
      simpa using this
    rw [List.dropWhile_cons, if_pos hx, List.drop_succ_cons, dw_drop p z h1 (by simpa using hi) (by rcases h2 with h2 | h2; left; simpa using h2; right; simpa using h2)]
theorem rev_getD (l : List Rec) {j : Nat} (hj : j < l.length) : l.reverse.getD j zRec = l.getD (l.length - 1 - j) zRec := by
  simp only [List.getD]; rw [List.getElem?_reverse hj]
theorem trim_at {l : List Rec} {n : Nat} (hn : n ≤ l.length) (h : ∀ j, n ≤ j → j < l.length → (l.getD j zRec).deleted = true) (h2 : n = 0 ∨ (l.getD (n - 1) zRec).deleted = false) : trimR l = l.take n := by
  unfold trimR
  rw [dw_drop (fun r => r.deleted) zRec (k := l.length - n) (fun j hj => by rw [rev_getD l (by omega)]; exact h _ (by omega) (by omega)) (by simp) (by
    rcases h2 with h2 | h2
    · left; simp; omega
    · by_cases h0 : n = 0
      · left; simp; omega
      · right; rw [rev_getD l (by omega), show l.length - 1 - (l.length - n) = n - 1 by omega]; exact h2)]
  rw [List.drop_reverse, List.reverse_reverse, show l.length - (l.length - n) = n by omega]
def trimTo (l : List Table) (i : Nat) : List Table := (l.take i).map trimT ++ l.drop i
theorem trimTo_len (l : List Table) (i : Nat) : (trimTo l i).length = l.length := by simp [trimTo]; omega
theorem trimTo_getD (l : List Table) {i : Nat} (hi : i < l.length) : (trimTo l i).getD i zTable = l.getD i zTable := by
  simp only [trimTo, List.getD]
  rw [List.getElem?_append_right (by simp; omega)]
  simp [Nat.min_eq_left (Nat.le_of_lt hi)]
theorem trimTo_map {l : List Table} {i : Nat} (hi : i < l.length) (z : D) : ((trimTo l i).map encTable).getD i z = encTable (l.getD i zTable) := by
  rw [getD_mapT (by rw [trimTo_len]; exact hi), trimTo_getD l hi]
theorem trimTo_step {l : List Table} {i : Nat} (hi : i < l.length) : (trimTo l i).set i (trimT (l.getD i zTable)) = trimTo l (i + 1) := by
  have e : l.drop i = l.getD i zTable :: l.drop (i + 1) := by
    rw [List.drop_eq_getElem_cons hi]; simp [List.getD, List.getElem?_eq_getElem hi]
  simp only [trimTo]
  rw [e, List.set_append_right _ _ (by simp; omega), take_getD zTable hi, List.map_append]
  simp [Nat.min_eq_left (Nat.le_of_lt hi)]
theorem trimTo_end {l : List Table} {i : Nat} (hi : l.length ≤ i) : trimTo l i = l.map trimT := by simp [trimTo, List.take_of_length_le hi, List.drop_eq_nil_of_le hi]
def alikeT (a b : List Table) : Bool := fewTs a && decide (a.map trimT = b.map trimT)
theorem trimR_len (l : List Rec) : (trimR l).length ≤ l.length := by
  unfold trimR
  rw [List.length_reverse]
  have := (List.dropWhile_suffix (l := l.reverse) fun r => r.deleted).length_le
  simpa using this
theorem okTs_trim {l : List Table} (h : okTs l) : okTs (l.map trimT) := by
  refine ⟨by rw [List.length_map]; exact h.1, fun i => ?_⟩
  have e : (l.map trimT).getD i zTable = trimT (l.getD i zTable) := by
    simp only [List.getD, List.getElem?_map]
    cases l[i]? <;> rfl
  rw [e]
  have hi := h.2 i
  have := trimR_len (l.getD i zTable).records
  exact ⟨hi.1, hi.2.1, by have := hi.2.2; show (trimR _).length ≤ _; omega⟩
end Go.Ev

namespace Go.Ev
open Go.Proofs Ty
set_option maxRecDepth 10000
set_option maxHeartbeats 4000000
set_option linter.unusedSimpArgs false
set_option linter.unusedVariables false
noncomputable def e60 : List O → Option (Prop × O)
  | [.d x_l] => match decL 6 decTable x_l with
    | some l => some (okTs l, .d (.sl 6 ((l.map trimT).map encTable)))
    | _ => none
  | _ => none
noncomputable def tab60 : FuncId → List O → Option (Prop × O) := addT tab9 60 e60
noncomputable def e27 : List O → Option (Prop × O)
  | [.d x_a, .d x_b] => match decL 6 decTable x_a, decL 6 decTable x_b with
    | some a, some b => some (okTs b, .d (.b (alikeT a b)))
    | _, _ => none
  | _ => none
noncomputable def tab27 : FuncId → List O → Option (Prop × O) := addT tab60 27 e27
end Go.Ev

namespace Go.Ev
section
variable {ts : List Table} {l : List Entry} {c : Change} {i : Nat}
end
end Go.Ev

namespace Go.Ev
open Go.Proofs Ty
set_option maxRecDepth 10000
set_option maxHeartbeats 4000000
set_option linter.unusedSimpArgs false
set_option linter.unusedVariables false
end Go.Ev

namespace Go.Ev
theorem firstBad_all {g : Nat → Int} {n : Nat} (h : firstBad g n = none) : ∀ j, j < n → g j = 0 := by
  unfold firstBad at h
  rw [List.find?_eq_none] at h
  intro j hj
  have := h j (by simpa using hj)
  simpa using this
theorem okTs_nil : okTs [] := ⟨by simp, fun i => by
  have : ([] : List Table).getD i zTable = zTable := rfl
  rw [this]; exact ⟨by decide, by decide, by decide⟩⟩
theorem okTs_made {ts : List Table} {cs : List Change} (h : okTs ts) : okTs (madeT ts cs).1 := by
  unfold madeT
  cases hf : firstBad (mErr ts cs) cs.length with
  | some k => exact okTs_nil
  | none => exact mTo_ok h (firstBad_all hf)
theorem okTs_apply {ts : List Table} {l : List Entry} {n : Int} (h : okTs ts) : okTs (applyT ts l n).1 := by
  unfold applyT
  split
  · exact okTs_nil
  split
  · exact okTs_nil
  · exact okTs_made h
theorem okTs_remove {ts : List Table} {l : List Entry} {n : Int} (h : okTs ts) : okTs (removeT ts l n).1 := by
  unfold removeT
  split
  · exact okTs_nil
  split
  · exact okTs_nil
  · exact okTs_made h
theorem set_files (l : List Table) (i : Nat) (n : Int) (r : Rec) : (l.set i (withT (l.getD i zTable) n r)).map (·.file) = l.map (·.file) := by
  rw [List.map_set]
  show (l.map (·.file)).set i (l.getD i zTable).file = _
  by_cases h : i < l.length
  · have e : (l.getD i zTable).file = (l.map (·.file))[i]'(by simpa using h) := by simp [List.getD, List.getElem?_eq_getElem h]
    rw [e, List.set_getElem_self]
  · rw [List.set_eq_of_length_le (by simpa using h)]
theorem mTo_files (ts : List Table) (cs : List Change) : ∀ k, (mTo ts cs k).1.map (·.file) = ts.map (·.file)
  | 0 => rfl
  | k + 1 => by
    have ih := mTo_files ts cs k
    simp only [mTo, mStep]
    split
    · exact ih
    · simp only
      rw [set_files]
      exact ih
theorem findT_files {a b : List Table} (h : a.map (·.file) = b.map (·.file)) (n : ByteArray) : findT a n = findT b n := by
  have hl : a.length = b.length := by have := congrArg List.length h; simpa using this
  have hg : nameHit a n = nameHit b n := by
    funext i
    unfold nameHit
    have e : ∀ l : List Table, (l.getD i zTable).file = (l.map (·.file)).getD i zFile := fun l => by
      simp only [List.getD, List.getElem?_map]
      cases l[i]? <;> rfl
    rw [e a, e b, h]
  unfold findT
  rw [hg, hl]
theorem mTo_find (ts : List Table) (cs : List Change) (k : Nat) (n : ByteArray) : findT (mTo ts cs k).1 n = findT ts n := findT_files (mTo_files ts cs k) n
end Go.Ev

namespace Go.Ev
open Go.Proofs Ty
set_option maxRecDepth 10000
set_option maxHeartbeats 4000000
set_option linter.unusedSimpArgs false
set_option linter.unusedVariables false
end Go.Ev

namespace Go.Ev
def cond (s : List Table) (c : Change) : Int := if findT s c.file < 0 then 0 else chgErr (s.getD (findT s c.file).toNat zTable) c
end Go.Ev

namespace Go.Ev
theorem entry_kind {e : Entry} (h : entryErr e = 0) (hk : e.kind = 0) : e.change.kind = 0 ∨ e.change.kind = 1 ∨ e.change.kind = 2 := by
  unfold entryErr at h
  split at h
  · cases h
  split at h
  · cases h
  split at h
  · cases h
  split at h
  · cases h
  split at h
  · cases h
  split at h
  · rename_i q; exact absurd hk q.1
  split at h
  · cases h
  split at h
  · rename_i q; omega
  unfold changeErr at h
  split at h
  · cases h
  omega
end Go.Ev

namespace Go.Ev
open Go.Proofs Ty
set_option maxRecDepth 10000
set_option maxHeartbeats 4000000
set_option linter.unusedSimpArgs false
set_option linter.unusedVariables false
end Go.Ev

namespace Go.Ev
theorem lo_mod {c : Int} (h0 : 0 ≤ c) (h1 : c < 256) : loB c = c % 16 := by
  have key : ∀ k : Fin 256, loB ((k.1 : Nat) : Int) = ((k.1 : Nat) : Int) % 16 := by decide +kernel
  have := key ⟨c.toNat, by omega⟩
  simpa [Int.toNat_of_nonneg h0] using this
theorem hi_div (c : Int) : hiB c = c / 16 := by
  unfold hiB
  rw [Int.fdiv_eq_ediv_of_nonneg _ (by decide)]
  rfl
theorem chr_lt (b : ByteArray) (i : Nat) : 0 ≤ chr b i ∧ chr b i < 256 := by
  have := chr_u8 b i; omega
theorem lo_chr (b : ByteArray) (i : Nat) : loB (chr b i) = chr b i % 16 := lo_mod (chr_lt b i).1 (chr_lt b i).2
theorem mod_lo (b : ByteArray) (i : Nat) : (chr b i).tmod 16 = loB (chr b i) := by
  rw [lo_chr, Int.tmod_eq_emod_of_nonneg (chr_lt b i).1]
theorem div_hi (b : ByteArray) (i : Nat) : (chr b i).tdiv 16 = hiB (chr b i) := by
  rw [hi_div, Int.tdiv_eq_ediv_of_nonneg (chr_lt b i).1]
theorem lo_le (b : ByteArray) (i : Nat) : 0 ≤ loB (chr b i) ∧ loB (chr b i) ≤ 15 := by rw [lo_chr]; omega
theorem hi_le (b : ByteArray) (i : Nat) : 0 ≤ hiB (chr b i) ∧ hiB (chr b i) ≤ 15 := by
  have := chr_lt b i
  rw [hi_div]; omega
theorem halvL_get {t : DType} {b : ByteArray} (h : t.kind = 1) : ∀ {n i : Nat}, i < 2 * n → (halvL t b n).getD i 0 = if i % 2 = 1 then loB (chr b (i / 2)) else hiB (chr b (i / 2))
  | 0, i, hi => by omega
  | n + 1, i, hi => by
    have hl := halvL_len t b n
    rw [if_pos h] at hl
    rw [halvL_p h]
    simp only [List.getD]
    by_cases e : i < 2 * n
    · rw [List.getElem?_append_left (by omega)]
      exact halvL_get h e
    · rw [List.getElem?_append_right (by omega), hl]
      by_cases e2 : i = 2 * n
      · subst e2
        rw [if_neg (by omega), show 2 * n / 2 = n by omega, Nat.sub_self]; rfl
      · have : i = 2 * n + 1 := by omega
        subst this
        rw [if_pos (by omega), show (2 * n + 1) / 2 = n by omega, show 2 * n + 1 - 2 * n = 1 by omega]; rfl
theorem halvA_get {t : DType} (h : t.kind = 1) : ∀ {n i : Nat}, i < 2 * n → (halvA t n).getD i 0 = ((i / 2 : Nat) : Int)
  | 0, i, hi => by omega
  | n + 1, i, hi => by
    have hl := halvA_len t n
    rw [if_pos h] at hl
    rw [halvA_p h]
    simp only [List.getD]
    by_cases e : i < 2 * n
    · rw [List.getElem?_append_left (by omega)]
      exact halvA_get h e
    · rw [List.getElem?_append_right (by omega), hl]
      by_cases e2 : i = 2 * n
      · subst e2
        rw [show 2 * n / 2 = n by omega, Nat.sub_self]; rfl
      · have : i = 2 * n + 1 := by omega
        subst this
        rw [show (2 * n + 1) / 2 = n by omega, show 2 * n + 1 - 2 * n = 1 by omega]; rfl
theorem halvL_getz {t : DType} {b : ByteArray} (h : ¬t.kind = 1) : ∀ {n i : Nat}, i < n → (halvL t b n).getD i 0 = loB (chr b i)
  | 0, i, hi => by omega
  | n + 1, i, hi => by
    have hl := halvL_len t b n
    rw [if_neg h] at hl
    rw [halvL_z h]
    simp only [List.getD]
    by_cases e : i < n
    · rw [List.getElem?_append_left (by omega)]
      exact halvL_getz h e
    · have : i = n := by omega
      subst this
      rw [List.getElem?_append_right (by omega), hl, Nat.sub_self]; rfl
theorem halvA_getz {t : DType} (h : ¬t.kind = 1) : ∀ {n i : Nat}, i < n → (halvA t n).getD i 0 = (i : Int)
  | 0, i, hi => by omega
  | n + 1, i, hi => by
    have hl := halvA_len t n
    rw [if_neg h] at hl
    rw [halvA_z h]
    simp only [List.getD]
    by_cases e : i < n
    · rw [List.getElem?_append_left (by omega)]
      exact halvA_getz h e
    · have : i = n := by omega
      subst this
      rw [List.getElem?_append_right (by omega), hl, Nat.sub_self]; rfl
def decAt (t : DType) (b : ByteArray) (i : Nat) (n : Int) : Int × Int × Int :=
  decGo t.length (halves t b).1 (halves t b).2 ((halves t b).1.length - 1) (((halves t b).1.take ((halves t b).1.length - 1)).drop i) i n
section
variable {t : DType} {b : ByteArray} {i : Nat} {n : Int}
theorem z_len (h : t.kind = 2) : (halves t b).1.length = b.size + 1 := by have := (halves_len t b).1; rw [this, if_neg (by omega), if_pos h]
theorem z_take (h : t.kind = 2) : (halves t b).1.take ((halves t b).1.length - 1) = halvL t b b.size := by
  rw [z_len h, halves_2 h, Nat.add_sub_cancel]
  have hl := halvL_len t b b.size
  rw [if_neg (by omega)] at hl
  rw [List.take_append_of_le_length (by omega), List.take_of_length_le (by omega)]
theorem z_last (h : t.kind = 2) : (halves t b).1.getD b.size 0 = hiB (chr b (b.size - 1)) := by
  have hl := halvL_len t b b.size
  rw [if_neg (by omega)] at hl
  rw [halves_2 h]
  simp only [List.getD]
  rw [List.getElem?_append_right (by omega), hl, Nat.sub_self]; rfl
theorem z_lastA (h : t.kind = 2) : (halves t b).2.getD b.size 0 = (b.size : Int) - 1 := by
  have hl := halvA_len t b.size
  rw [if_neg (by omega)] at hl
  rw [halves_2 h]
  simp only [List.getD]
  rw [List.getElem?_append_right (by omega), hl, Nat.sub_self]; rfl
theorem z_A (h : t.kind = 2) (hi : i < b.size) : (halves t b).2.getD i 0 = (i : Int) := by
  have hl := halvA_len t b.size
  rw [if_neg (by omega)] at hl
  rw [halves_2 h]
  simp only [List.getD]
  rw [List.getElem?_append_left (by omega)]
  exact halvA_getz (by omega) hi
theorem z_at (h : t.kind = 2) (hs : (b.size : Int) = t.length) (hi : i < b.size) : decAt t b i n =
    if 9 < loB (chr b i) then (0, (i : Int), 21) else decAt t b (i + 1) (IntKind.i64.wrap (IntKind.i64.wrap (n * 10) + IntKind.i64.wrap (loB (chr b i)))) := by
  have hl := halvL_len t b b.size
  rw [if_neg (by omega)] at hl
  unfold decAt
  rw [z_take h, drop_getD 0 (by omega), decGo, halvL_getz (by omega) hi, z_len h]
  by_cases e : 9 < loB (chr b i)
  · rw [if_pos (.inl e), if_pos e, z_A h hi]
  · rw [if_neg (by omega), if_neg e]
theorem z_end (h : t.kind = 2) (hi : b.size ≤ i) : decAt t b i n = if hiB (chr b (b.size - 1)) < 10 then (0, (b.size : Int) - 1, 21) else (if hiB (chr b (b.size - 1)) = 11 ∨ hiB (chr b (b.size - 1)) = 13 then IntKind.i64.wrap (0 - n) else n, 0, 0) := by
  have hl := halvL_len t b b.size
  rw [if_neg (by omega)] at hl
  unfold decAt
  rw [z_take h, List.drop_of_length_le (by omega), decGo, z_len h, show (((b.size + 1 : Nat) : Int) - 1).toNat = b.size by omega, z_last h, z_lastA h]
theorem p_len (h : t.kind = 1) : (halves t b).1.length = 2 * b.size := by have := (halves_len t b).1; rw [this, if_pos h]
theorem p_at (h : t.kind = 1) (hs : (b.size : Int) = t.length / 2 + 1) (h0 : 0 ≤ t.length) (hi : i < 2 * b.size - 1) : decAt t b i n =
    if 9 < (if i % 2 = 1 then loB (chr b (i / 2)) else hiB (chr b (i / 2))) ∨ (i = 0 ∧ t.length % 2 = 0 ∧ hiB (chr b 0) ≠ 0) then (0, ((i / 2 : Nat) : Int), 21)
    else decAt t b (i + 1) (IntKind.i64.wrap (IntKind.i64.wrap (n * 10) + IntKind.i64.wrap (if i % 2 = 1 then loB (chr b (i / 2)) else hiB (chr b (i / 2))))) := by
  have hl := halvL_len t b b.size
  rw [if_pos h] at hl
  have hh := hi_le b 0
  unfold decAt
  have hn : (halves t b).1 = halvL t b b.size := by rw [halves_n (by omega)]
  have hA : (halves t b).2.getD i 0 = ((i / 2 : Nat) : Int) := by rw [halves_n (by omega)]; exact halvA_get h (by omega)
  have hT : ((halves t b).1.take ((halves t b).1.length - 1)).getD i 0 = if i % 2 = 1 then loB (chr b (i / 2)) else hiB (chr b (i / 2)) := by
    rw [hn]
    simp only [List.getD]
    rw [List.getElem?_take_of_lt (by omega)]
    exact halvL_get h (by omega)
  rw [drop_getD 0 (by rw [List.length_take, p_len h]; omega), decGo, hT, hA, p_len h]
  have hc : (0 < (if i % 2 = 1 then loB (chr b (i / 2)) else hiB (chr b (i / 2))) ∧ (i : Int) < ((2 * b.size : Nat) : Int) - 1 - t.length) ↔ (i = 0 ∧ t.length % 2 = 0 ∧ hiB (chr b 0) ≠ 0) := by
    constructor
    · rintro ⟨a, c⟩
      have hi0 : i = 0 := by omega
      subst hi0
      rw [if_neg (by decide)] at a
      refine ⟨rfl, by omega, by simp only [Nat.zero_div] at a; omega⟩
    · rintro ⟨a, c, d⟩
      subst a
      rw [if_neg (by decide)]
      simp only [Nat.zero_div]
      omega
  by_cases e : 9 < (if i % 2 = 1 then loB (chr b (i / 2)) else hiB (chr b (i / 2))) ∨ (i = 0 ∧ t.length % 2 = 0 ∧ hiB (chr b 0) ≠ 0)
  · rw [if_pos e, if_pos (e.imp id hc.2)]
  · rw [if_neg e, if_neg (fun q => e (q.imp id hc.1))]
theorem p_end (h : t.kind = 1) (h0 : 0 < b.size) (hi : 2 * b.size - 1 ≤ i) : decAt t b i n = if loB (chr b (b.size - 1)) < 10 then (0, (b.size : Int) - 1, 21) else (if loB (chr b (b.size - 1)) = 11 ∨ loB (chr b (b.size - 1)) = 13 then IntKind.i64.wrap (0 - n) else n, 0, 0) := by
  have hl := halvL_len t b b.size
  rw [if_pos h] at hl
  unfold decAt
  have hn : (halves t b).1 = halvL t b b.size := by rw [halves_n (by omega)]
  have hA : (halves t b).2.getD (2 * b.size - 1) 0 = (b.size : Int) - 1 := by rw [halves_n (by omega), halvA_get h (by omega)]; omega
  have hL : (halves t b).1.getD (2 * b.size - 1) 0 = loB (chr b (b.size - 1)) := by
    rw [hn, halvL_get h (by omega), if_pos (by omega), show (2 * b.size - 1) / 2 = b.size - 1 by omega]
  rw [List.drop_of_length_le (by rw [List.length_take, p_len h]; omega), decGo, p_len h, show (((2 * b.size : Nat) : Int) - 1).toNat = 2 * b.size - 1 by omega, hA, hL]
end
theorem ior_mul {n c : Int} (hn : -36028797018963968 ≤ n) (hn2 : n < 36028797018963968) (h0 : 0 ≤ c) (h1 : c < 256) : ior .i64 (IntKind.i64.wrap (n * 2 ^ 8)) c = n * 256 + c := by
  rw [show n * 2 ^ 8 = n * 256 from rfl, w64 (by omega) (by omega)]
  unfold ior
  have key : ((BitVec.ofInt IntKind.i64.bits (n * 256) ||| BitVec.ofInt IntKind.i64.bits c).toNat : Int) = (n * 256 + c) % 2 ^ 64 := by
    rw [BitVec.toNat_or, BitVec.toNat_ofInt, BitVec.toNat_ofInt]
    show (((((n * 256) % (2 ^ 64 : Nat)).toNat ||| ((c % (2 ^ 64 : Nat)).toNat)) : Nat) : Int) = _
    have ha : ((n * 256) % ((2 ^ 64 : Nat) : Int)).toNat = 2 ^ 8 * (n % 2 ^ 56).toNat := by
      rw [show ((2 ^ 64 : Nat) : Int) = 18446744073709551616 from rfl, show (2 : Int) ^ 56 = 72057594037927936 from rfl, show (2 : Nat) ^ 8 = 256 from rfl]
      omega
    have hc : (c % ((2 ^ 64 : Nat) : Int)).toNat = c.toNat := by rw [show ((2 ^ 64 : Nat) : Int) = 18446744073709551616 from rfl]; omega
    rw [ha, hc, ← Nat.two_pow_add_eq_or_of_lt (by omega)]
    rw [show (2 : Int) ^ 64 = 18446744073709551616 from rfl, show (2 : Int) ^ 56 = 72057594037927936 from rfl, show (2 : Nat) ^ 8 = 256 from rfl]
    omega
  rw [key]
  rw [show (2 : Int) ^ 64 = 18446744073709551616 from rfl]
  have e : (n * 256 + c) % 18446744073709551616 = n * 256 + c ∨ (n * 256 + c) % 18446744073709551616 = n * 256 + c + 18446744073709551616 := by omega
  unfold IntKind.wrap
  simp only [IntKind.bits, IntKind.signed, Bool.true_and]
  split <;> rename_i h <;> simp only [decide_eq_true_eq, ge_iff_le] at h <;> omega
theorem i8_of {c : Int} (h0 : 0 ≤ c) (h1 : c < 256) : IntKind.i8.wrap c = if 128 ≤ c then c - 256 else c := by
  unfold IntKind.wrap
  simp only [IntKind.bits, IntKind.signed, Bool.true_and]
  split <;> split <;> rename_i h h2 <;> simp only [decide_eq_true_eq, ge_iff_le] at h <;> omega
def bigAt (b : ByteArray) (a : Nat) : Nat → Int
  | 0 => 0
  | i + 1 => IntKind.i64.wrap (IntKind.i64.wrap (bigAt b a i * 256) + chr b (a + i))
theorem bigAt_le (b : ByteArray) (a : Nat) : ∀ {i : Nat}, i ≤ 6 → 0 ≤ bigAt b a i ∧ bigAt b a i < 256 ^ i
  | 0, _ => by simp [bigAt]
  | i + 1, h => by
    have ih := bigAt_le b a (i := i) (by omega)
    have hc := chr_lt b (a + i)
    have h6 : (256 : Int) ^ i ≤ 256 ^ 5 := by
      have := Int.ofNat_le.2 (Nat.pow_le_pow_right (show 256 > 0 by decide) (show i ≤ 5 by omega))
      rw [Int.natCast_pow, Int.natCast_pow] at this
      exact this
    have e5 : (256 : Int) ^ 5 = 1099511627776 := rfl
    have es : (256 : Int) ^ (i + 1) = 256 ^ i * 256 := Int.pow_succ _ _
    rw [e5] at h6
    simp only [bigAt]
    rw [w64 (n := bigAt b a i * 256) (by omega) (by omega), w64 (by omega) (by omega), es]
    omega
theorem bigAt_succ (b : ByteArray) (a : Nat) {i : Nat} (h : i ≤ 5) : bigAt b a (i + 1) = bigAt b a i * 256 + chr b (a + i) := by
  have ih := bigAt_le b a (i := i) (by omega)
  have hc := chr_lt b (a + i)
  have h6 : (256 : Int) ^ i ≤ 256 ^ 5 := by
    have := Int.ofNat_le.2 (Nat.pow_le_pow_right (show 256 > 0 by decide) (show i ≤ 5 by omega))
    rw [Int.natCast_pow, Int.natCast_pow] at this
    exact this
  have e5 : (256 : Int) ^ 5 = 1099511627776 := rfl
  rw [e5] at h6
  simp only [bigAt]
  rw [w64 (n := bigAt b a i * 256) (by omega) (by omega), w64 (by omega) (by omega)]
theorem bin_2 {b : ByteArray} (h : b.size = 2) : binN b = (if 128 ≤ chr b 0 then bigAt b 0 2 - 65536 else bigAt b 0 2) ∧ -32768 ≤ binN b ∧ binN b ≤ 32767 := by
  have c0 := chr_lt b 0
  have c1 := chr_lt b 1
  rw [← binTo_end b 1 (by omega), binTo_succ b 0 (by omega)]
  simp only [Nat.reduceAdd]
  have e : binTo b 0 = IntKind.i8.wrap (chr b 0) := rfl
  rw [e, i8_of c0.1 c0.2, ior_mul (by split <;> omega) (by split <;> omega) c1.1 c1.2, bigAt_succ b 0 (by omega), bigAt_succ b 0 (by omega)]
  simp only [bigAt, Nat.zero_add, Nat.reduceAdd]
  split <;> omega
theorem bin_4 {b : ByteArray} (h : b.size = 4) : binN b = (if 128 ≤ chr b 0 then bigAt b 0 4 - 4294967296 else bigAt b 0 4) ∧ -2147483648 ≤ binN b ∧ binN b ≤ 2147483647 := by
  have c0 := chr_lt b 0
  have c1 := chr_lt b 1
  have c2 := chr_lt b 2
  have c3 := chr_lt b 3
  rw [← binTo_end b 3 (by omega), binTo_succ b 2 (by omega), binTo_succ b 1 (by omega), binTo_succ b 0 (by omega)]
  simp only [Nat.reduceAdd]
  have e : binTo b 0 = IntKind.i8.wrap (chr b 0) := rfl
  rw [e, i8_of c0.1 c0.2, ior_mul (n := if 128 ≤ chr b 0 then chr b 0 - 256 else chr b 0) (by split <;> omega) (by split <;> omega) c1.1 c1.2]
  rw [ior_mul (n := (if 128 ≤ chr b 0 then chr b 0 - 256 else chr b 0) * 256 + chr b 1) (by split <;> omega) (by split <;> omega) c2.1 c2.2]
  rw [ior_mul (by split <;> omega) (by split <;> omega) c3.1 c3.2]
  rw [bigAt_succ b 0 (by omega), bigAt_succ b 0 (by omega), bigAt_succ b 0 (by omega), bigAt_succ b 0 (by omega)]
  simp only [bigAt, Nat.zero_add, Nat.reduceAdd]
  split <;> omega
theorem wrap_hi (b : ByteArray) (i : Nat) : IntKind.i64.wrap (hiB (chr b i)) = hiB (chr b i) := w64 (by have := hi_le b i; omega) (by have := hi_le b i; omega)
theorem wrap_lo (b : ByteArray) (i : Nat) : IntKind.i64.wrap (loB (chr b i)) = loB (chr b i) := w64 (by have := lo_le b i; omega) (by have := lo_le b i; omega)
theorem wrap_lo8 (b : ByteArray) (i : Nat) : IntKind.u8.wrap (loB (chr b i)) = loB (chr b i) := wu8 (by have := lo_le b i; omega) (by have := lo_le b i; omega)
theorem wrap_c (b : ByteArray) (i : Nat) : IntKind.i64.wrap (chr b i) = chr b i := w64 (by have := chr_lt b i; omega) (by have := chr_lt b i; omega)
def zT (s : ByteArray) : DType := ⟨2, s.size, 0⟩
def zonedV (s : ByteArray) : Val × Int × Int := (⟨(decN (zT s) s).1, ⟨#[]⟩⟩, (decN (zT s) s).2.1, (decN (zT s) s).2.2)
section
variable {s : ByteArray} {i : Nat} {n : Int}
theorem zz_bad (h : decAt (zT s) s i n = decN (zT s) s) (hi : i < s.size) (h1 : 9 < loB (chr s i) ∨ (i = s.size - 1 ∧ hiB (chr s i) < 10)) : zonedV s = (zVal, (i : Int), 21) := by
  have e : decN (zT s) s = (0, (i : Int), 21) := by
    rw [← h, z_at rfl rfl hi]
    by_cases e : 9 < loB (chr s i)
    · rw [if_pos e]
    · have h1 := h1.resolve_left e
      rw [if_neg e, z_end rfl (by omega), ← h1.1, if_pos h1.2]
      congr 2
      omega
  unfold zonedV; rw [e]; rfl
theorem zz_next (h : decAt (zT s) s i n = decN (zT s) s) (hi : i < s.size) (h1 : ¬9 < loB (chr s i)) : decAt (zT s) s (i + 1) (IntKind.i64.wrap (IntKind.i64.wrap (10 * n) + loB (chr s i))) = decN (zT s) s := by
  rw [z_at rfl rfl hi, if_neg h1, wrap_lo, Int.mul_comm] at h
  exact h
theorem zz_end (h : decAt (zT s) s i n = decN (zT s) s) (hi : s.size ≤ i) (h1 : ¬hiB (chr s (s.size - 1)) < 10) : zonedV s = (⟨if hiB (chr s (s.size - 1)) = 11 ∨ hiB (chr s (s.size - 1)) = 13 then IntKind.i64.wrap (-n) else n, ⟨#[]⟩⟩, 0, 0) := by
  rw [z_end rfl hi, if_neg h1, Int.zero_sub] at h
  unfold zonedV; rw [← h]
end
def packedV (t : DType) (s : ByteArray) : Val × Int × Int := (⟨(decN t s).1, ⟨#[]⟩⟩, (decN t s).2.1, (decN t s).2.2)
def halfAt (s : ByteArray) (i : Nat) : Int := if i % 2 = 1 then loB (chr s (i / 2)) else hiB (chr s (i / 2))
theorem half_le (s : ByteArray) (i : Nat) : 0 ≤ halfAt s i ∧ halfAt s i ≤ 15 := by
  unfold halfAt
  split
  · exact lo_le _ _
  · exact hi_le _ _
section
variable {t : DType} {s : ByteArray} {i : Nat} {n : Int}
theorem pp_bad (hk : t.kind = 1) (hs : (s.size : Int) = t.length / 2 + 1) (h0 : 0 ≤ t.length) (h : decAt t s i n = decN t s) (hi : i < 2 * s.size) (h1 : (i ≠ 2 * s.size - 1 ∧ 9 < halfAt s i) ∨ (i = 2 * s.size - 1 ∧ halfAt s i < 10) ∨ (i = 0 ∧ t.length % 2 = 0 ∧ halfAt s i ≠ 0)) : packedV t s = (zVal, ((i / 2 : Nat) : Int), 21) := by
  have e : decN t s = (0, ((i / 2 : Nat) : Int), 21) := by
    rw [← h]
    by_cases e : i = 2 * s.size - 1
    · have hb : halfAt s i < 10 := by
        rcases h1 with a | a | a
        · exact absurd e a.1
        · exact a.2
        · omega
      unfold halfAt at hb
      rw [if_pos (by omega), show i / 2 = s.size - 1 by omega] at hb
      rw [p_end hk (by omega) (by omega), if_pos hb]
      congr 2
      omega
    · rw [p_at hk hs h0 (by omega), if_pos]
      rcases h1 with a | a | a
      · exact .inl a.2
      · exact absurd a.1 e
      · refine .inr ⟨a.1, a.2.1, ?_⟩
        have := a.2.2
        rw [a.1] at this
        exact this
  unfold packedV; rw [e]; rfl
theorem pp_next (hk : t.kind = 1) (hs : (s.size : Int) = t.length / 2 + 1) (h0 : 0 ≤ t.length) (h : decAt t s i n = decN t s) (hi : i < 2 * s.size - 1) (h1 : ¬9 < halfAt s i) (h2 : ¬(i = 0 ∧ t.length % 2 = 0 ∧ halfAt s i ≠ 0)) : decAt t s (i + 1) (IntKind.i64.wrap (IntKind.i64.wrap (10 * n) + halfAt s i)) = decN t s := by
  have hl := half_le s i
  rw [p_at hk hs h0 hi, if_neg] at h
  · rw [Int.mul_comm 10, ← h]
    show _ = decAt t s (i + 1) (IntKind.i64.wrap (IntKind.i64.wrap (n * 10) + IntKind.i64.wrap (halfAt s i)))
    rw [w64 (n := halfAt s i) (by omega) (by omega)]
  · rintro (a | a)
    · exact h1 a
    · refine h2 ⟨a.1, a.2.1, ?_⟩
      rw [a.1]; exact a.2.2
theorem pp_end (hk : t.kind = 1) (h : decAt t s i n = decN t s) (hi : i = 2 * s.size - 1) (h0 : 0 < s.size) (h1 : ¬halfAt s i < 10) : decN t s = (if halfAt s i = 11 ∨ halfAt s i = 13 then IntKind.i64.wrap (-n) else n, 0, 0) := by
  have e : halfAt s i = loB (chr s (s.size - 1)) := by
    unfold halfAt; rw [if_pos (by omega), show i / 2 = s.size - 1 by omega]
  rw [e] at h1 ⊢
  rw [p_end hk h0 (by omega), if_neg h1, Int.zero_sub] at h
  exact h.symm
end
section
variable {t : DType} {s : ByteArray} {n : Int}
theorem dv_type (h : ¬typeErr t = 0) : decodeV t s = (zVal, 0, typeErr t) := by unfold decodeV; rw [if_pos h]
theorem dv_ptr (h0 : typeErr t = 0) (h : t.kind = 4) : decodeV t s = (zVal, 0, 17) := by unfold decodeV; rw [if_neg (fun e => e h0), if_pos h]
theorem dv_len (h0 : typeErr t = 0) (h : ¬t.kind = 4) (h2 : ¬(s.size : Int) = sizeN t) : decodeV t s = (zVal, 0, 18) := by unfold decodeV; rw [if_neg (fun e => e h0), if_neg h, if_pos h2]
theorem dv_chr (h0 : typeErr t = 0) (h2 : (s.size : Int) = sizeN t) (k : t.kind = 0) : decodeV t s = (⟨0, s⟩, 0, 0) := by unfold decodeV; rw [if_neg (fun e => e h0), if_neg (by omega), if_neg (fun e => e h2), if_pos k]
theorem halvL_kind {t t' : DType} (h : t.kind = t'.kind) (b : ByteArray) : ∀ i, halvL t b i = halvL t' b i
  | 0 => rfl
  | i + 1 => by simp only [halvL, halvL_kind h b i, h]
theorem halvA_kind {t t' : DType} (h : t.kind = t'.kind) : ∀ i, halvA t i = halvA t' i
  | 0 => rfl
  | i + 1 => by simp only [halvA, halvA_kind h i, h]
theorem halves_kind {t t' : DType} (h : t.kind = t'.kind) (b : ByteArray) : halves t b = halves t' b := by
  unfold halves; simp only [halvL_kind h, halvA_kind h, h]
theorem dv_zoned (h0 : typeErr t = 0) (h2 : (s.size : Int) = sizeN t) (k : t.kind = 2) : decodeV t s = zonedV s := by
  have hl : t.length = s.size := by rw [h2]; unfold sizeN; rw [if_neg (by omega), if_neg (by omega), if_neg (by omega)]
  have e : decN t s = decN (zT s) s := by
    unfold decN
    rw [halves_kind (t := t) (t' := zT s) k, hl]
    rfl
  unfold decodeV zonedV
  rw [if_neg (fun e => e h0), if_neg (by omega), if_neg (fun e => e h2), if_neg (by omega), if_neg (by omega), e]
theorem dv_packed (h0 : typeErr t = 0) (h2 : (s.size : Int) = sizeN t) (k : t.kind = 1) : decodeV t s = packedV t s := by
  unfold decodeV packedV
  rw [if_neg (fun e => e h0), if_neg (by omega), if_neg (fun e => e h2), if_neg (by omega), if_neg (by omega)]
theorem dv_bin (h0 : typeErr t = 0) (h2 : (s.size : Int) = sizeN t) (k : t.kind = 3) (hn : binN s = n) (h : -(p10 t.length - 1) ≤ n ∧ n ≤ p10 t.length - 1) : decodeV t s = (⟨n, ⟨#[]⟩⟩, 0, 0) := by
  have hv : valueErr t ⟨binN s, ⟨#[]⟩⟩ = 0 := by
    unfold valueErr
    rw [if_neg (fun e => e h0), if_neg (by omega), if_neg (by omega), if_neg (fun e => e rfl), hn, if_neg (fun e => e h)]
  unfold decodeV
  rw [if_neg (fun e => e h0), if_neg (by omega), if_neg (fun e => e h2), if_neg (by omega), if_pos k, if_neg (fun e => e hv), hn]
theorem dv_over (h0 : typeErr t = 0) (h2 : (s.size : Int) = sizeN t) (k : t.kind = 3) (hn : binN s = n) (h : ¬(-(p10 t.length - 1) ≤ n ∧ n ≤ p10 t.length - 1)) : decodeV t s = (zVal, 0, 19) := by
  have hv : valueErr t ⟨binN s, ⟨#[]⟩⟩ = 19 := by
    unfold valueErr
    rw [if_neg (fun e => e h0), if_neg (by omega), if_neg (by omega), if_neg (fun e => e rfl), hn, if_pos h]
  unfold decodeV
  rw [if_neg (fun e => e h0), if_neg (by omega), if_neg (fun e => e h2), if_neg (by omega), if_pos k, hv, if_pos (by decide)]
end
theorem shl_2 : IntKind.i64.wrap (1 * 2 ^ min (8 * ((2 : Nat) : Int)).toNat 64) = 65536 := by decide +kernel
theorem shl_4 : IntKind.i64.wrap (1 * 2 ^ min (8 * ((4 : Nat) : Int)).toNat 64) = 4294967296 := by decide +kernel
theorem big_2 (s : ByteArray) : 0 ≤ bigAt s 0 2 ∧ bigAt s 0 2 < 65536 := bigAt_le s 0 (by decide)
theorem big_4 (s : ByteArray) : 0 ≤ bigAt s 0 4 ∧ bigAt s 0 4 < 4294967296 := bigAt_le s 0 (by decide)
theorem wbig_2 (s : ByteArray) : IntKind.i64.wrap (bigAt s 0 2 - 65536) = bigAt s 0 2 - 65536 := w64 (by have := big_2 s; omega) (by have := big_2 s; omega)
theorem wbig_4 (s : ByteArray) : IntKind.i64.wrap (bigAt s 0 4 - 4294967296) = bigAt s 0 4 - 4294967296 := w64 (by have := big_4 s; omega) (by have := big_4 s; omega)
theorem wneg_p (n : Int) : IntKind.i64.wrap (0 - (p10 n - 1)) = -(p10 n - 1) := by
  have := p10_le n
  rw [w64 (by omega) (by omega)]; omega
end Go.Ev

namespace Go.Ev
def idxI (l : List Field) (name : ByteArray) : Int := match idxF l name with
  | some i => i
  | none => -1
section
variable {l : List Field} {name : ByteArray} {i : Nat}
theorem idxF_yes (h : idxF (l.take i) name = none) (hi : i < l.length) (e : (l.getD i zField).name = name) : idxF l name = some i := by
  unfold idxF at h ⊢
  rw [← List.take_append_drop i l, List.findIdx?_append, h, drop_getD zField hi, List.findIdx?_cons]
  have hl : (l.take i).length = i := by rw [List.length_take]; omega
  have e' : decide ((l.getD i zField).name = name) = true := by simpa using e
  rw [e', hl, if_pos rfl]
  simp
theorem idxI_yes (h : idxF (l.take i) name = none) (hi : i < l.length) (e : (l.getD i zField).name = name) : idxI l name = i := by
  unfold idxI; rw [idxF_yes h hi e]
theorem idxI_no (h : idxF (l.take i) name = none) (hi : l.length ≤ i) : idxI l name = -1 := by
  rw [List.take_of_length_le hi] at h
  unfold idxI; rw [h]
theorem idxF_lt {j : Nat} (h : idxF l name = some j) : j < l.length := by
  unfold idxF at h
  rw [List.findIdx?_eq_some_iff_getElem] at h
  exact h.1
theorem at_is (l : List Field) (name : ByteArray) : (atF l name).2.2 = (idxF l name).isSome := by
  unfold atF; split <;> simp_all
theorem idxI_dup (hi : i < l.length) : idxI l (l.getD i zField).name < i ↔ (atF (l.take i) (l.getD i zField).name).2.2 = true := by
  rw [at_is]
  cases h : idxF (l.take i) (l.getD i zField).name with
  | none => rw [idxI_yes h hi rfl]; simp
  | some j =>
    have hj := idxF_lt h
    rw [List.length_take] at hj
    have e : idxF l (l.getD i zField).name = some j := by
      generalize (l.getD i zField).name = nm at h
      unfold idxF at h ⊢
      rw [← List.take_append_drop i l, List.findIdx?_append, h]
      rfl
    unfold idxI
    rw [e]
    simp
    omega
theorem idxI_none : idxI l name = -1 ↔ (atF l name).2.2 = false := by
  rw [at_is]
  unfold idxI
  cases h : idxF l name with
  | none => simp
  | some j => simp
theorem fe_name (h : isName (l.getD i zField).name = false) : fieldE l i = 7 := by unfold fieldE; rw [if_pos h]
theorem fe_dup (hi : i < l.length) (h : ¬isName (l.getD i zField).name = false) (h2 : idxI l (l.getD i zField).name < i) : fieldE l i = 13 := by
  unfold fieldE; rw [if_neg h, if_pos ((idxI_dup hi).1 h2)]
theorem fe_rest (hi : i < l.length) (h : ¬isName (l.getD i zField).name = false) (h2 : (i : Int) ≤ idxI l (l.getD i zField).name) : fieldE l i = if typeErr (l.getD i zField).type_ ≠ 0 then typeErr (l.getD i zField).type_ else if (l.getD i zField).type_.kind = 4 then 17 else 0 := by
  have : ¬(atF (l.take i) (l.getD i zField).name).2.2 = true := fun e => by have := (idxI_dup hi).2 e; omega
  unfold fieldE; rw [if_neg h, if_neg this]
theorem fe_type (hi : i < l.length) (h : ¬isName (l.getD i zField).name = false) (h2 : (i : Int) ≤ idxI l (l.getD i zField).name) (h3 : ¬typeErr (l.getD i zField).type_ = 0) : fieldE l i = typeErr (l.getD i zField).type_ := by
  rw [fe_rest hi h h2, if_pos h3]
theorem fe_ptr (hi : i < l.length) (h : ¬isName (l.getD i zField).name = false) (h2 : (i : Int) ≤ idxI l (l.getD i zField).name) (h3 : typeErr (l.getD i zField).type_ = 0) (h4 : (l.getD i zField).type_.kind = 4) : fieldE l i = 17 := by
  rw [fe_rest hi h h2, if_neg (fun e => e h3), if_pos h4]
theorem fe_ok (hi : i < l.length) (h : ¬isName (l.getD i zField).name = false) (h2 : (i : Int) ≤ idxI l (l.getD i zField).name) (h3 : typeErr (l.getD i zField).type_ = 0) (h4 : ¬(l.getD i zField).type_.kind = 4) : fieldE l i = 0 := by
  rw [fe_rest hi h h2, if_neg (fun e => e h3), if_neg h4]
def fieldsC (l : List Field) : Int × Int := if l.length = 0 then (0, 1) else if 20 < l.length then (0, 2) else match firstBad (fieldE l) l.length with
  | some i => (i, fieldE l i)
  | none => (0, if 200 < offTo l l.length then 18 else 0)
theorem fmt_name {f : Fmt} (h : isName f.name = false) : fmtErr f = (0, 7) := by unfold fmtErr; rw [if_pos h]
theorem fmt_fields {f : Fmt} (h : ¬isName f.name = false) : fmtErr f = fieldsC f.fields := by unfold fmtErr fieldsC; rw [if_neg h]; rfl
theorem fields_0 (h : (l.length : Int) = 0) : fieldsC l = (0, 1) := by unfold fieldsC; rw [if_pos (by omega)]
theorem fields_20 (h : 20 < (l.length : Int)) : fieldsC l = (0, 2) := by unfold fieldsC; rw [if_neg (by omega), if_pos (by omega)]
theorem fields_bad (h0 : 1 ≤ l.length ∧ l.length ≤ 20) (h : ∀ j, j < i → fieldE l j = 0) (hi : i < l.length) (hg : ¬fieldE l i = 0) : fieldsC l = ((i : Int), fieldE l i) := by
  unfold fieldsC; rw [if_neg (by omega), if_neg (by omega), firstBad_some h hi hg]
theorem fields_end (h0 : 1 ≤ l.length ∧ l.length ≤ 20) (h : ∀ j, j < i → fieldE l j = 0) (hi : l.length ≤ i) : fieldsC l = (0, if 200 < offTo l l.length then 18 else 0) := by
  unfold fieldsC; rw [if_neg (by omega), if_neg (by omega), firstBad_none fun j hj => h j (by omega)]
theorem types_of (h : ∀ j, j < i → fieldE l j = 0) (hi : l.length ≤ i) : ∀ j, j < l.length → typeErr (l.getD j zField).type_ = 0 := fun j hj => (fieldE_ok (h j (by omega))).1
theorem types_fmt {f : Fmt} (h : (fmtErr f).2 = 0) : ∀ j, j < f.fields.length → typeErr (f.fields.getD j zField).type_ = 0 := fun j hj => (fieldE_ok ((fmt_ok h).2.2.2.1 j hj)).1
theorem off_step (h : ∀ j, j < l.length → typeErr (l.getD j zField).type_ = 0) (hi : i < l.length) : offTo l (i + 1) = offTo l i + sizeN (l.getD i zField).type_ := by
  simp only [offTo, widthF, if_pos (h i hi)]
end
section
variable {f : File} {i k : Nat}
def keysC (f : File) : Int × Int := if 4 < f.keys.length then (0, 2) else match firstBad (keyE f) f.keys.length with
  | some i => (i, keyE f i)
  | none => (0, 0)
theorem file_name (h : isName f.name = false) : fileErr f = (0, 7) := by unfold fileErr; rw [if_pos h]
theorem file_fmt (h : ¬isName f.name = false) (h2 : ¬(fmtErr f.format).2 = 0) : fileErr f = (0, (fmtErr f.format).2) := by unfold fileErr; rw [if_neg h, if_pos h2]
theorem file_keys (h : ¬isName f.name = false) (h2 : (fmtErr f.format).2 = 0) : fileErr f = keysC f := by unfold fileErr keysC; rw [if_neg h, if_neg (fun e => e h2)]; rfl
theorem keys_4 (h : 4 < (f.keys.length : Int)) : keysC f = (0, 2) := by unfold keysC; rw [if_pos (by omega)]
theorem keys_bad (h0 : f.keys.length ≤ 4) (h : ∀ j, j < i → keyE f j = 0) (hi : i < f.keys.length) (hg : ¬keyE f i = 0) : keysC f = ((i : Int), keyE f i) := by
  unfold keysC; rw [if_neg (by omega), firstBad_some h hi hg]
theorem keys_end (h0 : f.keys.length ≤ 4) (h : ∀ j, j < i → keyE f j = 0) (hi : f.keys.length ≤ i) : keysC f = (0, 0) := by
  unfold keysC; rw [if_neg (by omega), firstBad_none fun j hj => h j (by omega)]
theorem ke_miss (h : idxI f.format.fields (f.keys.getD i zKField).name = -1) : keyE f i = 11 := by unfold keyE; rw [if_pos (idxI_none.1 h)]
theorem ke_dup (h : ¬idxI f.format.fields (f.keys.getD i zKField).name = -1) (hk : k < i) (hi : i < f.keys.length) (e : (f.keys.getD k zKField).name = (f.keys.getD i zKField).name) : keyE f i = 13 := by
  have h1 : (f.keys.take i).any (fun k => decide (k.name = (f.keys.getD i zKField).name)) = true := by
    rw [List.any_eq_true]
    refine ⟨f.keys.getD k zKField, ?_, by simpa using e⟩
    have : f.keys.getD k zKField = (f.keys.take i)[k]'(by rw [List.length_take]; omega) := by
      simp [List.getD, List.getElem?_eq_getElem (show k < f.keys.length by omega)]
    rw [this]
    exact List.getElem_mem _
  unfold keyE
  rw [if_neg (fun q => h (idxI_none.2 q)), if_pos h1]
def keySame (f : File) (i k : Nat) : Int := if (f.keys.getD k zKField).name = (f.keys.getD i zKField).name then 1 else 0
theorem ks_no (h : ¬(f.keys.getD k zKField).name = (f.keys.getD i zKField).name) : keySame f i k = 0 := by unfold keySame; rw [if_neg h]
theorem ke_ok (h : ¬idxI f.format.fields (f.keys.getD i zKField).name = -1) (hk : ∀ j, j < k → keySame f i j = 0) (hi : i ≤ k) : keyE f i = 0 := by
  have h1 : ¬(f.keys.take i).any (fun k => decide (k.name = (f.keys.getD i zKField).name)) = true := by
    rw [List.any_eq_true]
    rintro ⟨x, hx, e⟩
    obtain ⟨j, hj, rfl⟩ := List.getElem_of_mem hx
    rw [List.length_take] at hj
    have := hk j (by omega)
    unfold keySame at this
    have ej : f.keys.getD j zKField = (f.keys.take i)[j]'(by rw [List.length_take]; omega) := by
      simp [List.getD, List.getElem?_eq_getElem (show j < f.keys.length by omega)]
    rw [if_pos (by rw [ej]; simpa using e)] at this
    cases this
  unfold keyE
  rw [if_neg (fun q => h (idxI_none.2 q)), if_neg h1]
end
theorem part_ext {f : Fmt} {b : ByteArray} {i : Nat} (h : typeErr (f.fields.getD i zField).type_ = 0) : b.extract (offTo f.fields i).toNat (offTo f.fields i + sizeN (f.fields.getD i zField).type_).toNat = partB f b i := by
  unfold partB
  simp only [offTo, widthF, if_pos h]
theorem part_fit {f : Fmt} {b : ByteArray} {i : Nat} (hs : (b.size : Int) = sizeF f) (hi : i < f.fields.length) (h : typeErr (f.fields.getD i zField).type_ = 0) : 0 ≤ offTo f.fields i ∧ offTo f.fields i + sizeN (f.fields.getD i zField).type_ ≤ (b.size : Int) := by
  have h1 := part_in hs hi
  unfold widthF at h1
  rw [if_pos h] at h1
  exact ⟨(offTo_ok f.fields i).1, h1⟩
theorem dec_badE {f : Fmt} {b : ByteArray} {i : Nat} (h0 : (fmtErr f).2 = 0) (hs : (b.size : Int) = sizeF f) (h : ∀ j, j < i → partE f b j = 0) (hi : i < f.fields.length) (hg : ¬partE f b i = 0) : valuesC f b = ([], (i : Int), partE f b i) := by
  rw [val_dec h0 hs, dec_bad h hi hg]
theorem dec_endE {f : Fmt} {b : ByteArray} {i : Nat} (h0 : (fmtErr f).2 = 0) (hs : (b.size : Int) = sizeF f) (h : ∀ j, j < i → partE f b j = 0) (hi : f.fields.length ≤ i) : valuesC f b = (valsTo f b f.fields.length, 0, 0) := by
  rw [val_dec h0 hs, dec_end h hi]
theorem tab_file {t : Table} (h : ¬(fileErr t.file).2 = 0) : tableErr t = (0, (fileErr t.file).2) := by unfold tableErr; rw [if_pos h]
theorem tab_60 {t : Table} (h : (fileErr t.file).2 = 0) (h2 : 60 < (t.records.length : Int)) : tableErr t = (0, 2) := by unfold tableErr; rw [if_neg (fun e => e h), if_pos (by omega)]
def isThere (t : Table) (n : Int) : Bool := decide (1 ≤ n) && decide (n ≤ (t.records.length : Int)) && !(t.records.getD (n - 1).toNat zRec).deleted
theorem refChg (t : Table) (c : Change) : chgErr t c =
    if ¬(tableErr t).2 = 0 then (tableErr t).2 else if ¬c.file = t.file.name then 11 else if ¬(0 ≤ c.kind ∧ c.kind ≤ 2) then 4
    else if ¬(1 ≤ c.rrn ∧ c.rrn ≤ (t.records.length : Int) + if c.kind = 0 then 1 else 0) then 3
    else if (c.kind = 0 ∧ ¬c.before = ⟨#[]⟩) ∨ (c.kind = 2 ∧ ¬c.after = ⟨#[]⟩) then 5
    else if c.kind = 0 ∧ isThere t c.rrn = true then 12 else if c.kind = 0 ∧ 60 < c.rrn then 30
    else if ¬c.kind = 0 ∧ isThere t c.rrn = false then 11
    else if ¬c.kind = 0 ∧ ¬(t.records.getD (c.rrn - 1).toNat zRec).bytes = c.before then 15
    else if c.kind = 2 then 0 else (valuesC t.file.format c.after).2.2 := by
  have hff : formBad c = false ↔ ¬((c.kind = 0 ∧ ¬c.before = ⟨#[]⟩) ∨ (c.kind = 2 ∧ ¬c.after = ⟨#[]⟩)) := by
    simp only [formBad, Bool.or_eq_false_iff, Bool.and_eq_false_iff]
    simp
    grind
  have h0 : chHead t c = if ¬(tableErr t).2 = 0 then (tableErr t).2 else if ¬c.file = t.file.name then 11 else if ¬(0 ≤ c.kind ∧ c.kind ≤ 2) then 4
    else if ¬(1 ≤ c.rrn ∧ c.rrn ≤ (t.records.length : Int) + if c.kind = 0 then 1 else 0) then 3
    else if (c.kind = 0 ∧ ¬c.before = ⟨#[]⟩) ∨ (c.kind = 2 ∧ ¬c.after = ⟨#[]⟩) then 5 else 0 := by
    unfold chHead mostAt
    by_cases a : (tableErr t).2 = 0
    · by_cases b : c.file = t.file.name
      · by_cases d : 0 ≤ c.kind ∧ c.kind ≤ 2
        · have d1 : ¬(c.kind < 0 ∨ 3 ≤ c.kind) := by omega
          have e1 : (c.rrn < 1 ∨ (if c.kind = 0 then (t.records.length : Int) + 1 else (t.records.length : Int)) < c.rrn) ↔ ¬(1 ≤ c.rrn ∧ c.rrn ≤ (t.records.length : Int) + if c.kind = 0 then 1 else 0) := by
            split <;> omega
          simp only [ne_eq, a, b, d, d1, e1, true_and, not_true, if_false]
          by_cases g : (c.kind = 0 ∧ ¬c.before = ⟨#[]⟩) ∨ (c.kind = 2 ∧ ¬c.after = ⟨#[]⟩)
          · have g1 : formBad c = true := by cases q : formBad c with | true => rfl | false => exact absurd g (hff.1 q)
            simp only [g, g1, if_true]
          · have g1 : formBad c = false := hff.2 g
            simp only [g, g1, if_false, Bool.false_eq_true]
        · have d1 : c.kind < 0 ∨ 3 ≤ c.kind := by omega
          simp only [ne_eq, a, b, d, d1, not_true, not_false_iff, if_false, if_true]
      · simp only [ne_eq, a, b, not_true, not_false_iff, if_false, if_true]
    · simp only [ne_eq, a, not_false_iff, if_true]
  by_cases a : (tableErr t).2 = 0
  · rw [if_neg (fun e => e a)] at h0 ⊢
    by_cases b : c.file = t.file.name
    · rw [if_neg (fun e => e b)] at h0 ⊢
      by_cases d : 0 ≤ c.kind ∧ c.kind ≤ 2
      · rw [if_neg (fun e => e d)] at h0 ⊢
        by_cases e : 1 ≤ c.rrn ∧ c.rrn ≤ (t.records.length : Int) + if c.kind = 0 then 1 else 0
        · rw [if_neg (fun q => q e)] at h0 ⊢
          by_cases g : (c.kind = 0 ∧ ¬c.before = ⟨#[]⟩) ∨ (c.kind = 2 ∧ ¬c.after = ⟨#[]⟩)
          · rw [if_pos g] at h0 ⊢
            rw [chgErr_head (by rw [h0]; decide), h0]
          · rw [if_neg g] at h0 ⊢
            have hth : isThere t c.rrn = !goneAt t c := by
              unfold isThere goneAt recAt
              by_cases q : c.rrn = (t.records.length : Int) + 1
              · have q2 : ¬c.rrn ≤ (t.records.length : Int) := by omega
                rw [show decide (c.rrn ≤ (t.records.length : Int)) = false by simpa using q2, show decide (c.rrn = (t.records.length : Int) + 1) = true by simpa using q]
                simp
              · have q2 : c.rrn ≤ (t.records.length : Int) := by split at e <;> omega
                rw [show decide (c.rrn ≤ (t.records.length : Int)) = true by simpa using q2, show decide (c.rrn = (t.records.length : Int) + 1) = false by simpa using q, show decide (1 ≤ c.rrn) = true by simpa using e.1]
                simp
            unfold chgErr placeErr recAt
            rw [hth, if_neg (fun q => q h0)]
            by_cases k : c.kind = 0
            · have k2 : ¬c.kind = 2 := by omega
              cases hg : goneAt t c
              · simp [k, firstE]
              · by_cases q : 60 < c.rrn
                · simp [k, firstE, q]
                · simp [k, firstE, q]
            · cases hg : goneAt t c
              · by_cases q : (t.records.getD (c.rrn - 1).toNat zRec).bytes = c.before
                · simp only [k, q, if_false, false_and, Bool.not_false, not_true, and_false, true_and, Bool.false_eq_true, ne_eq, false_or, Bool.true_eq_false]
                · simp only [k, q, if_false, false_and, Bool.not_false, not_true, and_false, true_and, Bool.false_eq_true, ne_eq, false_or, Bool.true_eq_false, not_false_iff, if_true]
                  simp
              · simp [k]
        · rw [if_pos e] at h0 ⊢
          rw [chgErr_head (by rw [h0]; decide), h0]
      · rw [if_pos d] at h0 ⊢
        rw [chgErr_head (by rw [h0]; decide), h0]
    · rw [if_pos b] at h0 ⊢
      rw [chgErr_head (by rw [h0]; decide), h0]
  · rw [if_pos a] at h0 ⊢
    rw [chgErr_head (by rw [h0]; exact a), h0]
def revC (c : Change) : Change := ⟨c.file, revKind c.kind, c.rrn, c.after, c.before⟩
theorem revC_eq {c : Change} (h : c.kind = 0 ∨ c.kind = 1 ∨ c.kind = 2) : (reversedC c).1 = revC c := by
  unfold reversedC revC
  rw [if_pos (by omega)]
def dbErr (l : List Table) : Int × Int := if 8 < l.length then (0, 2) else match firstBad (tabE l) l.length with
  | some i => (i, tabE l i)
  | none => (0, 0)
theorem db_snd (l : List Table) : (dbErr l).2 = tablesErr l := by
  unfold dbErr tablesErr
  split
  · rfl
  · cases firstBad (tabE l) l.length <;> rfl
section
variable {l : List Table} {i : Nat}
theorem db_many (h : 8 < (l.length : Int)) : dbErr l = (0, 2) := by unfold dbErr; rw [if_pos (by omega)]
theorem db_bad (h8 : l.length ≤ 8) (h : ∀ j, j < i → tabE l j = 0) (hi : i < l.length) (hg : ¬tabE l i = 0) : dbErr l = ((i : Int), tabE l i) := by
  unfold dbErr
  rw [if_neg (by omega), firstBad_some h hi hg]
theorem db_end (h8 : l.length ≤ 8) (h : ∀ j, j < i → tabE l j = 0) (hi : l.length ≤ i) : dbErr l = (0, 0) := by
  unfold dbErr
  rw [if_neg (by omega), firstBad_none fun j hj => h j (by omega)]
end
end Go.Ev

namespace Go.Ev
open Go.Proofs Ty
set_option maxRecDepth 10000
set_option maxHeartbeats 4000000
set_option linter.unusedSimpArgs false
set_option linter.unusedVariables false
noncomputable def e179 : List O → Option (Prop × O)
  | [.d x_t] => match decDType x_t with
    | some t => some (typeErr t = 0, .d (.i .i64 (sizeN t)))
    | _ => none
  | _ => none
noncomputable def tab179 : FuncId → List O → Option (Prop × O) := addT tab27 179 e179
noncomputable def e180 : List O → Option (Prop × O)
  | [.d (.s s), .d (.i .i64 a), .d (.i .i64 n)] => some (0 ≤ a ∧ 0 ≤ n ∧ a + n ≤ s.size ∧ s.size ≤ 1000, .d (.i .i64 (bigAt s a.toNat n.toNat)))
  | _ => none
noncomputable def tab180 : FuncId → List O → Option (Prop × O) := addT tab179 180 e180
noncomputable def e195 : List O → Option (Prop × O)
  | [.d (.i .i64 n)] => some (0 ≤ n ∧ n ≤ 18, .d (.i .i64 (p10 n)))
  | _ => none
noncomputable def tab195 : FuncId → List O → Option (Prop × O) := addT tab180 195 e195
noncomputable def e194 : List O → Option (Prop × O)
  | [.d (.i .i64 k)] => some (True, .d (.b (decide (1 ≤ k) && decide (k ≤ 3))))
  | _ => none
noncomputable def tab194 : FuncId → List O → Option (Prop × O) := addT tab195 194 e194
noncomputable def e196 : List O → Option (Prop × O)
  | [.d (.i .i64 n), .d (.i .i64 h)] => some (True, .tup [.d (.i .i64 (if h = 11 ∨ h = 13 then IntKind.i64.wrap (-n) else n)), .d (.b (decide (10 ≤ h)))])
  | _ => none
noncomputable def tab196 : FuncId → List O → Option (Prop × O) := addT tab194 196 e196
noncomputable def e178 : List O → Option (Prop × O)
  | [.d x_t] => match decDType x_t with
    | some t => some (True, .d (.i .i64 (typeErr t)))
    | _ => none
  | _ => none
noncomputable def tab178 : FuncId → List O → Option (Prop × O) := addT tab196 178 e178
noncomputable def e181 : List O → Option (Prop × O)
  | [.d x_t] => match decDType x_t with
    | some t => some (0 ≤ t.length ∧ t.length ≤ 18, .d (.i .i64 (p10 t.length - 1)))
    | _ => none
  | _ => none
noncomputable def tab181 : FuncId → List O → Option (Prop × O) := addT tab178 181 e181
noncomputable def e182 : List O → Option (Prop × O)
  | [.d (.s s)] => some (0 < s.size ∧ s.size ≤ 1000, .tup [.d (encVal (zonedV s).1), .d (.i .i64 (zonedV s).2.1), .d (.i .i64 (zonedV s).2.2)])
  | _ => none
noncomputable def tab182 : FuncId → List O → Option (Prop × O) := addT tab181 182 e182
noncomputable def e183 : List O → Option (Prop × O)
  | [.d x_t, .d (.s s)] => match decDType x_t with
    | some t => some (t.kind = 1 ∧ (s.size : Int) = t.length / 2 + 1 ∧ 0 ≤ t.length ∧ t.length ≤ 100, .tup [.d (encVal (packedV t s).1), .d (.i .i64 (packedV t s).2.1), .d (.i .i64 (packedV t s).2.2)])
    | _ => none
  | _ => none
noncomputable def tab183 : FuncId → List O → Option (Prop × O) := addT tab182 183 e183
noncomputable def e169 : List O → Option (Prop × O)
  | [.d x_t, .d (.s s)] => match decDType x_t with
    | some t => some (True, .tup [.d (encVal (decodeV t s).1), .d (.i .i64 (decodeV t s).2.1), .d (.i .i64 (decodeV t s).2.2)])
    | _ => none
  | _ => none
noncomputable def tab169 : FuncId → List O → Option (Prop × O) := addT tab183 169 e169
noncomputable def e193 : List O → Option (Prop × O)
  | [.d x_f, .d (.s name)] => match decFmt x_f with
    | some f => some (f.fields.length ≤ 1000000, .d (.i .i64 (idxI f.fields name)))
    | _ => none
  | _ => none
noncomputable def tab193 : FuncId → List O → Option (Prop × O) := addT tab169 193 e193
noncomputable def e177 : List O → Option (Prop × O)
  | [.d x_f] => match decFmt x_f with
    | some f => some (f.fields.length ≤ 1000000 ∧ (∀ j, j < f.fields.length → typeErr (f.fields.getD j zField).type_ = 0), .d (.i .i64 (sizeF f)))
    | _ => none
  | _ => none
noncomputable def tab177 : FuncId → List O → Option (Prop × O) := addT tab193 177 e177
noncomputable def e192 : List O → Option (Prop × O)
  | [.d x_f] => match decFmt x_f with
    | some f => some (f.fields.length ≤ 1000000, .tup [.d (.i .i64 (fieldsC f.fields).1), .d (.i .i64 (fieldsC f.fields).2)])
    | _ => none
  | _ => none
noncomputable def tab192 : FuncId → List O → Option (Prop × O) := addT tab177 192 e192
noncomputable def e175 : List O → Option (Prop × O)
  | [.d x_f] => match decFmt x_f with
    | some f => some (f.fields.length ≤ 1000000, .tup [.d (.i .i64 (fmtErr f).1), .d (.i .i64 (fmtErr f).2)])
    | _ => none
  | _ => none
noncomputable def tab175 : FuncId → List O → Option (Prop × O) := addT tab192 175 e175
noncomputable def e176 : List O → Option (Prop × O)
  | [.d x_f] => match decFile x_f with
    | some f => some (f.format.fields.length ≤ 1000000 ∧ f.keys.length ≤ 1000000, .tup [.d (.i .i64 (keysC f).1), .d (.i .i64 (keysC f).2)])
    | _ => none
  | _ => none
noncomputable def tab176 : FuncId → List O → Option (Prop × O) := addT tab175 176 e176
noncomputable def e166 : List O → Option (Prop × O)
  | [.d x_f] => match decFile x_f with
    | some f => some (f.format.fields.length ≤ 1000000 ∧ f.keys.length ≤ 1000000, .tup [.d (.i .i64 (fileErr f).1), .d (.i .i64 (fileErr f).2)])
    | _ => none
  | _ => none
noncomputable def tab166 : FuncId → List O → Option (Prop × O) := addT tab176 166 e166
noncomputable def e156 : List O → Option (Prop × O)
  | [.d x_f] => match decFile x_f with
    | some f => some (f.format.fields.length ≤ 1000000 ∧ f.keys.length ≤ 1000000, .d (.i .i64 (fileErr f).2))
    | _ => none
  | _ => none
noncomputable def tab156 : FuncId → List O → Option (Prop × O) := addT tab166 156 e156
noncomputable def e138 : List O → Option (Prop × O)
  | [.d x_f] => match decFile x_f with
    | some f => some (f.format.fields.length ≤ 1000000 ∧ f.keys.length ≤ 1000000, .d (.i .i64 (fileErr f).2))
    | _ => none
  | _ => none
noncomputable def tab138 : FuncId → List O → Option (Prop × O) := addT tab156 138 e138
noncomputable def e167 : List O → Option (Prop × O)
  | [.d x_f] => match decFmt x_f with
    | some f => some (f.fields.length ≤ 1000000, .d (.i .i64 (fmtErr f).2))
    | _ => none
  | _ => none
noncomputable def tab167 : FuncId → List O → Option (Prop × O) := addT tab138 167 e167
noncomputable def e168 : List O → Option (Prop × O)
  | [.d x_f] => match decFmt x_f with
    | some f => some (f.fields.length ≤ 1000000 ∧ (∀ j, j < f.fields.length → typeErr (f.fields.getD j zField).type_ = 0), .d (.i .i64 (sizeF f)))
    | _ => none
  | _ => none
noncomputable def tab168 : FuncId → List O → Option (Prop × O) := addT tab167 168 e168
noncomputable def e184 : List O → Option (Prop × O)
  | [.d x_f, .d (.i .i64 a)] => match decFmt x_f with
    | some f => some (f.fields.length ≤ 1000000 ∧ (∀ j, j < f.fields.length → typeErr (f.fields.getD j zField).type_ = 0) ∧ 0 ≤ a ∧ a ≤ (f.fields.length : Int), .d (.i .i64 (offTo f.fields a.toNat)))
    | _ => none
  | _ => none
noncomputable def tab184 : FuncId → List O → Option (Prop × O) := addT tab168 184 e184
noncomputable def e170 : List O → Option (Prop × O)
  | [.d x_f, .d (.s s), .d (.i .i64 a)] => match decFmt x_f with
    | some f => some (f.fields.length ≤ 1000000 ∧ (∀ j, j < f.fields.length → typeErr (f.fields.getD j zField).type_ = 0) ∧ 0 ≤ a ∧ a < (f.fields.length : Int) ∧ (s.size : Int) = sizeF f, .d (.s (partB f s a.toNat)))
    | _ => none
  | _ => none
noncomputable def tab170 : FuncId → List O → Option (Prop × O) := addT tab184 170 e170
noncomputable def e157 : List O → Option (Prop × O)
  | [.d x_f, .d (.s s)] => match decFmt x_f with
    | some f => some (f.fields.length ≤ 1000000, .tup [.d (.i .i64 (valuesC f s).2.1), .d (.i .i64 (valuesC f s).2.2)])
    | _ => none
  | _ => none
noncomputable def tab157 : FuncId → List O → Option (Prop × O) := addT tab170 157 e157
noncomputable def e139 : List O → Option (Prop × O)
  | [.d x_f, .d (.s s)] => match decFmt x_f with
    | some f => some (f.fields.length ≤ 1000000, .d (.i .i64 (valuesC f s).2.2))
    | _ => none
  | _ => none
noncomputable def tab139 : FuncId → List O → Option (Prop × O) := addT tab157 139 e139
noncomputable def e123 : List O → Option (Prop × O)
  | [.d x_t] => match decTable x_t with
    | some t => some ((t.file.format.fields.length ≤ 1000000 ∧ t.file.keys.length ≤ 1000000 ∧ t.records.length ≤ 1000000), .tup [.d (.i .i64 (tableErr t).1), .d (.i .i64 (tableErr t).2)])
    | _ => none
  | _ => none
noncomputable def tab123 : FuncId → List O → Option (Prop × O) := addT tab139 123 e123
noncomputable def e96 : List O → Option (Prop × O)
  | [.d x_t] => match decTable x_t with
    | some t => some ((t.file.format.fields.length ≤ 1000000 ∧ t.file.keys.length ≤ 1000000 ∧ t.records.length ≤ 1000000), .d (.i .i64 (tableErr t).2))
    | _ => none
  | _ => none
noncomputable def tab96 : FuncId → List O → Option (Prop × O) := addT tab123 96 e96
end Go.Ev

namespace Go.Ev
def decAnsB (l : List D) (n : Int) (u : D) (e : Int) : Option Ans := match decM decTable l, decL 1 (decI .i64) u with
  | some a, some b => some ⟨a, n, b, e⟩
  | _, _ => none
theorem decAnsB_le {T t : TypeId} {l : List D} {n : Int} {u : D} {e : Int} {x : Ans} (h : decAnsB l n u e = some x) : ole (.bx T [.own t 6 l, .d (.i .i64 n), .d u, .d (.i .i64 e)]) (.bx T [.own t 6 (x.tables.map encTable), .d (.i .i64 x.n), .d (.sl 1 (x.units.map (D.i .i64))), .d (.i .i64 x.err)]) := by
  unfold decAnsB at h
  split at h
  · rename_i h1 h2
    cases h
    exact ⟨rfl, ⟨rfl, rfl, decM_le decTable_le h1⟩, dle_refl _, decL_le decI_le h2, dle_refl _, trivial⟩
  · cases h
theorem dAnsB (x : Ans) : decAnsB (x.tables.map encTable) x.n (.sl 1 (x.units.map (D.i .i64))) x.err = some x := by
  unfold decAnsB
  rw [dM_Table, dL_int]
theorem dAnsB0 (l : List Table) (n e : Int) : decAnsB (l.map encTable) n .nil e = some ⟨l, n, [], e⟩ := by
  unfold decAnsB
  rw [dM_Table]; rfl
theorem dAnsB1 (l : List Table) (n e : Int) : decAnsB (l.map encTable) n (.sl 1 []) e = some ⟨l, n, [], e⟩ := by
  unfold decAnsB
  rw [dM_Table]; rfl
def stepT (s : List Table) (c : Change) : List Table := (mStep (s, 0) c).1
def doT (s : List Table) (c : Change) : List Table := if cond s c = 0 then stepT s c else s
theorem mStep_fst (s : List Table) (n m : Int) (c : Change) : (mStep (s, n) c).1 = (mStep (s, m) c).1 := by
  unfold mStep
  split <;> rfl
section
variable {s ts : List Table} {c : Change} {cs : List Change} {k : Nat}
theorem do_none (h : findT s c.file = -1) : cond s c = 0 ∧ doT s c = s := by
  have e : cond s c = 0 := by unfold cond; rw [if_pos (by omega)]
  refine ⟨e, ?_⟩
  unfold doT stepT mStep
  rw [if_pos e, if_pos (by simp only; omega)]
theorem do_err (h : ¬findT s c.file = -1) (h2 : ¬chgErr (s.getD (findT s c.file).toNat zTable) c = 0) : cond s c = chgErr (s.getD (findT s c.file).toNat zTable) c ∧ doT s c = s := by
  have := findT_lt s c.file
  have e : cond s c = chgErr (s.getD (findT s c.file).toNat zTable) c := by unfold cond; rw [if_neg (by omega)]
  refine ⟨e, ?_⟩
  unfold doT
  rw [if_neg (by rw [e]; exact h2)]
theorem do_set (h : ¬findT s c.file = -1) (h2 : chgErr (s.getD (findT s c.file).toNat zTable) c = 0) : cond s c = 0 ∧ doT s c = s.set (findT s c.file).toNat (withT (s.getD (findT s c.file).toNat zTable) c.rrn (recOf c)) := by
  have := findT_lt s c.file
  have e : cond s c = 0 := by unfold cond; rw [if_neg (by omega)]; exact h2
  refine ⟨e, ?_⟩
  unfold doT stepT mStep
  rw [if_pos e, if_neg (by simp only; omega)]
theorem mErr_cond : mErr ts cs k = cond (mTo ts cs k).1 (cs.getD k zChange) := rfl
theorem do_next (h : mErr ts cs k = 0) : doT (mTo ts cs k).1 (cs.getD k zChange) = (mTo ts cs (k + 1)).1 := by
  unfold doT stepT
  rw [if_pos (by rw [← mErr_cond]; exact h)]
  show _ = (mStep (mTo ts cs k) (cs.getD k zChange)).1
  exact mStep_fst _ _ _ _
theorem cnt_next : (mTo ts cs (k + 1)).2 = (mTo ts cs k).2 + if findT ts (cs.getD k zChange).file = -1 then 0 else 1 := by
  have hl := findT_lt ts (cs.getD k zChange).file
  show (mStep (mTo ts cs k) (cs.getD k zChange)).2 = _
  unfold mStep
  rw [mTo_find]
  by_cases h : findT ts (cs.getD k zChange).file = -1
  · rw [if_pos (by omega), if_pos h]; omega
  · rw [if_neg (by omega), if_neg h]
end
def ansOf (r : List Table × Int × Int) : Ans := ⟨r.1, r.2.1, [], r.2.2⟩
theorem ans_bad {ts : List Table} {cs : List Change} {k : Nat} (h : ∀ j, j < k → mErr ts cs j = 0) (hk : k < cs.length) (hg : ¬cond (mTo ts cs k).1 (cs.getD k zChange) = 0) : ansOf (madeT ts cs) = ⟨[], 0, [], cond (mTo ts cs k).1 (cs.getD k zChange)⟩ := by
  rw [made_bad h hk hg]; rfl
theorem ans_end {ts : List Table} {cs : List Change} {k : Nat} (h : ∀ j, j < k → mErr ts cs j = 0) (hk : k = cs.length) : ansOf (madeT ts cs) = ⟨(mTo ts cs k).1, (mTo ts cs k).2, [], 0⟩ := by
  rw [made_end h hk]; rfl
def backTo (w : Want) (l : List Entry) (j : Nat) : List Change := ((l.drop j).filter (takenE w)).reverse.map fun x => revC x.change
theorem back_yes {w : Want} {l : List Entry} {j : Nat} (hj : j < l.length) (h : takenE w (l.getD j zEntry) = true) : backTo w l j = backTo w l (j + 1) ++ [revC (l.getD j zEntry).change] := by
  unfold backTo
  rw [drop_getD zEntry hj, List.filter_cons, if_pos h, List.reverse_cons, List.map_append]
  rfl
theorem back_no {w : Want} {l : List Entry} {j : Nat} (hj : j < l.length) (h : ¬takenE w (l.getD j zEntry) = true) : backTo w l j = backTo w l (j + 1) := by
  unfold backTo
  rw [drop_getD zEntry hj, List.filter_cons, if_neg h]
theorem back_start {w : Want} {l : List Entry} {j : Nat} (hj : l.length ≤ j) : backTo w l j = [] := by
  unfold backTo; rw [List.drop_of_length_le hj]; rfl
theorem back_len (w : Want) (l : List Entry) (j : Nat) : (backTo w l j).length ≤ l.length := by
  unfold backTo
  rw [List.length_map, List.length_reverse]
  have := List.length_filter_le (takenE w) (l.drop j)
  rw [List.length_drop] at this
  omega
theorem back_end {w : Want} {l : List Entry} (h : (check l).2 = 0) : backTo w l 0 = changesOf w true l := by
  show _ = ((l.filter (takenE w)).map (chgOf true)).reverse
  unfold backTo
  rw [List.drop_zero, List.map_reverse]
  congr 1
  apply List.map_congr_left
  intro x hx
  obtain ⟨h1, h2⟩ := List.mem_filter.1 hx
  obtain ⟨j, hj, rfl⟩ := List.getElem_of_mem h1
  have hc := (check_all h hj).1
  simp only [List.getD, List.getElem?_eq_getElem hj, Option.getD_some] at hc
  have hk : (l[j]).kind = 0 := by
    unfold takenE at h2
    simp only [Bool.and_eq_true, decide_eq_true_eq] at h2
    exact h2.1
  exact (revC_eq (entry_kind hc hk)).symm
def firstN (l : List Entry) : Int := if l.length = 0 then 1 else (l.getD 0 zEntry).number
def lastNo (l : List Entry) : Int := if l.length = 0 then 9999 else (l.getD (l.length - 1) zEntry).number
section
variable {ts : List Table} {l : List Entry} {n : Int}
theorem bounds_A (l : List Entry) : leastA l = firstN l - 1 ∧ mostA l = lastNo l := by
  unfold leastA mostA firstN lastNo
  by_cases h : l.length = 0
  · have : ¬0 < l.length := by omega
    simp [h]
  · have : 0 < l.length := by omega
    simp [h, this]
theorem bounds_R (l : List Entry) : leastR l = firstN l ∧ mostR l = lastNo l + 1 := by
  unfold leastR mostR firstN lastNo
  by_cases h : l.length = 0
  · have : ¬0 < l.length := by omega
    simp [h]
  · have : 0 < l.length := by omega
    simp [h, this]
theorem bounds_le (h : (check l).2 = 0) : 1 ≤ firstN l ∧ firstN l ≤ 9999 ∧ 1 ≤ lastNo l ∧ lastNo l ≤ 9999 := by
  unfold firstN lastNo
  by_cases e : l.length = 0
  · simp [e]
  · rw [if_neg e, if_neg e]
    have a := num_chk h (j := 0) (by omega)
    have b := num_chk h (j := l.length - 1) (by omega)
    omega
theorem ans_err (h : ¬chkE ts l = 0) : ansOf (applyT ts l n) = ⟨[], 0, [], chkE ts l⟩ := by rw [apply_err h]; rfl
theorem ans_out (h : chkE ts l = 0) (h2 : n < firstN l - 1 ∨ lastNo l < n) : ansOf (applyT ts l n) = ⟨[], 0, [], 3⟩ := by
  rw [apply_out h (by have := bounds_A l; omega)]; rfl
theorem ans_in (h : chkE ts l = 0) (h2 : firstN l - 1 ≤ n ∧ n ≤ lastNo l) : ansOf (applyT ts l n) = ansOf (madeT ts (changesOf ⟨true, n⟩ false l)) := by
  rw [apply_in h (by have := bounds_A l; omega)]
theorem rem_err (h : ¬chkE ts l = 0) : ansOf (removeT ts l n) = ⟨[], 0, [], chkE ts l⟩ := by rw [remove_err h]; rfl
theorem rem_out (h : chkE ts l = 0) (h2 : n < firstN l ∨ lastNo l + 1 < n) : ansOf (removeT ts l n) = ⟨[], 0, [], 3⟩ := by
  rw [remove_out h (by have := bounds_R l; omega)]; rfl
theorem rem_in (h : chkE ts l = 0) (h2 : firstN l ≤ n ∧ n ≤ lastNo l + 1) : ansOf (removeT ts l n) = ansOf (madeT ts (changesOf ⟨false, n⟩ true l)) := by
  rw [remove_in h (by have := bounds_R l; omega)]
end
section
variable {t : Table} {c : Change}
theorem rc_0  (h : ¬(tableErr t).2 = 0) : chgErr t c = (tableErr t).2 := by rw [refChg, if_pos h]
theorem rc_1 (h0 : (tableErr t).2 = 0) (h : ¬c.file = t.file.name) : chgErr t c = 11 := by rw [refChg, if_neg (fun q => q h0), if_pos h]
theorem rc_2 (h0 : (tableErr t).2 = 0) (h1 : c.file = t.file.name) (h : c.kind < 0 ∨ 2 < c.kind) : chgErr t c = 4 := by rw [refChg, if_neg (fun q => q h0), if_neg (fun q => q h1), if_pos (by omega)]
theorem rc_3 (h0 : (tableErr t).2 = 0) (h1 : c.file = t.file.name) (h2 : 0 ≤ c.kind ∧ c.kind ≤ 2) (h : c.rrn < 1 ∨ ((t.records.length : Int) + if c.kind = 0 then 1 else 0) < c.rrn) : chgErr t c = 3 := by rw [refChg, if_neg (fun q => q h0), if_neg (fun q => q h1), if_neg (fun q => q h2), if_pos (by omega)]
theorem rc_4 (h0 : (tableErr t).2 = 0) (h1 : c.file = t.file.name) (h2 : 0 ≤ c.kind ∧ c.kind ≤ 2) (h3 : 1 ≤ c.rrn ∧ c.rrn ≤ (t.records.length : Int) + if c.kind = 0 then 1 else 0) (h : c.kind = 0 ∧ ¬c.before = ⟨#[]⟩ ∨ c.kind = 2 ∧ ¬c.after = ⟨#[]⟩) : chgErr t c = 5 := by rw [refChg, if_neg (fun q => q h0), if_neg (fun q => q h1), if_neg (fun q => q h2), if_neg (fun q => q h3), if_pos h]
theorem rc_5 (h0 : (tableErr t).2 = 0) (h1 : c.file = t.file.name) (h2 : 0 ≤ c.kind ∧ c.kind ≤ 2) (h3 : 1 ≤ c.rrn ∧ c.rrn ≤ (t.records.length : Int) + if c.kind = 0 then 1 else 0) (h4 : (¬c.kind = 0 ∨ c.before = ⟨#[]⟩) ∧ (¬c.kind = 2 ∨ c.after = ⟨#[]⟩)) (h : c.kind = 0 ∧ isThere t c.rrn = true) : chgErr t c = 12 := by rw [refChg, if_neg (fun q => q h0), if_neg (fun q => q h1), if_neg (fun q => q h2), if_neg (fun q => q h3), if_neg (fun q => q.elim (fun e => h4.1.elim (fun z => z e.1) e.2) (fun e => h4.2.elim (fun z => z e.1) e.2)), if_pos h]
theorem rc_6 (h0 : (tableErr t).2 = 0) (h1 : c.file = t.file.name) (h2 : 0 ≤ c.kind ∧ c.kind ≤ 2) (h3 : 1 ≤ c.rrn ∧ c.rrn ≤ (t.records.length : Int) + if c.kind = 0 then 1 else 0) (h4 : (¬c.kind = 0 ∨ c.before = ⟨#[]⟩) ∧ (¬c.kind = 2 ∨ c.after = ⟨#[]⟩)) (h5 : ¬c.kind = 0 ∨ isThere t c.rrn = false) (h : c.kind = 0 ∧ 60 < c.rrn) : chgErr t c = 30 := by rw [refChg, if_neg (fun q => q h0), if_neg (fun q => q h1), if_neg (fun q => q h2), if_neg (fun q => q h3), if_neg (fun q => q.elim (fun e => h4.1.elim (fun z => z e.1) e.2) (fun e => h4.2.elim (fun z => z e.1) e.2)), if_neg (fun q => h5.elim (fun z => z q.1) (fun z => by rw [z] at q; exact absurd q.2 (by decide))), if_pos h]
theorem rc_7 (h0 : (tableErr t).2 = 0) (h1 : c.file = t.file.name) (h2 : 0 ≤ c.kind ∧ c.kind ≤ 2) (h3 : 1 ≤ c.rrn ∧ c.rrn ≤ (t.records.length : Int) + if c.kind = 0 then 1 else 0) (h4 : (¬c.kind = 0 ∨ c.before = ⟨#[]⟩) ∧ (¬c.kind = 2 ∨ c.after = ⟨#[]⟩)) (h5 : ¬c.kind = 0 ∨ isThere t c.rrn = false) (h6 : ¬c.kind = 0 ∨ c.rrn ≤ 60) (h : ¬c.kind = 0 ∧ isThere t c.rrn = false) : chgErr t c = 11 := by rw [refChg, if_neg (fun q => q h0), if_neg (fun q => q h1), if_neg (fun q => q h2), if_neg (fun q => q h3), if_neg (fun q => q.elim (fun e => h4.1.elim (fun z => z e.1) e.2) (fun e => h4.2.elim (fun z => z e.1) e.2)), if_neg (fun q => h5.elim (fun z => z q.1) (fun z => by rw [z] at q; exact absurd q.2 (by decide))), if_neg (by omega), if_pos h]
theorem rc_8 (h0 : (tableErr t).2 = 0) (h1 : c.file = t.file.name) (h2 : 0 ≤ c.kind ∧ c.kind ≤ 2) (h3 : 1 ≤ c.rrn ∧ c.rrn ≤ (t.records.length : Int) + if c.kind = 0 then 1 else 0) (h4 : (¬c.kind = 0 ∨ c.before = ⟨#[]⟩) ∧ (¬c.kind = 2 ∨ c.after = ⟨#[]⟩)) (h5 : ¬c.kind = 0 ∨ isThere t c.rrn = false) (h6 : ¬c.kind = 0 ∨ c.rrn ≤ 60) (h7 : c.kind = 0 ∨ isThere t c.rrn = true) (h : ¬c.kind = 0 ∧ ¬(t.records.getD (c.rrn - 1).toNat zRec).bytes = c.before) : chgErr t c = 15 := by rw [refChg, if_neg (fun q => q h0), if_neg (fun q => q h1), if_neg (fun q => q h2), if_neg (fun q => q h3), if_neg (fun q => q.elim (fun e => h4.1.elim (fun z => z e.1) e.2) (fun e => h4.2.elim (fun z => z e.1) e.2)), if_neg (fun q => h5.elim (fun z => z q.1) (fun z => by rw [z] at q; exact absurd q.2 (by decide))), if_neg (by omega), if_neg (fun q => h7.elim q.1 (fun z => by rw [z] at q; exact absurd q.2 (by decide))), if_pos h]
theorem rc_9 (h0 : (tableErr t).2 = 0) (h1 : c.file = t.file.name) (h2 : 0 ≤ c.kind ∧ c.kind ≤ 2) (h3 : 1 ≤ c.rrn ∧ c.rrn ≤ (t.records.length : Int) + if c.kind = 0 then 1 else 0) (h4 : (¬c.kind = 0 ∨ c.before = ⟨#[]⟩) ∧ (¬c.kind = 2 ∨ c.after = ⟨#[]⟩)) (h5 : ¬c.kind = 0 ∨ isThere t c.rrn = false) (h6 : ¬c.kind = 0 ∨ c.rrn ≤ 60) (h7 : c.kind = 0 ∨ isThere t c.rrn = true) (h8 : c.kind = 0 ∨ (t.records.getD (c.rrn - 1).toNat zRec).bytes = c.before) (h : c.kind = 2) : chgErr t c = 0 := by rw [refChg, if_neg (fun q => q h0), if_neg (fun q => q h1), if_neg (fun q => q h2), if_neg (fun q => q h3), if_neg (fun q => q.elim (fun e => h4.1.elim (fun z => z e.1) e.2) (fun e => h4.2.elim (fun z => z e.1) e.2)), if_neg (fun q => h5.elim (fun z => z q.1) (fun z => by rw [z] at q; exact absurd q.2 (by decide))), if_neg (by omega), if_neg (fun q => h7.elim q.1 (fun z => by rw [z] at q; exact absurd q.2 (by decide))), if_neg (fun q => h8.elim q.1 q.2), if_pos h]
theorem rc_10 (h0 : (tableErr t).2 = 0) (h1 : c.file = t.file.name) (h2 : 0 ≤ c.kind ∧ c.kind ≤ 2) (h3 : 1 ≤ c.rrn ∧ c.rrn ≤ (t.records.length : Int) + if c.kind = 0 then 1 else 0) (h4 : (¬c.kind = 0 ∨ c.before = ⟨#[]⟩) ∧ (¬c.kind = 2 ∨ c.after = ⟨#[]⟩)) (h5 : ¬c.kind = 0 ∨ isThere t c.rrn = false) (h6 : ¬c.kind = 0 ∨ c.rrn ≤ 60) (h7 : c.kind = 0 ∨ isThere t c.rrn = true) (h8 : c.kind = 0 ∨ (t.records.getD (c.rrn - 1).toNat zRec).bytes = c.before) (h9 : ¬c.kind = 2) : chgErr t c = (valuesC t.file.format c.after).2.2 := by rw [refChg, if_neg (fun q => q h0), if_neg (fun q => q h1), if_neg (fun q => q h2), if_neg (fun q => q h3), if_neg (fun q => q.elim (fun e => h4.1.elim (fun z => z e.1) e.2) (fun e => h4.2.elim (fun z => z e.1) e.2)), if_neg (fun q => h5.elim (fun z => z q.1) (fun z => by rw [z] at q; exact absurd q.2 (by decide))), if_neg (by omega), if_neg (fun q => h7.elim q.1 (fun z => by rw [z] at q; exact absurd q.2 (by decide))), if_neg (fun q => h8.elim q.1 q.2), if_neg (h9)]
end
end Go.Ev

namespace Go.Ev
open Go.Proofs Ty
set_option maxRecDepth 10000
set_option maxHeartbeats 4000000
set_option linter.unusedSimpArgs false
set_option linter.unusedVariables false
noncomputable def e140 : List O → Option (Prop × O)
  | [.d x_t, .d (.i .i64 n)] => match decTable x_t with
    | some t => some (t.records.length ≤ 1000000, .d (.b (isThere t n)))
    | _ => none
  | _ => none
noncomputable def tab140 : FuncId → List O → Option (Prop × O) := addT tab96 140 e140
noncomputable def e38o : List O → Option (Prop × O)
  | [.d x_t] => match decTable x_t with
    | some t => some ((t.file.format.fields.length ≤ 1000000 ∧ t.file.keys.length ≤ 1000000 ∧ t.records.length ≤ 1000000), .agg [.d (.s t.file.name), .d (.s t.file.format.name), .d (.sl 4 (t.file.format.fields.map encField)), .d (.sl 2 (t.file.keys.map encKField)), .d (.b t.file.unique), .own 104 2 (t.records.map encRec)])
    | _ => none
  | _ => none
noncomputable def tab38o : FuncId → List O → Option (Prop × O) := addT tab140 38 e38o
noncomputable def e141 : List O → Option (Prop × O)
  | [.d x_t, .d (.i .i64 n), .d x_r] => match decTable x_t, decRec x_r with
    | some t, some r => some (1 ≤ n ∧ n ≤ (t.records.length : Int) + 1 ∧ t.records.length ≤ 1000000 ∧ t.file.format.fields.length ≤ 1000000 ∧ t.file.keys.length ≤ 1000000, .d (encTable (withT t n r)))
    | _, _ => none
  | _ => none
noncomputable def tab141 : FuncId → List O → Option (Prop × O) := addT tab38o 141 e141
noncomputable def e124 : List O → Option (Prop × O)
  | [.d x_t, .d x_c] => match decTable x_t, decChange x_c with
    | some t, some c => some ((t.file.format.fields.length ≤ 1000000 ∧ t.file.keys.length ≤ 1000000 ∧ t.records.length ≤ 1000000), .d (.i .i64 (chgErr t c)))
    | _, _ => none
  | _ => none
noncomputable def tab124 : FuncId → List O → Option (Prop × O) := addT tab141 124 e124
noncomputable def e125 : List O → Option (Prop × O)
  | [.d x_t, .d x_c] => match decTable x_t, decChange x_c with
    | some t, some c => some (1 ≤ c.rrn ∧ c.rrn ≤ (t.records.length : Int) + 1 ∧ t.records.length ≤ 1000000 ∧ t.file.format.fields.length ≤ 1000000 ∧ t.file.keys.length ≤ 1000000, .d (encTable (withT t c.rrn (recOf c))))
    | _, _ => none
  | _ => none
noncomputable def tab125 : FuncId → List O → Option (Prop × O) := addT tab124 125 e125
noncomputable def e97 : List O → Option (Prop × O)
  | [.d x_t, .d x_c] => match decTable x_t, decChange x_c with
    | some t, some c => some ((t.file.format.fields.length ≤ 1000000 ∧ t.file.keys.length ≤ 1000000 ∧ t.records.length ≤ 1000000), .tup [.d (encTable (changedT t c).1), .d (.i .i64 (changedT t c).2)])
    | _, _ => none
  | _ => none
noncomputable def tab97 : FuncId → List O → Option (Prop × O) := addT tab125 97 e97
noncomputable def e45 : List O → Option (Prop × O)
  | [.d x_c] => match decChange x_c with
    | some c => some (True, .d (encChange (revC c)))
    | _ => none
  | _ => none
noncomputable def tab45 : FuncId → List O → Option (Prop × O) := addT tab97 45 e45
noncomputable def e77 : List O → Option (Prop × O)
  | [.d x_l, .d (.s n)] => match decL 6 decTable x_l with
    | some l => some (l.length ≤ 1000000, .d (.i .i64 (findT l n)))
    | _ => none
  | _ => none
noncomputable def tab77 : FuncId → List O → Option (Prop × O) := addT tab45 77 e77
noncomputable def e74 : List O → Option (Prop × O)
  | [.d x_l] => match decL 6 decTable x_l with
    | some l => some (okTs l, .tup [.d (.i .i64 (dbErr l).1), .d (.i .i64 (dbErr l).2)])
    | _ => none
  | _ => none
noncomputable def tab74 : FuncId → List O → Option (Prop × O) := addT tab77 74 e74
noncomputable def e38d : List O → Option (Prop × O)
  | [.d x_t] => match decTable x_t with
    | some t => some ((t.file.format.fields.length ≤ 1000000 ∧ t.file.keys.length ≤ 1000000 ∧ t.records.length ≤ 1000000), .d (encTable t))
    | _ => none
  | _ => none
noncomputable def tab38d : FuncId → List O → Option (Prop × O) := addT tab74 38 e38d
noncomputable def e75 : List O → Option (Prop × O)
  | [.bx 33 [.own 80 6 x_x, .d (.i .i64 n_x), .d u_x, .d (.i .i64 e_x)], .d x_c] => match decAnsB x_x n_x u_x e_x, decChange x_c with
    | some x, some c => some (okTs x.tables, .tup [.d (.i .i64 (cond x.tables c)), .bx 33 [.own 80 6 ((doT x.tables c).map encTable), .d (.i .i64 x.n), .d (.sl 1 (x.units.map (D.i .i64))), .d (.i .i64 x.err)]])
    | _, _ => none
  | _ => none
noncomputable def tab75 : FuncId → List O → Option (Prop × O) := addT tab38d 75 e75
def mvz : FuncId → Nat → List (Nat × TypeId × Nat) := fun f => if f = 75 then (fun j => if j = 0 then [(4242, 33, 0), (0, 80, 6)] else []) else fun _ => []
noncomputable def e42 : List O → Option (Prop × O)
  | [.d x_ts, .d x_cs] => match decL 6 decTable x_ts, decL 5 decChange x_cs with
    | some ts, some cs => some (okTs ts ∧ cs.length ≤ 1000000, .d (encAns (ansOf (madeT ts cs))))
    | _, _ => none
  | _ => none
noncomputable def tab42 : FuncId → List O → Option (Prop × O) := addT tab75 42 e42
noncomputable def e39 : List O → Option (Prop × O)
  | [.d x_ts, .d x_l] => match decL 6 decTable x_ts, decL 8 decEntry x_l with
    | some ts, some l => some (okTs ts ∧ l.length ≤ 1000000, .d (.i .i64 (chkE ts l)))
    | _, _ => none
  | _ => none
noncomputable def tab39 : FuncId → List O → Option (Prop × O) := addT tab42 39 e39
noncomputable def e40 : List O → Option (Prop × O)
  | [.d x_l] => match decL 8 decEntry x_l with
    | some l => some (l.length ≤ 1000000, .tup [.d (.i .i64 (firstN l)), .d (.i .i64 (lastNo l))])
    | _ => none
  | _ => none
noncomputable def tab40 : FuncId → List O → Option (Prop × O) := addT tab39 40 e40
noncomputable def e13 : List O → Option (Prop × O)
  | [.d x_ts, .d x_l, .d (.i .i64 n)] => match decL 6 decTable x_ts, decL 8 decEntry x_l with
    | some ts, some l => some (okTs ts ∧ l.length ≤ 1000000, .d (encAns (ansOf (applyT ts l n))))
    | _, _ => none
  | _ => none
noncomputable def tab13 : FuncId → List O → Option (Prop × O) := addT tab40 13 e13
noncomputable def e16 : List O → Option (Prop × O)
  | [.d x_ts, .d x_l, .d (.i .i64 n)] => match decL 6 decTable x_ts, decL 8 decEntry x_l with
    | some ts, some l => some (okTs ts ∧ l.length ≤ 1000000, .d (encAns (ansOf (removeT ts l n))))
    | _, _ => none
  | _ => none
noncomputable def tab16 : FuncId → List O → Option (Prop × O) := addT tab13 16 e16
noncomputable def e14 : List O → Option (Prop × O)
  | [.d x_ts, .d (.i .i64 e), .d x_x] => match decL 6 decTable x_ts, decAns x_x with
    | some ts, some x => some (okTs ts, .d (.b (decide (e = x.err) && decide (ts = x.tables))))
    | _, _ => none
  | _ => none
noncomputable def tab14 : FuncId → List O → Option (Prop × O) := addT tab16 14 e14
noncomputable def e3 : List O → Option (Prop × O)
  | [.d x_ts, .d x_l, .d (.i .i64 n)] => match decL 6 decTable x_ts, decL 8 decEntry x_l with
    | some ts, some l => some (True, .d (.b true))
    | _, _ => none
  | _ => none
noncomputable def tab3 : FuncId → List O → Option (Prop × O) := addT tab14 3 e3
noncomputable def e4 : List O → Option (Prop × O)
  | [.d x_ts, .d x_l, .d (.i .i64 n)] => match decL 6 decTable x_ts, decL 8 decEntry x_l with
    | some ts, some l => some (True, .d (.b true))
    | _, _ => none
  | _ => none
end Go.Ev
