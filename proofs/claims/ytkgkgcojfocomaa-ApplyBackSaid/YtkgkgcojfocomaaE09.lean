/- Tools and contracts under the laws of this seat: DxE6 to DxE12. -/
import Derived.Test.YtkgkgcojfocomaaE07
import Derived.Test.YtkgkgcojfocomaaE08
import Derived.Test.YtkgkgcojfocomaaE05
set_option linter.unusedVariables false
set_option linter.unusedSimpArgs false
namespace Go.Ev
open Go.Proofs Ty
set_option maxRecDepth 10000
set_option maxHeartbeats 4000000
set_option linter.unusedSimpArgs false
set_option linter.unusedVariables false
noncomputable def e38 : List O → Option (Prop × O)
  | [.d x_l, .d (.b back), .d x_w] => match decL 8 decEntry x_l, decWant x_w with
    | some l, some w => some (l.length ≤ 1000000, .d (.sl 5 ((changesOf w back l).map encChange)))
    | _, _ => none
  | _ => none
noncomputable def tab38 : FuncId → List O → Option (Prop × O) := addT tab36 38 e38
noncomputable def e37 : List O → Option (Prop × O)
  | [.d x_ts, .d x_cs] => match decL 6 decTable x_ts, decL 5 decChange x_cs with
    | some ts, some cs => some (okTs ts ∧ cs.length ≤ 1000000, .tup [.d (.sl 6 ((madeT ts cs).1.map encTable)), .d (.i .i64 (madeT ts cs).2.1), .d (.i .i64 (madeT ts cs).2.2)])
    | _, _ => none
  | _ => none
noncomputable def tab37 : FuncId → List O → Option (Prop × O) := addT tab38 37 e37
end Go.Ev

namespace Go.Ev
theorem num_chk {l : List Entry} (h : (check l).2 = 0) {j : Nat} (hj : j < l.length) : 1 ≤ (l.getD j zEntry).number ∧ (l.getD j zEntry).number ≤ 9999 := num_bounds (check_all h hj).1
theorem chkE_ok {ts : List Table} {l : List Entry} (h : chkE ts l = 0) : tablesErr ts = 0 ∧ (check l).2 = 0 := by
  unfold chkE at h
  split at h
  · contradiction
  · rename_i h2; exact ⟨Decidable.not_not.1 h2, h⟩
theorem changes_len (w : Want) (back : Bool) (l : List Entry) : (changesOf w back l).length ≤ l.length := by
  have := chgs_all w back l
  unfold changesOf
  split
  · rw [List.length_reverse]; exact this
  · exact this
def leastA (l : List Entry) : Int := if 0 < l.length then (l.getD 0 zEntry).number - 1 else 0
def mostA (l : List Entry) : Int := if 0 < l.length then (l.getD (l.length - 1) zEntry).number else 9999
def leastR (l : List Entry) : Int := if 0 < l.length then (l.getD 0 zEntry).number else 1
def mostR (l : List Entry) : Int := if 0 < l.length then (l.getD (l.length - 1) zEntry).number + 1 else 10000
def applyT (ts : List Table) (l : List Entry) (n : Int) : List Table × Int × Int :=
  if chkE ts l ≠ 0 then ([], 0, chkE ts l) else if n < leastA l ∨ mostA l < n then ([], 0, 3) else madeT ts (changesOf ⟨true, n⟩ false l)
def removeT (ts : List Table) (l : List Entry) (n : Int) : List Table × Int × Int :=
  if chkE ts l ≠ 0 then ([], 0, chkE ts l) else if n < leastR l ∨ mostR l < n then ([], 0, 3) else madeT ts (changesOf ⟨false, n⟩ true l)
section
variable {ts : List Table} {l : List Entry} {n : Int}
theorem apply_err (h : ¬chkE ts l = 0) : applyT ts l n = ([], 0, chkE ts l) := by unfold applyT; rw [if_pos h]
theorem apply_out (h : chkE ts l = 0) (h2 : n < leastA l ∨ mostA l < n) : applyT ts l n = ([], 0, 3) := by unfold applyT; rw [if_neg (fun e => e h), if_pos h2]
theorem apply_in (h : chkE ts l = 0) (h2 : leastA l ≤ n ∧ n ≤ mostA l) : applyT ts l n = madeT ts (changesOf ⟨true, n⟩ false l) := by unfold applyT; rw [if_neg (fun e => e h), if_neg (by omega)]
theorem remove_err (h : ¬chkE ts l = 0) : removeT ts l n = ([], 0, chkE ts l) := by unfold removeT; rw [if_pos h]
theorem remove_out (h : chkE ts l = 0) (h2 : n < leastR l ∨ mostR l < n) : removeT ts l n = ([], 0, 3) := by unfold removeT; rw [if_neg (fun e => e h), if_pos h2]
theorem remove_in (h : chkE ts l = 0) (h2 : leastR l ≤ n ∧ n ≤ mostR l) : removeT ts l n = madeT ts (changesOf ⟨false, n⟩ true l) := by unfold removeT; rw [if_neg (fun e => e h), if_neg (by omega)]
theorem edge_some (h : 0 < (l.length : Int)) : leastA l = (l.getD 0 zEntry).number - 1 ∧ mostA l = (l.getD (l.length - 1) zEntry).number ∧ leastR l = (l.getD 0 zEntry).number ∧ mostR l = (l.getD (l.length - 1) zEntry).number + 1 := by
  have h : 0 < l.length := by omega
  simp [leastA, mostA, leastR, mostR, h]
theorem edge_none (h : (l.length : Int) ≤ 0) : leastA l = 0 ∧ mostA l = 9999 ∧ leastR l = 1 ∧ mostR l = 10000 := by
  have h : ¬0 < l.length := by omega
  simp [leastA, mostA, leastR, mostR, h]
end
theorem fmt_eq {a b : Fmt} (h1 : a.name = b.name) (h2 : a.fields = b.fields) : a = b := by cases a; cases b; simp_all
theorem file_eq {a b : File} (h1 : a.name = b.name) (h2 : a.unique = b.unique) (h3 : a.format = b.format) (h4 : a.keys = b.keys) : a = b := by cases a; cases b; simp_all
theorem table_dec (a b : Table) : decide (a = b) = (decide (a.file = b.file) && decide (a.records = b.records)) := by
  rw [Bool.eq_iff_iff]; cases a; cases b; simp
end Go.Ev

namespace Go.Ev
open Go.Proofs Ty
set_option maxRecDepth 10000
set_option maxHeartbeats 4000000
set_option linter.unusedSimpArgs false
set_option linter.unusedVariables false
noncomputable def e19 : List O → Option (Prop × O)
  | [.d x_ts, .d x_l, .d (.i .i64 n)] => match decL 6 decTable x_ts, decL 8 decEntry x_l with
    | some ts, some l => some (okTs ts ∧ l.length ≤ 1000000, .tup [.d (.sl 6 ((applyT ts l n).1.map encTable)), .d (.i .i64 (applyT ts l n).2.1), .d (.i .i64 (applyT ts l n).2.2)])
    | _, _ => none
  | _ => none
noncomputable def tab19 : FuncId → List O → Option (Prop × O) := addT tab37 19 e19
noncomputable def e23 : List O → Option (Prop × O)
  | [.d x_ts, .d x_l, .d (.i .i64 n)] => match decL 6 decTable x_ts, decL 8 decEntry x_l with
    | some ts, some l => some (okTs ts ∧ l.length ≤ 1000000, .tup [.d (.sl 6 ((removeT ts l n).1.map encTable)), .d (.i .i64 (removeT ts l n).2.1), .d (.i .i64 (removeT ts l n).2.2)])
    | _, _ => none
  | _ => none
noncomputable def tab23 : FuncId → List O → Option (Prop × O) := addT tab19 23 e23
noncomputable def e82 : List O → Option (Prop × O)
  | [.d x_f] => match decFmt x_f with
    | some f => some (f.fields.length ≤ 1000000, .d (encFmt f))
    | _ => none
  | _ => none
noncomputable def tab82 : FuncId → List O → Option (Prop × O) := addT tab23 82 e82
noncomputable def e63 : List O → Option (Prop × O)
  | [.d x_f] => match decFile x_f with
    | some f => some (f.format.fields.length ≤ 1000000 ∧ f.keys.length ≤ 1000000, .d (encFile f))
    | _ => none
  | _ => none
noncomputable def tab63 : FuncId → List O → Option (Prop × O) := addT tab82 63 e63
noncomputable def e40 : List O → Option (Prop × O)
  | [.d x_t] => match decTable x_t with
    | some t => some ((t.file.format.fields.length ≤ 1000000 ∧ t.file.keys.length ≤ 1000000 ∧ t.records.length ≤ 1000000), .d (encTable t))
    | _ => none
  | _ => none
noncomputable def tab40 : FuncId → List O → Option (Prop × O) := addT tab63 40 e40
noncomputable def e20 : List O → Option (Prop × O)
  | [.d x_ts] => match decL 6 decTable x_ts with
    | some ts => some (okTs ts, .own 86 6 (ts.map encTable))
    | _ => none
  | _ => none
noncomputable def tab20 : FuncId → List O → Option (Prop × O) := addT tab40 20 e20
noncomputable def e84 : List O → Option (Prop × O)
  | [.d x_a, .d x_b] => match decL 2 decRec x_a, decL 2 decRec x_b with
    | some a, some b => some (a.length ≤ 1000000, .d (.b (decide (a = b))))
    | _, _ => none
  | _ => none
noncomputable def tab84 : FuncId → List O → Option (Prop × O) := addT tab20 84 e84
noncomputable def e96 : List O → Option (Prop × O)
  | [.d x_a, .d x_b] => match decFmt x_a, decFmt x_b with
    | some a, some b => some (a.fields.length ≤ 1000000, .d (.b (decide (a = b))))
    | _, _ => none
  | _ => none
noncomputable def tab96 : FuncId → List O → Option (Prop × O) := addT tab84 96 e96
noncomputable def e83 : List O → Option (Prop × O)
  | [.d x_a, .d x_b] => match decFile x_a, decFile x_b with
    | some a, some b => some (a.format.fields.length ≤ 1000000 ∧ a.keys.length ≤ 1000000, .d (.b (decide (a = b))))
    | _, _ => none
  | _ => none
noncomputable def tab83 : FuncId → List O → Option (Prop × O) := addT tab96 83 e83
noncomputable def e64 : List O → Option (Prop × O)
  | [.d x_a, .d x_b] => match decTable x_a, decTable x_b with
    | some a, some b => some (okT a, .d (.b (decide (a = b))))
    | _, _ => none
  | _ => none
noncomputable def tab64 : FuncId → List O → Option (Prop × O) := addT tab83 64 e64
noncomputable def e54 : List O → Option (Prop × O)
  | [.d x_f] => match decFmt x_f with
    | some f => some (True, .d (.b (decide ((f.fields.length : Int) ≤ 22))))
    | _ => none
  | _ => none
noncomputable def tab54 : FuncId → List O → Option (Prop × O) := addT tab64 54 e54
end Go.Ev

namespace Go.Ev
def recBig (t : Table) (k : Nat) : Int := if 220 < ((t.records.getD k zRec).bytes.size : Int) then 1 else 0
def headBig (t : Table) : Prop := 22 < (t.file.format.fields.length : Int) ∨ 6 < (t.file.keys.length : Int) ∨ 62 < (t.records.length : Int)
instance (t : Table) : Decidable (headBig t) := by unfold headBig; infer_instance
def tabBig (l : List Table) (i : Nat) : Int := if headBig (l.getD i zTable) then 1 else match firstBad (recBig (l.getD i zTable)) (l.getD i zTable).records.length with
  | some _ => 1
  | none => 0
def fewTs (l : List Table) : Bool := if 10 < (l.length : Int) then false else (firstBad (tabBig l) l.length).isNone
section
variable {l : List Table} {i k : Nat}
theorem few_many (h : 10 < (l.length : Int)) : fewTs l = false := by unfold fewTs; rw [if_pos h]
theorem few_bad (h10 : (l.length : Int) ≤ 10) (h : ∀ j, j < i → tabBig l j = 0) (hi : i < l.length) (hg : ¬tabBig l i = 0) : fewTs l = false := by
  unfold fewTs
  rw [if_neg (by omega), firstBad_some h hi hg]; rfl
theorem few_end (h10 : (l.length : Int) ≤ 10) (h : ∀ j, j < i → tabBig l j = 0) (hi : l.length ≤ i) : fewTs l = true := by
  unfold fewTs
  rw [if_neg (by omega), firstBad_none fun j hj => h j (by omega)]; rfl
theorem tabBig_head (h : headBig (l.getD i zTable)) : ¬tabBig l i = 0 := by unfold tabBig; rw [if_pos h]; decide
theorem tabBig_rec (h : ∀ j, j < k → recBig (l.getD i zTable) j = 0) (hk : k < (l.getD i zTable).records.length) (hg : 220 < (((l.getD i zTable).records.getD k zRec).bytes.size : Int)) : ¬tabBig l i = 0 := by
  unfold tabBig
  split
  · decide
  · rw [firstBad_some h hk (by unfold recBig; rw [if_pos hg]; decide)]; exact (by decide : ¬(1 : Int) = 0)
theorem tabBig_end (hh : ¬headBig (l.getD i zTable)) (h : ∀ j, j < k → recBig (l.getD i zTable) j = 0) (hk : (l.getD i zTable).records.length ≤ k) : tabBig l i = 0 := by
  unfold tabBig
  rw [if_neg hh, firstBad_none fun j hj => h j (by omega)]
theorem recBig_no {t : Table} (h : ((t.records.getD k zRec).bytes.size : Int) ≤ 220) : recBig t k = 0 := by unfold recBig; rw [if_neg (by omega)]
theorem fewTs_ok (h : fewTs l = true) : okTs l ∧ l.length ≤ 10 := by
  unfold fewTs at h
  split at h
  · cases h
  refine ⟨⟨by omega, fun i => ?_⟩, by omega⟩
  by_cases hi : i < l.length
  · have hz : tabBig l i = 0 := by
      cases hf : firstBad (tabBig l) l.length with
      | some j => rw [hf] at h; cases h
      | none =>
        unfold firstBad at hf
        rw [List.find?_eq_none] at hf
        have := hf i (by simpa using hi)
        simpa using this
    unfold tabBig at hz
    split at hz
    · cases hz
    · rename_i hh
      unfold headBig at hh
      refine ⟨?_, ?_, ?_⟩ <;> omega
  · have : l.getD i zTable = zTable := by simp [List.getD, List.getElem?_eq_none (Nat.le_of_not_lt hi)]
    rw [this]
    exact ⟨by decide, by decide, by decide⟩
end
def uptoL (l : List Entry) (n : Int) : List Entry := l.takeWhile fun e => decide (e.number ≤ n)
theorem tw_take {α : Type} (p : α → Bool) (z : α) : ∀ {l : List α} {i : Nat}, (∀ j, j < i → p (l.getD j z) = true) → i ≤ l.length → (i = l.length ∨ p (l.getD i z) = false) → l.takeWhile p = l.take i
  | [], i, _, hi, _ => by simp at hi; subst hi; rfl
  | x :: l, 0, _, _, h => by
    have : p x = false := by rcases h with h | h; cases h; simpa using h
    simp [List.takeWhile_cons, this]
  | x :: l, i + 1, h, hi, h2 => by
    have hx : p x = true := by simpa using h 0 (by omega)
    have h1 : ∀ j, j < i → p (l.getD j z) = true := fun j hj => by
      have := h (j + 1) (by omega)
      simpa using this
    rw [List.takeWhile_cons, if_pos hx, List.take_succ_cons, tw_take p z h1 (by simpa using hi) (by rcases h2 with h2 | h2; left; simpa using h2; right; simpa using h2)]
end Go.Ev

namespace Go.Ev
open Go.Proofs Ty
set_option maxRecDepth 10000
set_option maxHeartbeats 4000000
set_option linter.unusedSimpArgs false
set_option linter.unusedVariables false
noncomputable def e42 : List O → Option (Prop × O)
  | [.d x_a, .d x_b] => match decL 6 decTable x_a, decL 6 decTable x_b with
    | some a, some b => some (okTs a, .d (.b (decide (a = b))))
    | _, _ => none
  | _ => none
noncomputable def tab42 : FuncId → List O → Option (Prop × O) := addT tab54 42 e42
noncomputable def e35 : List O → Option (Prop × O)
  | [.d x_l] => match decL 6 decTable x_l with
    | some l => some (True, .d (.b (fewTs l)))
    | _ => none
  | _ => none
noncomputable def tab35 : FuncId → List O → Option (Prop × O) := addT tab42 35 e35
noncomputable def e18 : List O → Option (Prop × O)
  | [.d x_ts, .d x_l] => match decL 6 decTable x_ts, decL 8 decEntry x_l with
    | some ts, some l => some (True, .d (.b (fewTs ts && few35 l)))
    | _, _ => none
  | _ => none
noncomputable def tab18 : FuncId → List O → Option (Prop × O) := addT tab35 18 e18
noncomputable def e22 : List O → Option (Prop × O)
  | [.d x_l, .d (.i .i64 n)] => match decL 8 decEntry x_l with
    | some l => some (l.length ≤ 1000000, .d (.sl 8 ((uptoL l n).map encEntry)))
    | _ => none
  | _ => none
noncomputable def tab22 : FuncId → List O → Option (Prop × O) := addT tab18 22 e22
end Go.Ev

namespace Go.Ev
def trimR (l : List Rec) : List Rec := (l.reverse.dropWhile fun r => r.deleted).reverse
def trimT (t : Table) : Table := ⟨t.file, trimR t.records⟩
theorem dw_drop {α : Type} (p : α → Bool) (z : α) : ∀ {l : List α} {k : Nat}, (∀ j, j < k → p (l.getD j z) = true) → k ≤ l.length → (k = l.length ∨ p (l.getD k z) = false) → l.dropWhile p = l.drop k
  | [], k, _, hi, _ => by simp at hi; subst hi; rfl
  | x :: l, 0, _, _, h => by
    have : p x = false := by rcases h with h | h; cases h; simpa using h
    simp [this]
  | x :: l, k + 1, h, hi, h2 => by
    have hx : p x = true := by simpa using h 0 (by omega)
    have h1 : ∀ j, j < k → p (l.getD j z) = true := fun j hj => by
      have := h (j + 1) (by omega)
      simpa using this
    rw [List.dropWhile_cons, if_pos hx, List.drop_succ_cons, dw_drop p z h1 (by simpa using hi) (by rcases h2 with h2 | h2; left; simpa using h2; right; simpa using h2)]
theorem rev_getD (l : List Rec) {j : Nat} (hj : j < l.length) : l.reverse.getD j zRec = l.getD (l.length - 1 - j) zRec := by
  simp only [List.getD]; rw [List.getElem?_reverse hj]
theorem trim_at {l : List Rec} {n : Nat} (hn : n ≤ l.length) (h : ∀ j, n ≤ j → j < l.length → (l.getD j zRec).deleted = true) (h2 : n = 0 ∨ (l.getD (n - 1) zRec).deleted = false) : trimR l = l.take n := by
  unfold trimR
  rw [dw_drop (fun r => r.deleted) zRec (k := l.length - n) (fun j hj => by rw [rev_getD l (by omega)]; exact h _ (by omega) (by omega)) (by simp) (by
    rcases h2 with h2 | h2
    · left; simp; omega
    · by_cases h0 : n = 0
      · left; simp; omega
      · right; rw [rev_getD l (by omega), show l.length - 1 - (l.length - n) = n - 1 by omega]; exact h2)]
  rw [List.drop_reverse, List.reverse_reverse, show l.length - (l.length - n) = n by omega]
def trimTo (l : List Table) (i : Nat) : List Table := (l.take i).map trimT ++ l.drop i
theorem trimTo_len (l : List Table) (i : Nat) : (trimTo l i).length = l.length := by simp [trimTo]; omega
theorem trimTo_getD (l : List Table) {i : Nat} (hi : i < l.length) : (trimTo l i).getD i zTable = l.getD i zTable := by
  simp only [trimTo, List.getD]
  rw [List.getElem?_append_right (by simp; omega)]
  simp [Nat.min_eq_left (Nat.le_of_lt hi)]
theorem trimTo_map {l : List Table} {i : Nat} (hi : i < l.length) (z : D) : ((trimTo l i).map encTable).getD i z = encTable (l.getD i zTable) := by
  rw [getD_mapT (by rw [trimTo_len]; exact hi), trimTo_getD l hi]
theorem trimTo_step {l : List Table} {i : Nat} (hi : i < l.length) : (trimTo l i).set i (trimT (l.getD i zTable)) = trimTo l (i + 1) := by
  have e : l.drop i = l.getD i zTable :: l.drop (i + 1) := by
    rw [List.drop_eq_getElem_cons hi]; simp [List.getD, List.getElem?_eq_getElem hi]
  simp only [trimTo]
  rw [e, List.set_append_right _ _ (by simp; omega), take_getD zTable hi, List.map_append]
  simp [Nat.min_eq_left (Nat.le_of_lt hi)]
theorem trimTo_end {l : List Table} {i : Nat} (hi : l.length ≤ i) : trimTo l i = l.map trimT := by simp [trimTo, List.take_of_length_le hi, List.drop_eq_nil_of_le hi]
def alikeT (a b : List Table) : Bool := fewTs a && decide (a.map trimT = b.map trimT)
theorem trimR_len (l : List Rec) : (trimR l).length ≤ l.length := by
  unfold trimR
  rw [List.length_reverse]
  have := (List.dropWhile_suffix (l := l.reverse) fun r => r.deleted).length_le
  simpa using this
theorem okTs_trim {l : List Table} (h : okTs l) : okTs (l.map trimT) := by
  refine ⟨by rw [List.length_map]; exact h.1, fun i => ?_⟩
  have e : (l.map trimT).getD i zTable = trimT (l.getD i zTable) := by
    simp only [List.getD, List.getElem?_map]
    cases l[i]? <;> rfl
  rw [e]
  have hi := h.2 i
  have := trimR_len (l.getD i zTable).records
  exact ⟨hi.1, hi.2.1, by have := hi.2.2; show (trimR _).length ≤ _; omega⟩
end Go.Ev

namespace Go.Ev
open Go.Proofs Ty
set_option maxRecDepth 10000
set_option maxHeartbeats 4000000
set_option linter.unusedSimpArgs false
set_option linter.unusedVariables false
noncomputable def e43 : List O → Option (Prop × O)
  | [.d x_l] => match decL 6 decTable x_l with
    | some l => some (okTs l, .d (.sl 6 ((l.map trimT).map encTable)))
    | _ => none
  | _ => none
noncomputable def tab43 : FuncId → List O → Option (Prop × O) := addT tab22 43 e43
noncomputable def e24 : List O → Option (Prop × O)
  | [.d x_a, .d x_b] => match decL 6 decTable x_a, decL 6 decTable x_b with
    | some a, some b => some (okTs b, .d (.b (alikeT a b)))
    | _, _ => none
  | _ => none
noncomputable def tab24 : FuncId → List O → Option (Prop × O) := addT tab43 24 e24
end Go.Ev

namespace Go.Ev
def thereT (ts : List Table) (f : ByteArray) : Bool := ts.any fun t => decide (t.file.name = f)
def hits (c : Change) (x : Entry) : Bool := decide (x.kind = 0) && decide (x.change.file = c.file) && decide (x.change.rrn = c.rrn)
def cntM (l : List Entry) (c : Change) (i : Nat) : Nat := ((l.take i).filter (hits c)).length
def folBad (there : Bool) (s : List ByteArray) (l : List Entry) (c : Change) (i : Nat) : Int :=
  if hits c (l.getD i zEntry) = true then
    if (s.length : Int) ≤ (cntM l c i : Int) + 1 ∨ (there = true ∧ ¬s.getD (cntM l c i) ⟨#[]⟩ = (l.getD i zEntry).change.before) ∨ ¬s.getD (cntM l c i + 1) ⟨#[]⟩ = (l.getD i zEntry).change.after then 1 else 0
  else 0
def followsC (ts : List Table) (l : List Entry) (c : Change) : Bool :=
  if (imagesC l c.file c.rrn).2 ≠ 0 ∨ ((imagesC l c.file c.rrn).1.length : Int) < 2 then false
  else match firstBad (folBad (thereT ts c.file) (imagesC l c.file c.rrn).1 l c) l.length with
    | some _ => false
    | none => decide ((cntM l c l.length : Int) = ((imagesC l c.file c.rrn).1.length : Int) - 1)
section
variable {ts : List Table} {l : List Entry} {c : Change} {i : Nat}
theorem there_take (hi : i < ts.length) (f : ByteArray) : thereT (ts.take (i + 1)) f = (thereT (ts.take i) f || decide ((ts.getD i zTable).file.name = f)) := by
  unfold thereT
  rw [take_getD zTable hi, List.any_append]
  simp
theorem cnt_le : cntM l c i ≤ i := by
  unfold cntM
  have := List.length_filter_le (hits c) (l.take i)
  rw [List.length_take] at this
  omega
theorem cnt_yes (hi : i < l.length) (h : hits c (l.getD i zEntry) = true) : cntM l c (i + 1) = cntM l c i + 1 := by
  unfold cntM
  rw [take_getD zEntry hi, List.filter_append]
  simp only [List.filter_cons, h, if_true, List.filter_nil, List.length_append, List.length_cons, List.length_nil]
theorem cnt_no (hi : i < l.length) (h : ¬hits c (l.getD i zEntry) = true) : cntM l c (i + 1) = cntM l c i := by
  unfold cntM
  rw [take_getD zEntry hi, List.filter_append]
  simp only [List.filter_cons, if_neg h, List.filter_nil, List.append_nil]
theorem hits_iff {x : Entry} : hits c x = true ↔ x.kind = 0 ∧ x.change.file = c.file ∧ x.change.rrn = c.rrn := by simp [hits, and_assoc]
theorem hits_no {x : Entry} (h : (¬x.kind = 0 ∨ ¬x.change.file = c.file) ∨ ¬x.change.rrn = c.rrn) : ¬hits c x = true := by
  rw [hits_iff]
  rintro ⟨h1, h2, h3⟩
  rcases h with (h | h) | h
  · exact h h1
  · exact h h2
  · exact h h3
theorem imc_len (l : List Entry) (f : ByteArray) (r : Int) : (imagesC l f r).1.length ≤ l.length + 1 := by
  unfold imagesC
  split
  · simp
  split
  · simp
  split
  · simp
  · exact (imgs_len f r l).1
theorem fol_err (h : ¬(imagesC l c.file c.rrn).2 = 0 ∨ ((imagesC l c.file c.rrn).1.length : Int) < 2) : followsC ts l c = false := by unfold followsC; rw [if_pos h]
theorem fol_bad (h0 : (imagesC l c.file c.rrn).2 = 0 ∧ 2 ≤ ((imagesC l c.file c.rrn).1.length : Int)) (h : ∀ j, j < i → folBad (thereT ts c.file) (imagesC l c.file c.rrn).1 l c j = 0) (hi : i < l.length) (hg : ¬folBad (thereT ts c.file) (imagesC l c.file c.rrn).1 l c i = 0) : followsC ts l c = false := by
  unfold followsC
  rw [if_neg (by omega), firstBad_some h hi hg]
theorem fol_end (h0 : (imagesC l c.file c.rrn).2 = 0 ∧ 2 ≤ ((imagesC l c.file c.rrn).1.length : Int)) (h : ∀ j, j < i → folBad (thereT ts c.file) (imagesC l c.file c.rrn).1 l c j = 0) (hi : i = l.length) : followsC ts l c = decide ((cntM l c i : Int) = ((imagesC l c.file c.rrn).1.length : Int) - 1) := by
  subst hi
  unfold followsC
  rw [if_neg (by omega), firstBad_none h]
theorem folBad_no {b : Bool} {s : List ByteArray} (h : ¬hits c (l.getD i zEntry) = true) : folBad b s l c i = 0 := by unfold folBad; rw [if_neg h]
end
end Go.Ev

namespace Go.Ev
open Go.Proofs Ty
set_option maxRecDepth 10000
set_option maxHeartbeats 4000000
set_option linter.unusedSimpArgs false
set_option linter.unusedVariables false
noncomputable def e21 : List O → Option (Prop × O)
  | [.d x_ts, .d x_l, .d x_c] => match decL 6 decTable x_ts, decL 8 decEntry x_l, decChange x_c with
    | some ts, some l, some c => some (ts.length ≤ 1000000 ∧ l.length ≤ 1000000, .d (.b (followsC ts l c)))
    | _, _, _ => none
  | _ => none
noncomputable def tab21 : FuncId → List O → Option (Prop × O) := addT tab24 21 e21
end Go.Ev

namespace Go.Ev
theorem firstBad_all {g : Nat → Int} {n : Nat} (h : firstBad g n = none) : ∀ j, j < n → g j = 0 := by
  unfold firstBad at h
  rw [List.find?_eq_none] at h
  intro j hj
  have := h j (by simpa using hj)
  simpa using this
theorem firstBad_val {g : Nat → Int} {n i : Nat} (h : firstBad g n = some i) : ¬g i = 0 := by
  unfold firstBad at h
  have := List.find?_some h
  simpa using this
theorem made_ok {ts : List Table} {cs : List Change} (h : (madeT ts cs).2.2 = 0) : (∀ k, k < cs.length → mErr ts cs k = 0) ∧ madeT ts cs = ((mTo ts cs cs.length).1, (mTo ts cs cs.length).2, 0) := by
  unfold madeT at h ⊢
  cases hf : firstBad (mErr ts cs) cs.length with
  | some k => rw [hf] at h; exact absurd h (firstBad_val hf)
  | none => exact ⟨firstBad_all hf, rfl⟩
theorem okTs_nil : okTs [] := ⟨by simp, fun i => by
  have : ([] : List Table).getD i zTable = zTable := rfl
  rw [this]; exact ⟨by decide, by decide, by decide⟩⟩
theorem okTs_made {ts : List Table} {cs : List Change} (h : okTs ts) : okTs (madeT ts cs).1 := by
  unfold madeT
  cases hf : firstBad (mErr ts cs) cs.length with
  | some k => exact okTs_nil
  | none => exact mTo_ok h (firstBad_all hf)
theorem okTs_apply {ts : List Table} {l : List Entry} {n : Int} (h : okTs ts) : okTs (applyT ts l n).1 := by
  unfold applyT
  split
  · exact okTs_nil
  split
  · exact okTs_nil
  · exact okTs_made h
theorem apply_ok {ts : List Table} {l : List Entry} {n : Int} (h : (applyT ts l n).2.2 = 0) : chkE ts l = 0 ∧ leastA l ≤ n ∧ n ≤ mostA l ∧ applyT ts l n = madeT ts (changesOf ⟨true, n⟩ false l) := by
  by_cases h1 : chkE ts l = 0
  · by_cases h2 : n < leastA l ∨ mostA l < n
    · rw [apply_out h1 h2] at h; cases h
    · exact ⟨h1, by omega, by omega, apply_in h1 (by omega)⟩
  · rw [apply_err h1] at h; exact absurd h h1
theorem apply_num {ts : List Table} {l : List Entry} {n : Int} (h0 : 0 < l.length) (h : (applyT ts l n).2.2 = 0) : 0 ≤ n ∧ n ≤ 9999 := by
  obtain ⟨h1, h2, h3, _⟩ := apply_ok h
  have hq := (chkE_ok h1).2
  have e := edge_some (l := l) (by omega)
  have a := num_chk hq (j := 0) h0
  have b := num_chk hq (j := l.length - 1) (by omega)
  omega
theorem upto_len (l : List Entry) (n : Int) : (uptoL l n).length ≤ l.length := by
  unfold uptoL
  exact (List.takeWhile_sublist _).length_le
theorem num_last {l : List Entry} (h : (check l).2 = 0) {j : Nat} (hj : j < l.length) : (l.getD j zEntry).number ≤ (l.getD (l.length - 1) zEntry).number := by
  by_cases e : j = l.length - 1
  · rw [e]; exact Int.le_refl _
  · have := nums_lt (fun j hj => check_all h hj) j (l.length - 1) (by omega) (by omega)
    omega
theorem all_taken {l : List Entry} (h : (check l).2 = 0) : chgsOf ⟨true, (l.getD (l.length - 1) zEntry).number⟩ false l = (l.filter fun x => decide (x.kind = 0)).map (·.change) := by
  unfold chgsOf
  have e : l.filter (takenE ⟨true, (l.getD (l.length - 1) zEntry).number⟩) = l.filter fun x => decide (x.kind = 0) := by
    apply List.filter_congr
    intro x hx
    obtain ⟨j, hj, rfl⟩ := List.getElem_of_mem hx
    have := num_last h hj
    have g : l.getD j zEntry = l[j] := by simp [List.getD, List.getElem?_eq_getElem hj]
    rw [g] at this
    generalize (l.getD (l.length - 1) zEntry).number = q at this ⊢
    simp [takenE, Want.has, this]
  rw [e]
  rfl
theorem rec_gone {t : Table} {i : Nat} (h : (tableErr t).2 = 0) (hi : i < t.records.length) (hd : (t.records.getD i zRec).deleted = true) : (t.records.getD i zRec).bytes = ⟨#[]⟩ := by
  have hr : recE t i = 0 := by
    unfold tableErr at h
    split at h
    · rename_i h2; exact absurd h h2
    split at h
    · cases h
    cases hf : firstBad (recE t) t.records.length with
    | some j => rw [hf] at h; exact absurd h (firstBad_val hf)
    | none => exact firstBad_all hf i hi
  unfold recE at hr
  rw [if_pos hd] at hr
  split at hr
  · cases hr
  · rename_i h2; exact Decidable.not_not.1 h2
theorem chg_before {t : Table} {c : Change} (h : chgErr t c = 0) (hl : c.rrn ≤ (t.records.length : Int)) : (recAt t c).bytes = c.before := by
  have hh := chgErr_ok h
  obtain ⟨h1, h2, h3, h4, h5, h6, h7⟩ := chHead_ok hh
  have hp : placeErr t c = 0 := by
    unfold chgErr at h
    rw [if_neg (fun e => e hh)] at h
    split at h
    · exact h
    · rename_i q; exact Decidable.byContradiction fun e => q (.inl e)
  have hn : decide (c.rrn = (t.records.length : Int) + 1) = false := by simp; omega
  unfold placeErr goneAt at hp
  rw [hn, Bool.false_or] at hp
  split at hp
  · rename_i hk
    by_cases hd : (recAt t c).deleted = true
    · have hb := rec_gone h1 (i := (c.rrn - 1).toNat) (by omega) hd
      have hf : c.before = ⟨#[]⟩ := by
        unfold formBad at h7
        simp [hk] at h7
        exact h7
      rw [hf]; exact hb
    · simp [firstE, hd] at hp
  · split at hp
    · cases hp
    split at hp
    · cases hp
    · rename_i q; exact Decidable.not_not.1 q
theorem set_files (l : List Table) (i : Nat) (n : Int) (r : Rec) : (l.set i (withT (l.getD i zTable) n r)).map (·.file) = l.map (·.file) := by
  rw [List.map_set]
  show (l.map (·.file)).set i (l.getD i zTable).file = _
  by_cases h : i < l.length
  · have e : (l.getD i zTable).file = (l.map (·.file))[i]'(by simpa using h) := by simp [List.getD, List.getElem?_eq_getElem h]
    rw [e, List.set_getElem_self]
  · rw [List.set_eq_of_length_le (by simpa using h)]
theorem mTo_files (ts : List Table) (cs : List Change) : ∀ k, (mTo ts cs k).1.map (·.file) = ts.map (·.file)
  | 0 => rfl
  | k + 1 => by
    have ih := mTo_files ts cs k
    simp only [mTo, mStep]
    split
    · exact ih
    · simp only
      rw [set_files]
      exact ih
theorem findT_files {a b : List Table} (h : a.map (·.file) = b.map (·.file)) (n : ByteArray) : findT a n = findT b n := by
  have hl : a.length = b.length := by have := congrArg List.length h; simpa using this
  have hg : nameHit a n = nameHit b n := by
    funext i
    unfold nameHit
    have e : ∀ l : List Table, (l.getD i zTable).file = (l.map (·.file)).getD i zFile := fun l => by
      simp only [List.getD, List.getElem?_map]
      cases l[i]? <;> rfl
    rw [e a, e b, h]
  unfold findT
  rw [hg, hl]
theorem mTo_find (ts : List Table) (cs : List Change) (k : Nat) (n : ByteArray) : findT (mTo ts cs k).1 n = findT ts n := findT_files (mTo_files ts cs k) n
theorem find_name {l : List Table} {n : ByteArray} (h : 0 ≤ findT l n) : (l.getD (findT l n).toNat zTable).file.name = n := by
  unfold findT at h ⊢
  cases hf : firstBad (nameHit l n) l.length with
  | none => rw [hf] at h; simp at h
  | some i =>
    have := firstBad_val hf
    unfold nameHit at this
    simp only [Int.toNat_natCast]
    split at this
    · assumption
    · exact absurd rfl this
theorem find_some {l : List Table} {n : ByteArray} (h : thereT l n = true) : 0 ≤ findT l n := by
  unfold findT
  cases hf : firstBad (nameHit l n) l.length with
  | some i => simp
  | none =>
    exfalso
    have ha := firstBad_all hf
    unfold thereT at h
    rw [List.any_eq_true] at h
    obtain ⟨t, ht, hn⟩ := h
    obtain ⟨j, hj, rfl⟩ := List.getElem_of_mem ht
    have := ha j hj
    unfold nameHit at this
    have e : l.getD j zTable = l[j] := by simp [List.getD, List.getElem?_eq_getElem hj]
    rw [e, if_pos (by simpa using hn)] at this
    cases this
def tabK (ts : List Table) (cs : List Change) (f : ByteArray) (k : Nat) : Table := (mTo ts cs k).1.getD (findT ts f).toNat zTable
theorem tabK_other {ts : List Table} {cs : List Change} {f : ByteArray} {k : Nat} (hf : 0 ≤ findT ts f) (h : ¬(cs.getD k zChange).file = f) : tabK ts cs f (k + 1) = tabK ts cs f k := by
  unfold tabK
  by_cases hn : findT (mTo ts cs k).1 (cs.getD k zChange).file < 0
  · rw [mTo_skip hn]
  · rw [mTo_at (by omega), mTo_find] at *
    simp only
    rw [getD_setL, if_neg]
    rintro ⟨e, _⟩
    have a := find_name (l := ts) (n := (cs.getD k zChange).file) (by omega)
    have b := find_name hf
    rw [e, b] at a
    exact h a.symm
theorem tabK_same {ts : List Table} {cs : List Change} {k : Nat} (hf : 0 ≤ findT ts (cs.getD k zChange).file) : tabK ts cs (cs.getD k zChange).file (k + 1) = withT (tabK ts cs (cs.getD k zChange).file k) (cs.getD k zChange).rrn (recOf (cs.getD k zChange)) := by
  unfold tabK
  have hb := findT_lt ts (cs.getD k zChange).file
  have hl := mTo_len ts cs k
  rw [mTo_at (by rw [mTo_find]; exact hf), mTo_find]
  simp only
  rw [getD_setL, if_pos ⟨rfl, by omega⟩]
theorem with_same {t : Table} {n : Int} {r : Rec} (h1 : 1 ≤ n) (h2 : n ≤ (t.records.length : Int) + 1) : n ≤ ((withT t n r).records.length : Int) ∧ (withT t n r).records.getD (n - 1).toNat zRec = r := by
  unfold withT
  simp only
  split
  · have e : (n - 1).toNat = t.records.length := by omega
    refine ⟨by simp; omega, ?_⟩
    rw [e]
    simp [List.getD]
  · refine ⟨by simp; omega, ?_⟩
    rw [getD_setL, if_pos ⟨rfl, by omega⟩]
theorem with_other {t : Table} {n m : Int} {r : Rec} (h1 : 1 ≤ n) (h3 : 1 ≤ m) (hm : m ≤ (t.records.length : Int)) (hne : ¬n = m) : m ≤ ((withT t n r).records.length : Int) ∧ (withT t n r).records.getD (m - 1).toNat zRec = t.records.getD (m - 1).toNat zRec := by
  unfold withT
  simp only
  split
  · refine ⟨by simp; omega, ?_⟩
    simp only [List.getD]
    rw [List.getElem?_append_left (by omega)]
  · refine ⟨by simp; omega, ?_⟩
    rw [getD_setL, if_neg (by omega)]
def lst (cs : List Change) (f : ByteArray) (r : Int) : Nat → Option ByteArray
  | 0 => none
  | k + 1 => if (cs.getD k zChange).file = f ∧ (cs.getD k zChange).rrn = r then some (cs.getD k zChange).after else lst cs f r k
theorem mErr_tab {ts : List Table} {cs : List Change} {k : Nat} (hf : 0 ≤ findT ts (cs.getD k zChange).file) (h : mErr ts cs k = 0) : chgErr (tabK ts cs (cs.getD k zChange).file k) (cs.getD k zChange) = 0 := by
  rw [mErr_at (by rw [mTo_find]; exact hf), mTo_find] at h
  exact h
theorem lst_tab {ts : List Table} {cs : List Change} {f : ByteArray} {r : Int} (hf : 0 ≤ findT ts f) (h1 : 1 ≤ r) : ∀ {k : Nat}, (∀ j, j < k → mErr ts cs j = 0) → ∀ b, lst cs f r k = some b →
    r ≤ ((tabK ts cs f k).records.length : Int) ∧ ((tabK ts cs f k).records.getD (r - 1).toNat zRec).bytes = b
  | 0, _, b, h => by cases h
  | k + 1, he, b, h => by
    simp only [lst] at h
    by_cases hm : (cs.getD k zChange).file = f ∧ (cs.getD k zChange).rrn = r
    · rw [if_pos hm] at h
      cases h
      obtain ⟨m1, m2⟩ := hm
      subst m1
      have hc := mErr_tab hf (he k (by omega))
      have hp := chgErr_pos hc
      rw [tabK_same hf]
      have hw := with_same (r := recOf (cs.getD k zChange)) hp.1 hp.2
      rw [m2] at hw
      rw [m2, hw.2]
      exact ⟨hw.1, rfl⟩
    · rw [if_neg hm] at h
      obtain ⟨i1, i2⟩ := lst_tab hf h1 (k := k) (fun j hj => he j (by omega)) b h
      by_cases hn : (cs.getD k zChange).file = f
      · subst hn
        have hc := mErr_tab hf (he k (by omega))
        have hp := chgErr_pos hc
        rw [tabK_same hf]
        have hw := with_other (r := recOf (cs.getD k zChange)) hp.1 h1 i1 (fun e => hm ⟨rfl, e⟩)
        rw [hw.2]
        exact ⟨hw.1, i2⟩
      · rw [tabK_other hf hn]
        exact ⟨i1, i2⟩
theorem lst_before {ts : List Table} {cs : List Change} {k : Nat} (hf : 0 ≤ findT ts (cs.getD k zChange).file) (he : ∀ j, j < k + 1 → mErr ts cs j = 0) {b : ByteArray} (h : lst cs (cs.getD k zChange).file (cs.getD k zChange).rrn k = some b) : (cs.getD k zChange).before = b := by
  have hc := mErr_tab hf (he k (by omega))
  have hp := chgErr_pos hc
  obtain ⟨i1, i2⟩ := lst_tab hf hp.1 (k := k) (fun j hj => he j (by omega)) b h
  rw [← chg_before hc i1]
  exact i2
theorem entry_place {e : Entry} (h : entryErr e = 0) (hk : e.kind = 0) : isName e.change.file = true ∧ 1 ≤ e.change.rrn ∧ e.change.rrn ≤ 60 := by
  unfold entryErr at h
  split at h
  · cases h
  split at h
  · cases h
  split at h
  · cases h
  split at h
  · cases h
  split at h
  · cases h
  split at h
  · rename_i q; exact absurd hk q.1
  split at h
  · cases h
  rename_i hn
  split at h
  · rename_i q; omega
  unfold changeErr at h
  split at h
  · cases h
  split at h
  · cases h
  refine ⟨by simpa using hn, by omega, by omega⟩
theorem imgs_hit {l : List Entry} {c : Change} {i : Nat} (hi : i < l.length) (h : hits c (l.getD i zEntry) = true) :
    imgs c.file c.rrn (l.take (i + 1)) = (if imgs c.file c.rrn (l.take i) = [] then [(l.getD i zEntry).change.before] else imgs c.file c.rrn (l.take i)) ++ [(l.getD i zEntry).change.after] := by
  rw [imgs_take hi, imgStep, if_pos (hits_iff.1 h)]
theorem imgs_miss {l : List Entry} {c : Change} {i : Nat} (hi : i < l.length) (h : ¬hits c (l.getD i zEntry) = true) : imgs c.file c.rrn (l.take (i + 1)) = imgs c.file c.rrn (l.take i) := by
  rw [imgs_take hi, imgStep, if_neg (fun e => h (hits_iff.2 e))]
theorem imgs_cnt {l : List Entry} {c : Change} : ∀ {i : Nat}, i ≤ l.length → (imgs c.file c.rrn (l.take i)).length = if cntM l c i = 0 then 0 else cntM l c i + 1
  | 0, _ => rfl
  | i + 1, hi => by
    have ih := imgs_cnt (l := l) (c := c) (i := i) (by omega)
    by_cases h : hits c (l.getD i zEntry) = true
    · have z1 : ¬cntM l c i + 1 = 0 := by omega
      rw [imgs_hit (by omega) h, cnt_yes (by omega) h, if_neg z1]
      by_cases e : imgs c.file c.rrn (l.take i) = []
      · rw [if_pos e]
        rw [e] at ih
        by_cases z : cntM l c i = 0
        · rw [z]; rfl
        · rw [if_neg z] at ih; simp at ih
      · rw [if_neg e, List.length_append, ih]
        by_cases z : cntM l c i = 0
        · rw [if_pos z] at ih; exact absurd (List.eq_nil_of_length_eq_zero ih) e
        · rw [if_neg z]; simp
    · rw [imgs_miss (by omega) h, cnt_no (by omega) h]; exact ih
theorem imgs_pre {l : List Entry} {c : Change} {i : Nat} : ∀ {j : Nat}, i ≤ j → j ≤ l.length → ¬imgs c.file c.rrn (l.take i) = [] → imgs c.file c.rrn (l.take i) <+: imgs c.file c.rrn (l.take j)
  | 0, h, _, _ => by rw [show i = 0 by omega]; exact List.prefix_refl _
  | j + 1, h, hj, hne => by
    by_cases e : i = j + 1
    · subst e; exact List.prefix_refl _
    · have ih := imgs_pre (l := l) (c := c) (i := i) (j := j) (by omega) (by omega) hne
      by_cases q : hits c (l.getD j zEntry) = true
      · rw [imgs_hit (by omega) q, if_neg (fun e => by rw [e] at ih; exact hne (List.prefix_nil.1 ih))]
        exact ih.trans (List.prefix_append _ _)
      · rw [imgs_miss (by omega) q]; exact ih
def recsTo (l : List Entry) (i : Nat) : Nat := ((l.take i).filter fun x => decide (x.kind = 0)).length
def chOf (l : List Entry) : List Change := (l.filter fun x => decide (x.kind = 0)).map (·.change)
theorem recs_yes {l : List Entry} {i : Nat} (hi : i < l.length) (h : (l.getD i zEntry).kind = 0) : recsTo l (i + 1) = recsTo l i + 1 := by
  unfold recsTo
  rw [take_getD zEntry hi, List.filter_append]
  simp only [List.filter_cons, h, decide_true, if_true, List.filter_nil, List.length_append, List.length_cons, List.length_nil]
theorem recs_no {l : List Entry} {i : Nat} (hi : i < l.length) (h : ¬(l.getD i zEntry).kind = 0) : recsTo l (i + 1) = recsTo l i := by
  unfold recsTo
  rw [take_getD zEntry hi, List.filter_append]
  simp only [List.filter_cons, h, decide_false, Bool.false_eq_true, if_false, List.filter_nil, List.append_nil]
theorem chOf_get {l : List Entry} {i : Nat} (hi : i < l.length) (h : (l.getD i zEntry).kind = 0) : recsTo l i < (chOf l).length ∧ (chOf l).getD (recsTo l i) zChange = (l.getD i zEntry).change := by
  have e : l = l.take i ++ l.getD i zEntry :: l.drop (i + 1) := by
    have : l.drop i = l.getD i zEntry :: l.drop (i + 1) := by
      rw [List.drop_eq_getElem_cons hi]; simp [List.getD, List.getElem?_eq_getElem hi]
    rw [← this, List.take_append_drop]
  have f : chOf l = ((l.take i).filter fun x => decide (x.kind = 0)).map (·.change) ++ (l.getD i zEntry).change :: ((l.drop (i + 1)).filter fun x => decide (x.kind = 0)).map (·.change) := by
    unfold chOf
    conv => lhs; rw [e]
    rw [List.filter_append, List.map_append, List.filter_cons, if_pos (by simpa using h), List.map_cons]
  refine ⟨by rw [f]; simp [recsTo], ?_⟩
  rw [f]
  simp only [List.getD]
  rw [List.getElem?_append_right (by simp [recsTo])]
  simp [recsTo]
theorem lst_imgs {l : List Entry} {c : Change} : ∀ {i : Nat}, i ≤ l.length → ¬cntM l c i = 0 → lst (chOf l) c.file c.rrn (recsTo l i) = some ((imgs c.file c.rrn (l.take i)).getD (cntM l c i) ⟨#[]⟩)
  | 0, _, h => absurd rfl h
  | i + 1, hi, h => by
    by_cases hk : (l.getD i zEntry).kind = 0
    · obtain ⟨g1, g2⟩ := chOf_get (by omega) hk
      rw [recs_yes (by omega) hk]
      simp only [lst]
      rw [g2]
      by_cases q : hits c (l.getD i zEntry) = true
      · have q2 := hits_iff.1 q
        rw [if_pos ⟨q2.2.1, q2.2.2⟩, imgs_hit (by omega) q, cnt_yes (by omega) q]
        have hl := imgs_cnt (l := l) (c := c) (i := i) (by omega)
        congr 1
        by_cases z : imgs c.file c.rrn (l.take i) = []
        · rw [if_pos z]
          rw [z] at hl
          by_cases y : cntM l c i = 0
          · rw [y]; rfl
          · rw [if_neg y] at hl; simp at hl
        · rw [if_neg z]
          by_cases y : cntM l c i = 0
          · rw [if_pos y] at hl; exact absurd (List.eq_nil_of_length_eq_zero hl) z
          · rw [if_neg y] at hl
            simp only [List.getD]
            rw [List.getElem?_append_right (by omega), hl]
            simp
      · rw [if_neg (fun e => q (hits_iff.2 ⟨hk, e.1, e.2⟩)), imgs_miss (by omega) q]
        rw [cnt_no (by omega) q] at h ⊢
        exact lst_imgs (by omega) h
    · have q : ¬hits c (l.getD i zEntry) = true := fun e => hk (hits_iff.1 e).1
      rw [recs_no (by omega) hk, imgs_miss (by omega) q]
      rw [cnt_no (by omega) q] at h ⊢
      exact lst_imgs (by omega) h
theorem pre_getD {p s : List ByteArray} (h : p <+: s) {k : Nat} (hk : k < p.length) (z : ByteArray) : s.getD k z = p.getD k z := by
  obtain ⟨q, rfl⟩ := h
  simp only [List.getD]
  rw [List.getElem?_append_left hk]
theorem cnt_mono {l : List Entry} {c : Change} {i : Nat} : ∀ {j : Nat}, i ≤ j → j ≤ l.length → cntM l c i ≤ cntM l c j
  | 0, h, _ => by rw [show i = 0 by omega]; exact Nat.le_refl _
  | j + 1, h, hj => by
    by_cases e : i = j + 1
    · rw [e]; exact Nat.le_refl _
    · have ih := cnt_mono (l := l) (c := c) (i := i) (j := j) (by omega) (by omega)
      by_cases q : hits c (l.getD j zEntry) = true
      · rw [cnt_yes (by omega) q]; omega
      · rw [cnt_no (by omega) q]; exact ih
theorem follows_ok {ts : List Table} {l : List Entry} {i : Nat} (hA : (applyT ts l (l.getD (l.length - 1) zEntry).number).2.2 = 0) (hi : i < l.length) (hk : (l.getD i zEntry).kind = 0) : followsC ts l (l.getD i zEntry).change = true := by
  obtain ⟨h1, _, _, h4⟩ := apply_ok hA
  have hq := (chkE_ok h1).2
  have hc : changesOf ⟨true, (l.getD (l.length - 1) zEntry).number⟩ false l = chOf l := by
    show chgsOf _ _ _ = _
    exact all_taken hq
  rw [h4, hc] at hA
  have hm := (made_ok hA).1
  have hp := entry_place (check_all hq hi).1 hk
  generalize hce : (l.getD i zEntry).change = c at hp ⊢
  have hit : hits c (l.getD i zEntry) = true := hits_iff.2 ⟨hk, by rw [hce], by rw [hce]⟩
  have him : imagesC l c.file c.rrn = (imgs c.file c.rrn l, 0) := img_ok hq hp.1 (by omega)
  have hlen := imgs_cnt (l := l) (c := c) (i := l.length) (Nat.le_refl _)
  rw [List.take_length] at hlen
  have hcy := cnt_yes hi hit
  have hcm := cnt_mono (l := l) (c := c) (i := i + 1) (j := l.length) (by omega) (Nat.le_refl _)
  rw [if_neg (by omega)] at hlen
  rw [fol_end (i := l.length) (by rw [him]; exact ⟨rfl, by simp only; omega⟩) ?_ rfl]
  · rw [him]; simp only; rw [hlen]; simp
  · intro j hj
    by_cases q : hits c (l.getD j zEntry) = true
    · have q2 := hits_iff.1 q
      have cy := cnt_yes hj q
      have cm := cnt_mono (l := l) (c := c) (i := j + 1) (j := l.length) (by omega) (Nat.le_refl _)
      have hh := imgs_hit hj q
      have lj := imgs_cnt (l := l) (c := c) (i := j) (by omega)
      have lj1 := imgs_cnt (l := l) (c := c) (i := j + 1) (by omega)
      rw [if_neg (by omega), cy] at lj1
      have hne : ¬imgs c.file c.rrn (l.take (j + 1)) = [] := fun e => by rw [e] at lj1; simp at lj1
      have pf := imgs_pre (l := l) (c := c) (i := j + 1) (j := l.length) (by omega) (Nat.le_refl _) hne
      rw [List.take_length] at pf
      unfold folBad
      rw [if_pos q, him]
      simp only
      rw [if_neg]
      rintro (a | ⟨a1, a2⟩ | a)
      · omega
      · apply a2
        rw [pre_getD pf (by omega)]
        by_cases z : cntM l c j = 0
        · rw [if_pos z] at lj
          have e := List.eq_nil_of_length_eq_zero lj
          rw [hh, if_pos e, z]; rfl
        · rw [if_neg z] at lj
          have e : ¬imgs c.file c.rrn (l.take j) = [] := fun e => by rw [e] at lj; simp at lj
          have hl := lst_imgs (l := l) (c := c) (i := j) (by omega) z
          obtain ⟨g1, g2⟩ := chOf_get hj q2.1
          rw [hh, if_neg e, pre_getD (List.prefix_append _ _) (by omega)]
          have hf : 0 ≤ findT ts ((chOf l).getD (recsTo l j) zChange).file := by rw [g2, q2.2.1]; exact find_some a1
          have hb := lst_before (ts := ts) (cs := chOf l) (k := recsTo l j) hf (fun m hmm => hm m (by omega)) (by rw [g2, q2.2.1, q2.2.2]; exact hl)
          rw [g2] at hb
          exact hb.symm
      · apply a
        rw [pre_getD pf (by omega), hh]
        simp only [List.getD]
        by_cases z : imgs c.file c.rrn (l.take j) = []
        · rw [if_pos z]
          rw [z] at lj
          by_cases y : cntM l c j = 0
          · rw [y]; rfl
          · rw [if_neg y] at lj; simp at lj
        · rw [if_neg z]
          by_cases y : cntM l c j = 0
          · rw [if_pos y] at lj; exact absurd (List.eq_nil_of_length_eq_zero lj) z
          · rw [if_neg y] at lj
            rw [List.getElem?_append_right (by omega), lj]
            simp
    · exact folBad_no q
end Go.Ev

namespace Go.Ev
open Go.Proofs Ty
set_option maxRecDepth 10000
set_option maxHeartbeats 4000000
set_option linter.unusedSimpArgs false
set_option linter.unusedVariables false
noncomputable def e5 : List O → Option (Prop × O)
  | [.d x_ts, .d x_l] => match decL 6 decTable x_ts, decL 8 decEntry x_l with
    | some ts, some l => some (True, .d (.b true))
    | _, _ => none
  | _ => none
noncomputable def tab5 : FuncId → List O → Option (Prop × O) := addT tab21 5 e5
end Go.Ev

namespace Go.Ev
def recR (f : Fmt) (r : Rec) : Int := if r.deleted = true then (if r.bytes ≠ ⟨#[]⟩ then 5 else 0) else (valuesC f r.bytes).2.2
structure RightT (t : Table) : Prop where
  file : (fileErr t.file).2 = 0
  len : t.records.length ≤ 60
  recs : ∀ i, i < t.records.length → recR t.file.format (t.records.getD i zRec) = 0
theorem right_of {t : Table} (h : (tableErr t).2 = 0) : RightT t := by
  unfold tableErr at h
  split at h
  · rename_i h2; exact absurd h h2
  split at h
  · cases h
  rename_i h1 h2
  cases hf : firstBad (recE t) t.records.length with
  | some i => rw [hf] at h; exact absurd h (firstBad_val hf)
  | none => exact ⟨Decidable.not_not.1 h1, by omega, fun i hi => firstBad_all hf i hi⟩
theorem of_right {t : Table} (h : RightT t) : (tableErr t).2 = 0 := by
  rw [table_end ⟨h.file, h.len⟩ (fun j hj => h.recs j hj) (Nat.le_refl _)]
structure ChgOk (t : Table) (c : Change) : Prop where
  right : RightT t
  file : c.file = t.file.name
  kind : c.kind = 0 ∨ c.kind = 1 ∨ c.kind = 2
  lo : 1 ≤ c.rrn
  form0 : c.kind = 0 → c.before = ⟨#[]⟩
  form2 : c.kind = 2 → c.after = ⟨#[]⟩
  ins : c.kind = 0 → c.rrn ≤ (t.records.length : Int) + 1 ∧ c.rrn ≤ 60 ∧ (c.rrn ≤ (t.records.length : Int) → (recAt t c).deleted = true)
  upd : c.kind ≠ 0 → c.rrn ≤ (t.records.length : Int) ∧ (recAt t c).deleted = false ∧ (recAt t c).bytes = c.before
  val : c.kind ≠ 2 → (valuesC t.file.format c.after).2.2 = 0
theorem chgOk_of {t : Table} {c : Change} (h : chgErr t c = 0) : ChgOk t c := by
  have hh := chgErr_ok h
  obtain ⟨h1, h2, h3, h4, h5, h6, h7⟩ := chHead_ok hh
  have hp : placeErr t c = 0 := by
    unfold chgErr at h
    rw [if_neg (fun e => e hh)] at h
    split at h
    · exact h
    · rename_i q; exact Decidable.byContradiction fun e => q (.inl e)
  have hv : c.kind ≠ 2 → (valuesC t.file.format c.after).2.2 = 0 := by
    intro h2
    unfold chgErr at h
    rw [if_neg (fun e => e hh), if_neg (by rintro (e | e); exact e hp; exact h2 e)] at h
    exact h
  refine ⟨right_of h1, h2, by omega, h5, ?_, ?_, ?_, ?_, hv⟩
  · intro k; unfold formBad at h7; simp [k] at h7; exact h7
  · intro k; unfold formBad at h7; simp [k] at h7; exact h7
  · intro k
    unfold mostAt at h6
    rw [if_pos k] at h6
    unfold placeErr at hp
    rw [if_pos k] at hp
    have hg : goneAt t c = true := by
      cases e : goneAt t c with
      | true => rfl
      | false => simp [firstE, e] at hp
    have h60 : ¬60 < c.rrn := by
      intro e
      simp [firstE, hg, e] at hp
    refine ⟨h6, by omega, fun hl => ?_⟩
    unfold goneAt at hg
    rw [show decide (c.rrn = (t.records.length : Int) + 1) = false by simp; omega, Bool.false_or] at hg
    exact hg
  · intro k
    unfold mostAt at h6
    rw [if_neg k] at h6
    unfold placeErr at hp
    rw [if_neg k] at hp
    have hg : goneAt t c = false := by
      cases e : goneAt t c with
      | false => rfl
      | true => rw [e] at hp; simp at hp
    rw [if_neg (by simp [hg])] at hp
    refine ⟨h6, ?_, ?_⟩
    · unfold goneAt at hg
      rw [Bool.or_eq_false_iff] at hg
      exact hg.2
    · split at hp
      · cases hp
      · rename_i q; exact Decidable.not_not.1 q
theorem of_chgOk {t : Table} {c : Change} (h : ChgOk t c) : chgErr t c = 0 := by
  have hm : c.rrn ≤ mostAt t c := by
    unfold mostAt
    split
    · exact (h.ins ‹_›).1
    · exact (h.upd ‹_›).1
  have hf : formBad c = false := by
    unfold formBad
    have f0 := h.form0; have f2 := h.form2
    rw [Bool.or_eq_false_iff]
    constructor
    · by_cases k : c.kind = 0
      · simp [k, f0 k]
      · simp [k]
    · by_cases k : c.kind = 2
      · simp [k, f2 k]
      · simp [k]
  have hk := h.kind
  have hlo := h.lo
  have hh : chHead t c = 0 := by
    unfold chHead
    rw [if_neg (fun e => e (of_right h.right)), if_neg (fun e => e h.file), if_neg (by omega), if_neg (by omega), if_neg (by simp [hf])]
  have hp : placeErr t c = 0 := by
    unfold placeErr
    by_cases k : c.kind = 0
    · rw [if_pos k]
      obtain ⟨i1, i2, i3⟩ := h.ins k
      have hg : goneAt t c = true := by
        unfold goneAt
        by_cases e : c.rrn = (t.records.length : Int) + 1
        · simp [e]
        · rw [i3 (by omega)]; simp
      have e60 : ¬60 < c.rrn := by omega
      simp [firstE, hg, e60]
    · rw [if_neg k]
      obtain ⟨u1, u2, u3⟩ := h.upd k
      have hg : goneAt t c = false := by
        unfold goneAt
        have e : ¬c.rrn = (t.records.length : Int) + 1 := by omega
        simp [e, u2]
      rw [if_neg (by simp [hg]), if_neg (fun e => e u3)]
  unfold chgErr
  rw [if_neg (fun e => e hh)]
  split
  · exact hp
  · rename_i q; exact h.val fun e => q (.inr e)
theorem withT_len (t : Table) (n : Int) (r : Rec) : ((withT t n r).records.length : Int) = if (t.records.length : Int) < n then (t.records.length : Int) + 1 else t.records.length := by
  unfold withT
  simp only
  split
  · simp
  · simp
theorem right_with {t : Table} {c : Change} (h : ChgOk t c) : RightT (withT t c.rrn (recOf c)) := by
  have hl := withT_len t c.rrn (recOf c)
  have hp : c.rrn ≤ (t.records.length : Int) + 1 ∧ c.rrn ≤ 60 := by
    have := h.right.len
    by_cases k : c.kind = 0
    · have := h.ins k; omega
    · have := h.upd k; omega
  have h60 := h.right.len
  have hlo := h.lo
  refine ⟨h.right.file, by split at hl <;> omega, fun i hi => ?_⟩
  show recR t.file.format _ = 0
  by_cases e : i = (c.rrn - 1).toNat
  · subst e
    rw [(with_same (r := recOf c) h.lo hp.1).2]
    unfold recR recOf
    by_cases k : c.kind = 2
    · rw [if_pos (by simp [k]), if_neg (fun e => e (h.form2 k))]
    · rw [if_neg (by simp [k])]; exact h.val k
  · have hi2 : i < t.records.length := by split at hl <;> omega
    have hw := (with_other (t := t) (r := recOf c) (n := c.rrn) (m := (i : Int) + 1) h.lo (by omega) (by omega) (by omega)).2
    rw [show ((i : Int) + 1 - 1).toNat = i by omega] at hw
    rw [hw]
    exact h.right.recs i hi2
def delR : Rec := ⟨true, ⟨#[]⟩⟩
def extT (a b : Table) : Prop := b.file = a.file ∧ ∃ k, b.records = a.records ++ List.replicate k delR
def rv (c : Change) : Change := (reversedC c).1
theorem rv_eq {c : Change} (h : c.kind = 0 ∨ c.kind = 1 ∨ c.kind = 2) : rv c = ⟨c.file, revKind c.kind, c.rrn, c.after, c.before⟩ := by
  unfold rv reversedC
  rw [if_pos (by omega)]
theorem undo_at {t u : Table} {c : Change} (h : ChgOk t c) (hx : extT (withT t c.rrn (recOf c)) u) (hu : RightT u) : ChgOk u (rv c) ∧ extT t (withT u (rv c).rrn (recOf (rv c))) := by
  have hlo := h.lo
  obtain ⟨hf, k, hr⟩ := hx
  have hf : u.file = t.file := hf
  have hp : c.rrn ≤ (t.records.length : Int) + 1 := by
    by_cases k : c.kind = 0
    · exact (h.ins k).1
    · have := (h.upd k).1; omega
  have hw := with_same (r := recOf c) hlo hp
  have hul : u.records.length = (withT t c.rrn (recOf c)).records.length + k := by rw [hr]; simp
  have hat : u.records.getD (c.rrn - 1).toNat zRec = recOf c := by
    have e : u.records.getD (c.rrn - 1).toNat zRec = (withT t c.rrn (recOf c)).records.getD (c.rrn - 1).toNat zRec := by
      simp only [List.getD]
      rw [hr, List.getElem?_append_left (by omega)]
    rw [e]; exact hw.2
  have hkr : c.kind = 0 ∧ revKind c.kind = 2 ∨ c.kind = 1 ∧ revKind c.kind = 1 ∨ c.kind = 2 ∧ revKind c.kind = 0 := by
    rcases h.kind with e | e | e <;> rw [e] <;> simp [revKind]
  have hk2 : revKind c.kind = 2 ↔ c.kind = 0 := by omega
  have hk0 : revKind c.kind = 0 ↔ c.kind = 2 := by omega
  rw [rv_eq h.kind]
  have hu60 := hu.len
  constructor
  · refine ⟨hu, by rw [hf]; exact h.file, by simp only; omega, hlo, fun e => h.form2 (hk0.1 e), fun e => h.form0 (hk2.1 e), fun e => ⟨by simp only; omega, by simp only; omega, fun _ => ?_⟩, fun e => ⟨by simp only; omega, ?_, ?_⟩, fun e => ?_⟩
    · show (u.records.getD (c.rrn - 1).toNat zRec).deleted = true
      rw [hat]; simp [recOf, hk0.1 e]
    · show (u.records.getD (c.rrn - 1).toNat zRec).deleted = false
      have : ¬c.kind = 2 := fun q => e (hk0.2 q)
      rw [hat]; simp [recOf, this]
    · show (u.records.getD (c.rrn - 1).toNat zRec).bytes = c.after
      rw [hat]; rfl
    · have k0 : c.kind ≠ 0 := fun q => e (hk2.2 q)
      obtain ⟨u1, u2, u3⟩ := h.upd k0
      have hg := h.right.recs (c.rrn - 1).toNat (by omega)
      unfold recR at hg
      unfold recAt at u2 u3
      rw [if_neg (by rw [u2]; decide), u3] at hg
      rw [hf]; exact hg
  · refine ⟨hf, ?_⟩
    by_cases hn : (t.records.length : Int) < c.rrn
    · have k0 : c.kind = 0 := Decidable.byContradiction fun e => by have := (h.upd e).1; omega
      have hi : (c.rrn - 1).toNat = t.records.length := by omega
      have hul2 := withT_len t c.rrn (recOf c)
      rw [if_pos hn] at hul2
      refine ⟨k + 1, ?_⟩
      have he : u.records = t.records ++ recOf c :: List.replicate k delR := by
        rw [hr]; unfold withT; simp only [if_pos hn]; simp
      unfold withT
      simp only
      rw [if_neg (by omega), he, hi, List.set_append_right _ _ (Nat.le_refl _), Nat.sub_self, List.set_cons_zero, List.replicate_succ]
      have : recOf ⟨c.file, revKind c.kind, c.rrn, c.after, c.before⟩ = delR := by
        simp [recOf, delR, hk2.2 k0, h.form0 k0]
      rw [this]
    · refine ⟨k, ?_⟩
      have hi : (c.rrn - 1).toNat < t.records.length := by omega
      have he : u.records = t.records.set (c.rrn - 1).toNat (recOf c) ++ List.replicate k delR := by
        rw [hr]; unfold withT; simp only [if_neg hn]
      unfold withT
      simp only
      rw [if_neg (by omega), he, List.set_append_left _ _ (by simpa using hi), List.set_set]
      congr 1
      have hx : recOf ⟨c.file, revKind c.kind, c.rrn, c.after, c.before⟩ = t.records.getD (c.rrn - 1).toNat zRec := by
        by_cases k0 : c.kind = 0
        · have hd := (h.ins k0).2.2 (by omega)
          have hg := h.right.recs (c.rrn - 1).toNat hi
          unfold recAt at hd
          unfold recR at hg
          rw [if_pos hd] at hg
          have hb : (t.records.getD (c.rrn - 1).toNat zRec).bytes = ⟨#[]⟩ := by
            split at hg
            · cases hg
            · rename_i q; exact Decidable.not_not.1 q
          simp only [recOf, hk2.2 k0, h.form0 k0]
          generalize t.records.getD (c.rrn - 1).toNat zRec = r at hd hb
          cases r; simp_all
        · obtain ⟨u1, u2, u3⟩ := h.upd k0
          have hnk : ¬revKind c.kind = 2 := fun e => k0 (hk2.1 e)
          unfold recAt at u2 u3
          simp only [recOf]
          generalize t.records.getD (c.rrn - 1).toNat zRec = r at u2 u3
          cases r; simp_all
      rw [hx]
      have e : t.records.getD (c.rrn - 1).toNat zRec = t.records[(c.rrn - 1).toNat]'hi := by simp only [List.getD, List.getElem?_eq_getElem hi, Option.getD_some]
      rw [e, List.set_getElem_self]
structure TabsR (l : List Table) : Prop where
  len : l.length ≤ 8
  right : ∀ i, i < l.length → RightT (l.getD i zTable)
  once : ∀ i, i < l.length → (i : Int) ≤ findT l (l.getD i zTable).file.name
theorem tabs_of {l : List Table} (h : tablesErr l = 0) : TabsR l := by
  unfold tablesErr at h
  split at h
  · cases h
  cases hf : firstBad (tabE l) l.length with
  | some i => rw [hf] at h; exact absurd h (firstBad_val hf)
  | none =>
    have ha := firstBad_all hf
    refine ⟨by omega, fun i hi => ?_, fun i hi => ?_⟩
    · have := ha i hi
      unfold tabE at this
      split at this
      · rename_i q; exact absurd this q
      · rename_i q; exact right_of (Decidable.not_not.1 q)
    · have := ha i hi
      unfold tabE at this
      split at this
      · rename_i q; exact absurd this q
      split at this
      · cases this
      · omega
theorem of_tabs {l : List Table} (h : TabsR l) : tablesErr l = 0 :=
  tabs_end h.len (fun j hj => tabE_ok (of_right (h.right j hj)) (h.once j hj)) (Nat.le_refl _)
def cond (s : List Table) (c : Change) : Int := if findT s c.file < 0 then 0 else chgErr (s.getD (findT s c.file).toNat zTable) c
def runOk (s : List Table × Int) (cs : List Change) : Prop := ∀ k, k < cs.length → cond ((cs.take k).foldl mStep s).1 (cs.getD k zChange) = 0
theorem runOk_cons {s : List Table × Int} {c : Change} {cs : List Change} : runOk s (c :: cs) ↔ cond s.1 c = 0 ∧ runOk (mStep s c) cs := by
  constructor
  · intro h
    refine ⟨by simpa using h 0 (by simp), fun k hk => ?_⟩
    simpa using h (k + 1) (by simpa using hk)
  · rintro ⟨h1, h2⟩ k hk
    cases k with
    | zero => simpa using h1
    | succ k => simpa using h2 k (by simpa using hk)
theorem runOk_nil {s : List Table × Int} : runOk s [] := fun k hk => by simp at hk
theorem runOk_append {a b : List Change} : ∀ {s : List Table × Int}, runOk s (a ++ b) ↔ runOk s a ∧ runOk (a.foldl mStep s) b := by
  induction a with
  | nil => intro s; simp [runOk_nil]
  | cons c a ih =>
    intro s
    rw [List.cons_append, runOk_cons, runOk_cons, ih, List.foldl_cons, and_assoc]
theorem mTo_run {ts : List Table} {cs : List Change} : ∀ {k : Nat}, k ≤ cs.length → mTo ts cs k = (cs.take k).foldl mStep (ts, 0)
  | 0, _ => rfl
  | k + 1, h => by
    rw [mTo, mTo_run (by omega), take_getD zChange (by omega), List.foldl_append]
    rfl
theorem made_run {ts : List Table} {cs : List Change} : (madeT ts cs).2.2 = 0 ↔ runOk (ts, 0) cs := by
  constructor
  · intro h k hk
    have := (made_ok h).1 k hk
    unfold mErr at this
    rw [mTo_run (by omega)] at this
    exact this
  · intro h
    rw [made_end (k := cs.length) (fun j hj => ?_) rfl]
    have := h j hj
    unfold mErr
    rw [mTo_run (by omega)]
    exact this
theorem made_eq {ts : List Table} {cs : List Change} (h : runOk (ts, 0) cs) : madeT ts cs = ((cs.foldl mStep (ts, 0)).1, (cs.foldl mStep (ts, 0)).2, 0) := by
  rw [(made_ok (made_run.2 h)).2, mTo_run (Nat.le_refl _), List.take_length]
def extL (a b : List Table) : Prop := a.length = b.length ∧ ∀ i, i < a.length → extT (a.getD i zTable) (b.getD i zTable)
theorem extT_refl (t : Table) : extT t t := ⟨rfl, 0, by simp⟩
theorem extL_refl (l : List Table) : extL l l := ⟨rfl, fun _ _ => extT_refl _⟩
theorem files_ext {a b : List Table} (h : extL a b) : a.map (·.file) = b.map (·.file) := by
  apply List.ext_getElem
  · simpa using h.1
  · intro i h1 h2
    have h1 : i < a.length := by simpa using h1
    have h2 : i < b.length := by simpa using h2
    have := (h.2 i h1).1
    simp only [List.getD, List.getElem?_eq_getElem h1, List.getElem?_eq_getElem h2, Option.getD_some] at this
    simpa using this.symm
theorem getD_file (l : List Table) (i : Nat) : (l.getD i zTable).file = (l.map (·.file)).getD i zFile := by
  simp only [List.getD, List.getElem?_map]
  cases l[i]? <;> rfl
theorem step_files (s : List Table × Int) (c : Change) : (mStep s c).1.map (·.file) = s.1.map (·.file) := by
  unfold mStep
  split
  · rfl
  · simp only
    rw [set_files]
theorem step_right {s : List Table × Int} {c : Change} (h : TabsR s.1) (hc : cond s.1 c = 0) : TabsR (mStep s c).1 := by
  have hf := step_files s c
  have hl : (mStep s c).1.length = s.1.length := by have := congrArg List.length hf; simpa using this
  refine ⟨by rw [hl]; exact h.len, fun i hi => ?_, fun i hi => ?_⟩
  · rw [hl] at hi
    unfold mStep
    split
    · exact h.right i hi
    · rename_i hn
      simp only
      unfold cond at hc
      rw [if_neg hn] at hc
      rw [getD_setL]
      split
      · exact right_with (chgOk_of hc)
      · exact h.right i hi
  · rw [hl] at hi
    rw [findT_files hf, getD_file, hf, ← getD_file]
    exact h.once i hi
theorem run_right {cs : List Change} : ∀ {s : List Table × Int}, TabsR s.1 → runOk s cs → TabsR (cs.foldl mStep s).1 := by
  induction cs with
  | nil => intro s h _; exact h
  | cons c cs ih =>
    intro s h hr
    have hr := runOk_cons.1 hr
    exact ih (step_right h hr.1) hr.2
theorem undo_step {s v : List Table × Int} {c : Change} (hk : c.kind = 0 ∨ c.kind = 1 ∨ c.kind = 2) (hc : cond s.1 c = 0) (hx : extL (mStep s c).1 v.1) (hv : TabsR v.1) :
    cond v.1 (rv c) = 0 ∧ extL s.1 (mStep v (rv c)).1 ∧ (mStep v (rv c)).2 - v.2 = (mStep s c).2 - s.2 := by
  have hfv : findT v.1 (rv c).file = findT s.1 c.file := by
    rw [rv_eq hk]
    rw [← findT_files (files_ext hx), findT_files (step_files s c)]
  have hlt := findT_lt s.1 c.file
  unfold cond at hc ⊢
  unfold mStep at hx ⊢
  rw [hfv]
  by_cases hn : findT s.1 c.file < 0
  · rw [if_pos hn, if_pos hn, if_pos hn]
    rw [if_pos hn] at hx
    exact ⟨rfl, hx, by omega⟩
  · rw [if_neg hn, if_neg hn, if_neg hn]
    rw [if_neg hn] at hx hc
    generalize hj : (findT s.1 c.file).toNat = j at *
    simp only at hx ⊢
    obtain ⟨hl, hx⟩ := hx
    rw [List.length_set] at hl hx
    have hjl : j < s.1.length := by omega
    have hj2 := hx j hjl
    rw [getD_setL, if_pos ⟨rfl, hjl⟩] at hj2
    obtain ⟨u1, u2⟩ := undo_at (chgOk_of hc) hj2 (hv.right j (by omega))
    refine ⟨of_chgOk u1, ⟨by simpa using hl, fun i hi => ?_⟩, by omega⟩
    rw [getD_setL]
    by_cases e : j = i
    · subst e
      rw [if_pos ⟨rfl, by omega⟩]
      exact u2
    · rw [if_neg (fun q => e q.1)]
      have := hx i hi
      rw [getD_setL, if_neg (fun q => e q.1)] at this
      exact this
theorem undo_run {cs : List Change} : ∀ {s u : List Table × Int}, (∀ c ∈ cs, c.kind = 0 ∨ c.kind = 1 ∨ c.kind = 2) → TabsR s.1 → runOk s cs → extL (cs.foldl mStep s).1 u.1 → TabsR u.1 →
    runOk u (cs.map rv).reverse ∧ extL s.1 ((cs.map rv).reverse.foldl mStep u).1 ∧ TabsR ((cs.map rv).reverse.foldl mStep u).1 ∧ ((cs.map rv).reverse.foldl mStep u).2 - u.2 = (cs.foldl mStep s).2 - s.2 := by
  induction cs with
  | nil => intro s u _ _ _ hx hu; exact ⟨runOk_nil, hx, hu, by simp⟩
  | cons c cs ih =>
    intro s u hk hs hr hx hu
    have hr := runOk_cons.1 hr
    rw [List.foldl_cons] at hx
    obtain ⟨i1, i2, i3, i4⟩ := ih (fun q hq => hk q (List.mem_cons_of_mem _ hq)) (step_right hs hr.1) hr.2 hx hu
    obtain ⟨j1, j2, j3⟩ := undo_step (hk c (List.mem_cons_self ..)) hr.1 i2 i3
    rw [List.map_cons, List.reverse_cons, List.foldl_append, List.foldl_cons, List.foldl_nil, List.foldl_cons]
    refine ⟨runOk_append.2 ⟨i1, runOk_cons.2 ⟨j1, runOk_nil⟩⟩, j2, step_right i3 j1, by omega⟩
theorem trim_rep (l : List Rec) (k : Nat) : trimR (l ++ List.replicate k delR) = trimR l := by
  unfold trimR
  rw [List.reverse_append, List.reverse_replicate]
  congr 1
  induction k with
  | zero => rfl
  | succ k ih =>
    rw [List.replicate_succ, List.cons_append, List.dropWhile_cons, if_pos (show delR.deleted = true from rfl)]
    exact ih
theorem trim_ext {a b : Table} (h : extT a b) : trimT b = trimT a := by
  obtain ⟨h1, k, h2⟩ := h
  unfold trimT
  rw [h1, h2, trim_rep]
theorem trims_ext {a b : List Table} (h : extL a b) : b.map trimT = a.map trimT := by
  apply List.ext_getElem
  · simpa using h.1.symm
  · intro i h1 h2
    have h1 : i < b.length := by simpa using h1
    have h2 : i < a.length := by simpa using h2
    have := trim_ext (h.2 i h2)
    simp only [List.getD, List.getElem?_eq_getElem h1, List.getElem?_eq_getElem h2, Option.getD_some] at this
    simpa using this
theorem val_size {f : Fmt} {b : ByteArray} (h : (valuesC f b).2.2 = 0) : (b.size : Int) ≤ 200 := by
  by_cases h1 : (fmtErr f).2 = 0
  · by_cases h2 : (b.size : Int) = sizeF f
    · have := (fmt_ok h1).2.2.2.2.1
      rw [h2]; exact this
    · rw [val_len h1 h2] at h; cases h
  · rw [val_fmt h1] at h; exact absurd h h1
theorem few_right {l : List Table} (h : TabsR l) : fewTs l = true := by
  refine few_end (by have := h.len; omega) (fun i hi => ?_) (Nat.le_refl _)
  have hr := h.right i hi
  have hf := file_ok hr.file
  have hm := fmt_ok hf.2.1
  refine tabBig_end (k := (l.getD i zTable).records.length) ?_ (fun k hk => ?_) (Nat.le_refl _)
  · unfold headBig
    have := hr.len
    omega
  · have hg := hr.recs k hk
    apply recBig_no
    unfold recR at hg
    split at hg
    · split at hg
      · cases hg
      · rename_i q
        rw [Decidable.not_not.1 q]; decide
    · have := val_size hg; omega
theorem alike_ext {a b : List Table} (h : extL a b) (hb : TabsR b) : alikeT b a = true := by
  unfold alikeT
  rw [few_right hb, trims_ext h]
  simp
end Go.Ev

namespace Go.Ev
theorem take_at {l : List Entry} {m j : Nat} (h : j < m) : (l.take m).getD j zEntry = l.getD j zEntry := by
  simp only [List.getD]; rw [List.getElem?_take_of_lt h]
theorem chk_take {l : List Entry} {m j : Nat} (h : j < m) (hc : chk l j) : chk (l.take m) j := by
  unfold chk at hc ⊢
  rw [take_at h, take_at (show ((j : Int) - 1).toNat < m by omega), List.take_take, Nat.min_eq_left (by omega)]
  exact hc
theorem checkFrom_ok {l : List Entry} : ∀ (n i : Nat), (∀ j, i ≤ j → j < i + n → chk l j) → (checkFrom l n i).2 = 0
  | 0, _, _ => rfl
  | n + 1, i, h => by
    obtain ⟨c1, c2, c3⟩ := h i (Nat.le_refl _) (by omega)
    unfold checkFrom
    rw [if_neg (fun e => e c1), if_neg c2, if_neg (fun e => e c3)]
    exact checkFrom_ok n (i + 1) fun j h1 h2 => h j (by omega) (by omega)
theorem check_take {l : List Entry} (h : (check l).2 = 0) (m : Nat) : (check (l.take m)).2 = 0 := by
  have hl := check_len h
  have hm : (l.take m).length ≤ l.length := by rw [List.length_take]; omega
  unfold check
  rw [if_neg (by omega)]
  refine checkFrom_ok _ _ fun j _ hj => ?_
  rw [List.length_take] at hj
  exact chk_take (by omega) (check_all h (by omega))
theorem tw_eq_take (l : List Entry) (n : Int) : uptoL l n = l.take (uptoL l n).length :=
  (List.prefix_iff_eq_take.1 (List.takeWhile_prefix _))
def numP (l : List Entry) : Prop := l.Pairwise fun a b => a.number < b.number
theorem numP_of {l : List Entry} (h : (check l).2 = 0) : numP l := by
  unfold numP
  rw [List.pairwise_iff_getElem]
  intro i j hi hj hij
  have := nums_lt (fun j hj => check_all h hj) i j hij hj
  simpa [List.getD, List.getElem?_eq_getElem hi, List.getElem?_eq_getElem hj] using this
theorem filter_none {l : List Entry} {p : Entry → Bool} (h : ∀ x ∈ l, p x = false) : l.filter p = [] := by
  rw [List.filter_eq_nil_iff]
  intro x hx; rw [h x hx]; decide
theorem filter_low {n : Int} : ∀ {l : List Entry}, numP l → l.filter (takenE ⟨true, n⟩) = (uptoL l n).filter fun x => decide (x.kind = 0)
  | [], _ => rfl
  | x :: l, h => by
    have h' := List.pairwise_cons.1 h
    by_cases e : x.number ≤ n
    · have ih := filter_low (n := n) h'.2
      have he : takenE ⟨true, n⟩ x = decide (x.kind = 0) := by simp [takenE, Want.has, e]
      unfold uptoL at ih ⊢
      rw [List.takeWhile_cons, if_pos (by simpa using e), List.filter_cons, List.filter_cons, he, ih]
    · unfold uptoL
      rw [List.takeWhile_cons, if_neg (by simpa using e), List.filter_nil]
      refine filter_none fun y hy => ?_
      have : n < y.number := by
        rcases List.mem_cons.1 hy with rfl | hy
        · omega
        · have := h'.1 y hy; omega
      simp [takenE, Want.has]
      intro _; exact this
theorem filter_split {n : Int} : ∀ {l : List Entry}, numP l → (l.filter fun x => decide (x.kind = 0)) = l.filter (takenE ⟨true, n⟩) ++ l.filter (takenE ⟨false, n + 1⟩)
  | [], _ => rfl
  | x :: l, h => by
    have h' := List.pairwise_cons.1 h
    by_cases e : x.number ≤ n
    · have ih := filter_split (n := n) h'.2
      have he : takenE ⟨true, n⟩ x = decide (x.kind = 0) := by simp [takenE, Want.has, e]
      have he2 : takenE ⟨false, n + 1⟩ x = false := by
        have : ¬n + 1 ≤ x.number := by omega
        simp [takenE, Want.has, this]
      rw [List.filter_cons, List.filter_cons, List.filter_cons, he, he2, ih]
      split <;> simp
    · have hz : (x :: l).filter (takenE ⟨true, n⟩) = [] := by
        refine filter_none fun y hy => ?_
        have : n < y.number := by
          rcases List.mem_cons.1 hy with rfl | hy
          · omega
          · have := h'.1 y hy; omega
        simp [takenE, Want.has]
        intro _; exact this
      rw [hz, List.nil_append]
      apply List.filter_congr
      intro y hy
      have : n + 1 ≤ y.number := by
        rcases List.mem_cons.1 hy with rfl | hy
        · omega
        · have := h'.1 y hy; omega
      simp [takenE, Want.has, this]
theorem filter_all {l : List Entry} (h : numP l) : l.filter (takenE ⟨false, (l.getD 0 zEntry).number⟩) = l.filter fun x => decide (x.kind = 0) := by
  apply List.filter_congr
  intro y hy
  have : (l.getD 0 zEntry).number ≤ y.number := by
    cases l with
    | nil => cases hy
    | cons x l =>
      simp only [List.getD_cons_zero]
      rcases List.mem_cons.1 hy with rfl | hy
      · exact Int.le_refl _
      · have := (List.pairwise_cons.1 h).1 y hy; omega
  simp only [takenE, Want.has, this, decide_true]
  simp
theorem map_rv (l : List Entry) : l.map (chgOf true) = (l.map (·.change)).map rv := by
  rw [List.map_map]; rfl
theorem map_ch (l : List Entry) : l.map (chgOf false) = l.map (·.change) := rfl
theorem entry_kind {e : Entry} (h : entryErr e = 0) (hk : e.kind = 0) : e.change.kind = 0 ∨ e.change.kind = 1 ∨ e.change.kind = 2 := by
  unfold entryErr at h
  split at h
  · cases h
  split at h
  · cases h
  split at h
  · cases h
  split at h
  · cases h
  split at h
  · cases h
  split at h
  · rename_i q; exact absurd hk q.1
  split at h
  · cases h
  split at h
  · rename_i q; omega
  unfold changeErr at h
  split at h
  · cases h
  omega
theorem kinds_ok {l : List Entry} (h : (check l).2 = 0) {p : Entry → Bool} (hp : ∀ x, p x = true → x.kind = 0) : ∀ c ∈ (l.filter p).map (·.change), c.kind = 0 ∨ c.kind = 1 ∨ c.kind = 2 := by
  intro c hc
  obtain ⟨x, hx, rfl⟩ := List.mem_map.1 hc
  obtain ⟨h1, h2⟩ := List.mem_filter.1 hx
  obtain ⟨j, hj, rfl⟩ := List.getElem_of_mem h1
  have := (check_all h hj).1
  simp only [List.getD, List.getElem?_eq_getElem hj, Option.getD_some] at this
  exact entry_kind this (hp _ h2)
theorem back_some {ts : List Table} {l : List Entry} {n : Int} (hA : (applyT ts l n).2.2 = 0) (h0 : 0 < (uptoL l n).length) :
    (removeT (applyT ts l n).1 (uptoL l n) ((uptoL l n).getD 0 zEntry).number).2.2 = 0 ∧
    (removeT (applyT ts l n).1 (uptoL l n) ((uptoL l n).getD 0 zEntry).number).2.1 = (applyT ts l n).2.1 ∧
    alikeT (removeT (applyT ts l n).1 (uptoL l n) ((uptoL l n).getD 0 zEntry).number).1 ts = true := by
  obtain ⟨h1, _, _, h4⟩ := apply_ok hA
  obtain ⟨ht, hq⟩ := chkE_ok h1
  have hP := numP_of hq
  have hu := tw_eq_take l n
  have hqs : (check (uptoL l n)).2 = 0 := by rw [hu]; exact check_take hq _
  have hc : changesOf ⟨true, n⟩ false l = ((uptoL l n).filter fun x => decide (x.kind = 0)).map (·.change) := by
    show (l.filter (takenE ⟨true, n⟩)).map (chgOf false) = _
    rw [filter_low hP, map_ch]
  have hr : changesOf ⟨false, ((uptoL l n).getD 0 zEntry).number⟩ true (uptoL l n) = ((((uptoL l n).filter fun x => decide (x.kind = 0)).map (·.change)).map rv).reverse := by
    show (((uptoL l n).filter (takenE ⟨false, _⟩)).map (chgOf true)).reverse = _
    rw [filter_all (numP_of hqs), map_rv]
  rw [h4, hc] at hA
  have hk := kinds_ok hqs (p := fun x => decide (x.kind = 0)) (fun x hx => by simpa using hx)
  rw [h4, hc]
  generalize ((uptoL l n).filter fun x => decide (x.kind = 0)).map (·.change) = cs at hA hr hk
  have hrun := made_run.1 hA
  rw [made_eq hrun]
  simp only
  have hT := run_right (s := (ts, 0)) (tabs_of ht) hrun
  obtain ⟨i1, i2, i3, i4⟩ := undo_run (s := (ts, 0)) (u := ((cs.foldl mStep (ts, 0)).1, 0)) hk (tabs_of ht) hrun (extL_refl _) hT
  have e := edge_some (l := uptoL l n) (by omega)
  have hl := num_last hqs (j := 0) h0
  have hchk : chkE (cs.foldl mStep (ts, 0)).1 (uptoL l n) = 0 := by rw [(chk_good (of_tabs hT)).2]; exact hqs
  rw [remove_in hchk (by omega), hr, made_eq i1]
  refine ⟨rfl, by simp only; simp only at i4; omega, alike_ext i2 i3⟩
theorem back_all {ts : List Table} {l : List Entry} {n : Int} (h0 : 0 < l.length) (hA : (applyT ts l n).2.2 = 0) (hN : (applyT ts l (l.getD (l.length - 1) zEntry).number).2.2 = 0) :
    (removeT (applyT ts l (l.getD (l.length - 1) zEntry).number).1 l (n + 1)).2.2 = 0 ∧
    alikeT (removeT (applyT ts l (l.getD (l.length - 1) zEntry).number).1 l (n + 1)).1 (applyT ts l n).1 = true := by
  obtain ⟨h1, g1, g2, h4⟩ := apply_ok hA
  obtain ⟨_, _, _, h5⟩ := apply_ok hN
  obtain ⟨ht, hq⟩ := chkE_ok h1
  have hP := numP_of hq
  have hc : changesOf ⟨true, (l.getD (l.length - 1) zEntry).number⟩ false l = (l.filter (takenE ⟨true, n⟩)).map (·.change) ++ (l.filter (takenE ⟨false, n + 1⟩)).map (·.change) := by
    show chgsOf _ _ _ = _
    rw [all_taken hq, filter_split (n := n) hP, List.map_append]
  have hr : changesOf ⟨false, n + 1⟩ true l = (((l.filter (takenE ⟨false, n + 1⟩)).map (·.change)).map rv).reverse := by
    show ((l.filter (takenE ⟨false, _⟩)).map (chgOf true)).reverse = _
    rw [map_rv]
  have ha : changesOf ⟨true, n⟩ false l = (l.filter (takenE ⟨true, n⟩)).map (·.change) := rfl
  have hk := kinds_ok hq (p := takenE ⟨false, n + 1⟩) (fun x hx => (takenE_f.1 hx).1)
  rw [h5, hc] at hN ⊢
  rw [h4, ha] at hA ⊢
  generalize (l.filter (takenE ⟨true, n⟩)).map (·.change) = ca at *
  generalize (l.filter (takenE ⟨false, n + 1⟩)).map (·.change) = cb at *
  have hrun := made_run.1 hN
  rw [made_eq hrun, made_eq (made_run.1 hA)]
  simp only
  have hT := run_right (s := (ts, 0)) (tabs_of ht) hrun
  obtain ⟨r1, r2⟩ := runOk_append.1 hrun
  rw [List.foldl_append] at hT ⊢
  have hS := run_right (s := (ts, 0)) (tabs_of ht) r1
  obtain ⟨i1, i2, i3, _⟩ := undo_run (s := ca.foldl mStep (ts, 0)) (u := ((cb.foldl mStep (ca.foldl mStep (ts, 0))).1, 0)) hk hS r2 (extL_refl _) hT
  have e := edge_some (l := l) (by omega)
  have hchk : chkE (cb.foldl mStep (ca.foldl mStep (ts, 0))).1 l = 0 := by rw [(chk_good (of_tabs hT)).2]; exact hq
  rw [remove_in hchk (by omega), hr, made_eq i1]
  exact ⟨rfl, alike_ext i2 i3⟩
end Go.Ev

namespace Go.Ev
open Go.Proofs Ty
set_option maxRecDepth 10000
set_option maxHeartbeats 4000000
set_option linter.unusedSimpArgs false
set_option linter.unusedVariables false
noncomputable def e6 : List O → Option (Prop × O)
  | [.d x_ts, .d x_l, .d (.i .i64 n)] => match decL 6 decTable x_ts, decL 8 decEntry x_l with
    | some ts, some l => some (True, .d (.b true))
    | _, _ => none
  | _ => none
end Go.Ev
