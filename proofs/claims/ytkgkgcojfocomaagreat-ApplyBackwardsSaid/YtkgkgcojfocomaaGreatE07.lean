/- Tools and contracts under the laws of this seat: DyE5. -/
import Derived.Test.YtkgkgcojfocomaaGreatE05
import Derived.Test.YtkgkgcojfocomaaGreatE06
set_option linter.unusedVariables false
set_option linter.unusedSimpArgs false
namespace Go.Ev
open Go.Proofs Ty
set_option maxRecDepth 10000
set_option maxHeartbeats 4000000
set_option linter.unusedSimpArgs false
set_option linter.unusedVariables false
def encWant : Want → D
  | ⟨true, n⟩ => .fn 37 [.cp [.i .i64 n]]
  | ⟨false, n⟩ => .fn 44 [.cp [.i .i64 n]]
def decWant : D → Option Want
  | .fn f [.cp [.i .i64 n]] => if f = 37 then some ⟨true, n⟩ else if f = 44 then some ⟨false, n⟩ else none
  | _ => none
theorem decWant_le {d : D} {x : Want} (h : decWant d = some x) : dle d (encWant x) := by
  unfold decWant at h
  split at h
  · split at h
    · rename_i hf; cases h; subst hf; exact dle_refl _
    split at h
    · rename_i hf; cases h; subst hf; exact dle_refl _
    · cases h
  · cases h
noncomputable def e92 : List O → Option (Prop × O)
  | [.d x_t, .d (.cp [.s n])] => match decTable x_t with
    | some t => some (True, .d (.b (decide (t.file.name = n))))
    | _ => none
  | _ => none
noncomputable def tab92 : FuncId → List O → Option (Prop × O) := addT tab71 92 e92
noncomputable def e91 : List O → Option (Prop × O)
  | [.d x_l, .d (.fn 92 [.cp [.s n]])] => match decL 6 decTable x_l with
    | some l => some (l.length ≤ 1000000, .d (.i .i64 (findT l n)))
    | _ => none
  | _ => none
noncomputable def tab91 : FuncId → List O → Option (Prop × O) := addT tab92 91 e91
noncomputable def e69 : List O → Option (Prop × O)
  | [.d x_l, .d (.s n)] => match decL 6 decTable x_l with
    | some l => some (l.length ≤ 1000000, .d (.i .i64 (findT l n)))
    | _ => none
  | _ => none
noncomputable def tab69 : FuncId → List O → Option (Prop × O) := addT tab91 69 e69
noncomputable def e65 : List O → Option (Prop × O)
  | [.d x_l] => match decL 6 decTable x_l with
    | some l => some (okTs l, .d (.i .i64 (tablesErr l)))
    | _ => none
  | _ => none
noncomputable def tab65 : FuncId → List O → Option (Prop × O) := addT tab69 65 e65
noncomputable def e37 : List O → Option (Prop × O)
  | [.d x_x, .d (.cp [.i .i64 n])] => match decEntry x_x with
    | some x => some (True, .d (.b (decide (x.number ≤ n))))
    | _ => none
  | _ => none
noncomputable def tab37 : FuncId → List O → Option (Prop × O) := addT tab65 37 e37
noncomputable def e44 : List O → Option (Prop × O)
  | [.d x_x, .d (.cp [.i .i64 n])] => match decEntry x_x with
    | some x => some (True, .d (.b (decide (n ≤ x.number))))
    | _ => none
  | _ => none
noncomputable def tab44 : FuncId → List O → Option (Prop × O) := addT tab37 44 e44
noncomputable def e34 : List O → Option (Prop × O)
  | [.d x_ts, .d x_l] => match decL 6 decTable x_ts, decL 8 decEntry x_l with
    | some ts, some l => some (okTs ts ∧ l.length ≤ 1000000, .tup [.d (.mp ((chkL ts l).map keyU) ((chkL ts l).map fun u => .cp (cellsU u))), .d (.i .i64 (chkE ts l))])
    | _, _ => none
  | _ => none
noncomputable def tab34 : FuncId → List O → Option (Prop × O) := addT tab44 34 e34
end Go.Ev
