/- Tools and contracts under the laws of this seat: DxE5. -/
import Derived.Test.YtkgkgcojfocomaaE05
import Derived.Test.YtkgkgcojfocomaaE06
set_option linter.unusedVariables false
set_option linter.unusedSimpArgs false
namespace Go.Ev
open Go.Proofs Ty
set_option maxRecDepth 10000
set_option maxHeartbeats 4000000
set_option linter.unusedSimpArgs false
set_option linter.unusedVariables false
def encWant : Want → D
  | ⟨true, n⟩ => .fn 39 [.cp [.i .i64 n]]
  | ⟨false, n⟩ => .fn 41 [.cp [.i .i64 n]]
def decWant : D → Option Want
  | .fn f [.cp [.i .i64 n]] => if f = 39 then some ⟨true, n⟩ else if f = 41 then some ⟨false, n⟩ else none
  | _ => none
theorem decWant_le {d : D} {x : Want} (h : decWant d = some x) : dle d (encWant x) := by
  unfold decWant at h
  split at h
  · split at h
    · rename_i hf; cases h; subst hf; exact dle_refl _
    split at h
    · rename_i hf; cases h; subst hf; exact dle_refl _
    · cases h
  · cases h
noncomputable def e79 : List O → Option (Prop × O)
  | [.d x_t, .d (.cp [.s n])] => match decTable x_t with
    | some t => some (True, .d (.b (decide (t.file.name = n))))
    | _ => none
  | _ => none
noncomputable def tab79 : FuncId → List O → Option (Prop × O) := addT tab61 79 e79
noncomputable def e78 : List O → Option (Prop × O)
  | [.d x_l, .d (.fn 79 [.cp [.s n]])] => match decL 6 decTable x_l with
    | some l => some (l.length ≤ 1000000, .d (.i .i64 (findT l n)))
    | _ => none
  | _ => none
noncomputable def tab78 : FuncId → List O → Option (Prop × O) := addT tab79 78 e78
noncomputable def e59 : List O → Option (Prop × O)
  | [.d x_l, .d (.s n)] => match decL 6 decTable x_l with
    | some l => some (l.length ≤ 1000000, .d (.i .i64 (findT l n)))
    | _ => none
  | _ => none
noncomputable def tab59 : FuncId → List O → Option (Prop × O) := addT tab78 59 e59
noncomputable def e55 : List O → Option (Prop × O)
  | [.d x_l] => match decL 6 decTable x_l with
    | some l => some (okTs l, .d (.i .i64 (tablesErr l)))
    | _ => none
  | _ => none
noncomputable def tab55 : FuncId → List O → Option (Prop × O) := addT tab59 55 e55
noncomputable def e39 : List O → Option (Prop × O)
  | [.d x_x, .d (.cp [.i .i64 n])] => match decEntry x_x with
    | some x => some (True, .d (.b (decide (x.number ≤ n))))
    | _ => none
  | _ => none
noncomputable def tab39 : FuncId → List O → Option (Prop × O) := addT tab55 39 e39
noncomputable def e41 : List O → Option (Prop × O)
  | [.d x_x, .d (.cp [.i .i64 n])] => match decEntry x_x with
    | some x => some (True, .d (.b (decide (n ≤ x.number))))
    | _ => none
  | _ => none
noncomputable def tab41 : FuncId → List O → Option (Prop × O) := addT tab39 41 e41
noncomputable def e36 : List O → Option (Prop × O)
  | [.d x_ts, .d x_l] => match decL 6 decTable x_ts, decL 8 decEntry x_l with
    | some ts, some l => some (okTs ts ∧ l.length ≤ 1000000, .tup [.d (.mp ((chkL ts l).map keyU) ((chkL ts l).map fun u => .cp (cellsU u))), .d (.i .i64 (chkE ts l))])
    | _, _ => none
  | _ => none
noncomputable def tab36 : FuncId → List O → Option (Prop × O) := addT tab41 36 e36
end Go.Ev
