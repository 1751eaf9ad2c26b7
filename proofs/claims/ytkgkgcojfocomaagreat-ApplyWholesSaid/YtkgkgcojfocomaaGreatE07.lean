/- Tools and contracts under the laws of this seat: DyE5. -/
import Derived.Test.YtkgkgcojfocomaaGreatE05
import Derived.Test.YtkgkgcojfocomaaGreatE06
set_option linter.unusedVariables false
set_option linter.unusedSimpArgs false
namespace Go.Ev
open Go.Proofs Ty
set_option maxRecDepth 10000
set_option maxHeartbeats 4000000
set_option linter.unusedSimpArgs false
set_option linter.unusedVariables false
def qm2 : Want → D
  | ⟨true, n⟩ => .fn 37 [.cp [.i .i64 n]]
  | ⟨false, n⟩ => .fn 44 [.cp [.i .i64 n]]
def qov : D → Option Want
  | .fn f [.cp [.i .i64 n]] => if f = 37 then some ⟨true, n⟩ else if f = 44 then some ⟨false, n⟩ else none
  | _ => none
theorem q52 {d : D} {x : Want} (h : qov d = some x) : dle d (qm2 x) := by
  unfold qov at h
  split at h
  · split at h
    · rename_i hf; cases h; subst hf; exact q01 _
    split at h
    · rename_i hf; cases h; subst hf; exact q01 _
    · cases h
  · cases h
noncomputable def e92 : List O → Option (Prop × O)
  | [.d x_t, .d (.cp [.s n])] => match q0x x_t with
    | some t => some (True, .d (.b (decide (t.file.name = n))))
    | _ => none
  | _ => none
noncomputable def q53 : FuncId → List O → Option (Prop × O) := addT q5z 92 e92
noncomputable def e91 : List O → Option (Prop × O)
  | [.d x_l, .d (.fn 92 [.cp [.s n]])] => match decL 6 q0x x_l with
    | some l => some (l.length ≤ 1000000, .d (.i .i64 (qcw l n)))
    | _ => none
  | _ => none
noncomputable def q54 : FuncId → List O → Option (Prop × O) := addT q53 91 e91
noncomputable def e69 : List O → Option (Prop × O)
  | [.d x_l, .d (.s n)] => match decL 6 q0x x_l with
    | some l => some (l.length ≤ 1000000, .d (.i .i64 (qcw l n)))
    | _ => none
  | _ => none
noncomputable def q55 : FuncId → List O → Option (Prop × O) := addT q54 69 e69
noncomputable def e65 : List O → Option (Prop × O)
  | [.d x_l] => match decL 6 q0x x_l with
    | some l => some (okTs l, .d (.i .i64 (qes l)))
    | _ => none
  | _ => none
noncomputable def q56 : FuncId → List O → Option (Prop × O) := addT q55 65 e65
noncomputable def e37 : List O → Option (Prop × O)
  | [.d x_x, .d (.cp [.i .i64 n])] => match q0w x_x with
    | some x => some (True, .d (.b (decide (x.number ≤ n))))
    | _ => none
  | _ => none
noncomputable def q57 : FuncId → List O → Option (Prop × O) := addT q56 37 e37
noncomputable def e44 : List O → Option (Prop × O)
  | [.d x_x, .d (.cp [.i .i64 n])] => match q0w x_x with
    | some x => some (True, .d (.b (decide (n ≤ x.number))))
    | _ => none
  | _ => none
noncomputable def q58 : FuncId → List O → Option (Prop × O) := addT q57 44 e44
noncomputable def e34 : List O → Option (Prop × O)
  | [.d x_ts, .d x_l] => match decL 6 q0x x_ts, decL 8 q0w x_l with
    | some ts, some l => some (okTs ts ∧ l.length ≤ 1000000, .tup [.d (.mp ((chkL ts l).map keyU) ((chkL ts l).map fun u => .cp (qdf u))), .d (.i .i64 (chkE ts l))])
    | _, _ => none
  | _ => none
noncomputable def q59 : FuncId → List O → Option (Prop × O) := addT q58 34 e34
end Go.Ev
