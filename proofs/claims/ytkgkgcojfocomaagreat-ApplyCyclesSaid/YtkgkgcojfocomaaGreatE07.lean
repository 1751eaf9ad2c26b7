/- Tools and contracts under the laws of this seat: DyE5. -/
import Derived.Test.YtkgkgcojfocomaaGreatE05
import Derived.Test.YtkgkgcojfocomaaGreatE06
set_option linter.unusedVariables false
set_option linter.unusedSimpArgs false
namespace Go.Ev
open Go.Proofs Ty
set_option maxRecDepth 10000
set_option maxHeartbeats 4000000
def qnn : Want → D
  | ⟨true, n⟩ => .fn 37 [.cp [.i .i64 n]]
  | ⟨false, n⟩ => .fn 44 [.cp [.i .i64 n]]
def qpc : D → Option Want
  | .fn f [.cp [.i .i64 n]] => if f = 37 then some ⟨true, n⟩ else if f = 44 then some ⟨false, n⟩ else none
  | _ => none
theorem q7o {d : D} {x : Want} (h : qpc d = some x) : dle d (qnn x) := by
  unfold qpc at h
  split at h
  · split at h
    · rename_i hf; cases h; subst hf; exact q02 _
    split at h
    · rename_i hf; cases h; subst hf; exact q02 _
    · cases h
  · cases h
noncomputable def e92 : List O → Option (Prop × O)
  | [.d x_t, .d (.cp [.s n])] => match q0y x_t with
    | some t => some (True, .d (.b (decide (t.file.name = n))))
    | _ => none
  | _ => none
noncomputable def q7p : FuncId → List O → Option (Prop × O) := addT q7l 92 e92
noncomputable def e91 : List O → Option (Prop × O)
  | [.d x_l, .d (.fn 92 [.cp [.s n]])] => match decL 6 q0y x_l with
    | some l => some (l.length ≤ 1000000, .d (.i .i64 (qbq l n)))
    | _ => none
  | _ => none
noncomputable def q7q : FuncId → List O → Option (Prop × O) := addT q7p 91 e91
noncomputable def e69 : List O → Option (Prop × O)
  | [.d x_l, .d (.s n)] => match decL 6 q0y x_l with
    | some l => some (l.length ≤ 1000000, .d (.i .i64 (qbq l n)))
    | _ => none
  | _ => none
noncomputable def q7r : FuncId → List O → Option (Prop × O) := addT q7q 69 e69
noncomputable def e65 : List O → Option (Prop × O)
  | [.d x_l] => match decL 6 q0y x_l with
    | some l => some (okTs l, .d (.i .i64 (qd6 l)))
    | _ => none
  | _ => none
noncomputable def q7s : FuncId → List O → Option (Prop × O) := addT q7r 65 e65
noncomputable def e37 : List O → Option (Prop × O)
  | [.d x_x, .d (.cp [.i .i64 n])] => match q0w x_x with
    | some x => some (True, .d (.b (decide (x.number ≤ n))))
    | _ => none
  | _ => none
noncomputable def q7t : FuncId → List O → Option (Prop × O) := addT q7s 37 e37
noncomputable def e44 : List O → Option (Prop × O)
  | [.d x_x, .d (.cp [.i .i64 n])] => match q0w x_x with
    | some x => some (True, .d (.b (decide (n ≤ x.number))))
    | _ => none
  | _ => none
noncomputable def q7u : FuncId → List O → Option (Prop × O) := addT q7t 44 e44
noncomputable def e34 : List O → Option (Prop × O)
  | [.d x_ts, .d x_l] => match decL 6 q0y x_ts, decL 8 q0w x_l with
    | some ts, some l => some (okTs ts ∧ l.length ≤ 1000000, .tup [.d (.mp ((chkL ts l).map keyU) ((chkL ts l).map fun u => .cp (qdi u))), .d (.i .i64 (chkE ts l))])
    | _, _ => none
  | _ => none
noncomputable def q7v : FuncId → List O → Option (Prop × O) := addT q7u 34 e34
end Go.Ev
