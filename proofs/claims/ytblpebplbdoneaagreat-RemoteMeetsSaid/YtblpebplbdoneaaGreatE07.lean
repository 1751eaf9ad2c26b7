/- Tools and contracts under the laws of this seat: DrE5. -/
import Derived.Test.YtblpebplbdoneaaGreatE05
import Derived.Test.YtblpebplbdoneaaGreatE06
set_option linter.unusedVariables false
set_option linter.unusedSimpArgs false
namespace Go.Ev
noncomputable section
open Go.Proofs Ty
set_option maxRecDepth 10000
set_option maxHeartbeats 4000000
def qn7 : Want → D
 | ⟨true, n⟩ => .fn 48 [.cp [.i .i64 n]]
 | ⟨false, n⟩ => .fn 53 [.cp [.i .i64 n]]
def qp8 : D → Option Want
 | .fn f [.cp [.i .i64 n]] => if f = 48 then some ⟨true, n⟩ else if f = 53 then some ⟨false, n⟩ else none
 | _ => none
theorem q8d {d : D} {x : Want} (h : qp8 d = some x) : dle d (qn7 x) := by
 unfold qp8 at h
 split at h
 ·split at h
  ·rename_i hf; cases h; subst hf; exact q09 _
  split at h
  ·rename_i hf; cases h; subst hf; exact q09 _
  ·cases h
 ·cases h
def e98 : List O → Option (Prop × O)
 | [.d x_t, .d (.cp [.s n])] => match q0y x_t with
   | some t => some (True, .d (.b (decide (t.file.name = n))))
   | _ => none
 | _ => none
def q8e : FuncId → List O → Option (Prop × O) := addT q8a 98 e98
def e28 : List O → Option (Prop × O)
 | [.d x_l, .d (.fn 98 [.cp [.s n]])] => match decL 6 q0y x_l with
   | some l => some (l.length ≤ 1000000, .d (.i .i64 (qbg l n)))
   | _ => none
 | _ => none
def q8f : FuncId → List O → Option (Prop × O) := addT q8e 28 e28
def e74 : List O → Option (Prop × O)
 | [.d x_l, .d (.s n)] => match decL 6 q0y x_l with
   | some l => some (l.length ≤ 1000000, .d (.i .i64 (qbg l n)))
   | _ => none
 | _ => none
def q8g : FuncId → List O → Option (Prop × O) := addT q8f 74 e74
def e70 : List O → Option (Prop × O)
 | [.d x_l] => match decL 6 q0y x_l with
   | some l => some (okTs l, .d (.i .i64 (qci l)))
   | _ => none
 | _ => none
def q8h : FuncId → List O → Option (Prop × O) := addT q8g 70 e70
def e48 : List O → Option (Prop × O)
 | [.d x_x, .d (.cp [.i .i64 n])] => match q0v x_x with
   | some x => some (True, .d (.b (decide (x.number ≤ n))))
   | _ => none
 | _ => none
def q8i : FuncId → List O → Option (Prop × O) := addT q8h 48 e48
def e53 : List O → Option (Prop × O)
 | [.d x_x, .d (.cp [.i .i64 n])] => match q0v x_x with
   | some x => some (True, .d (.b (decide (n ≤ x.number))))
   | _ => none
 | _ => none
def q8j : FuncId → List O → Option (Prop × O) := addT q8i 53 e53
def e45 : List O → Option (Prop × O)
 | [.d x_ts, .d x_l] => match decL 6 q0y x_ts, decL 8 q0v x_l with
   | some ts, some l => some (okTs ts ∧ l.length ≤ 1000000, .tup [.d (.mp ((chkL ts l).map keyU) ((chkL ts l).map fun u => .cp (qed u))), .d (.i .i64 (chkE ts l))])
   | _, _ => none
 | _ => none
def q8k : FuncId → List O → Option (Prop × O) := addT q8j 45 e45
end
end Go.Ev
