/-
  No cell of these rows narrows 'for every input' (looked for: loops, veiled, ifaces, maps, wideKeys, modest, calm, conditions, laid).
  DERIVED. THE GIVEN ROWS OF THIS SEAT. 5 by the template 'for every input the law returns true; each argument reads behind the call as it read before'; 0 by the template 'total and deterministic' (their statements: YtkgkgcojfocomaaGreatTotals.lean).
  GIVEN WITH THE SEED: the statements are not yours to turn. If you find one false, say at which input.
  Laid BY PROGRAM, IN A SANDBOX (cutbox-rows.mjs): the forced cells as the released guide's own fill.sh prints them over the translation e039cc474accc8a2… (all of the seat's roots in one cut). By AI agents, Wed Nov 11 2026. No macro, syntax, notation, axiom, sorry.
-/
import Derived.Test.YtkgkgcojfocomaaGreatChecked
import GoSem.Claim
import GoSem.ClaimJoined
import GoSem.ClaimMapViews
import Derived.JoinedTies
import Derived.KernelRfl
namespace Go.Proofs.YtkgkgcojfocomaaGreat
/- THE CELL 'sum', in the pinned program and in every row, IS THE sha256 OF THE DUMP (.gsa) THAT YtkgkgcojfocomaaGreatProg.lean LOADS. Nothing in Lean hashes anything: it is a label: what it is worth is what the hold of that sum in a sandbox is worth. -/
noncomputable def Tryz.pinned : Pinned := { name := "ytkgkgcojfocomaagreat", sum := "e039cc474accc8a22ebda5533da3283d0dd5d869b43921da90d998b076f3fbf0", checked := Tryz.checked }
namespace Rows
def none {H : Type} : Left H := { results := [], args := [] }

/-- 'midrangelaw35.ApplyForwards': WHATEVER THE INPUT: true; the input reads as it did. -/
def applyForwardsSpec : ChangeSpec := { name := "applyForwards", fn := fun _ => fun
  | [d1, d2, d3] => { results := [.lit (.bool true)], args := [d1, d2, d3] }
  | _ => none }
def applyForwardsRow : OpenClaim := { program := "ytkgkgcojfocomaagreat", sum := "e039cc474accc8a22ebda5533da3283d0dd5d869b43921da90d998b076f3fbf0", func := "midrange/midrangelaw35.ApplyForwards", spec := "applyForwards", unfollowed := true, recurses := true, apart := false }
def ApplyForwardsSaid : Prop := applyForwardsRow.holds Tryz.pinned (OpenSpec.ofChange applyForwardsSpec)

/-- ITS FALSE NEIGHBOUR: 'it returns false'. Refute it at one input. -/
def applyForwardsWrong : ChangeSpec := { name := "applyForwards", fn := fun _ => fun
  | [d1, d2, d3] => { results := [.lit (.bool false)], args := [d1, d2, d3] }
  | _ => none }
def ApplyForwardsWrongFalsely : Prop := applyForwardsRow.holds Tryz.pinned (OpenSpec.ofChange applyForwardsWrong)

/-- 'midrangelaw35.ApplyBackwards': WHATEVER THE INPUT: true; the input reads as it did. -/
def applyBackwardsSpec : ChangeSpec := { name := "applyBackwards", fn := fun _ => fun
  | [d1, d2, d3] => { results := [.lit (.bool true)], args := [d1, d2, d3] }
  | _ => none }
def applyBackwardsRow : OpenClaim := { program := "ytkgkgcojfocomaagreat", sum := "e039cc474accc8a22ebda5533da3283d0dd5d869b43921da90d998b076f3fbf0", func := "midrange/midrangelaw35.ApplyBackwards", spec := "applyBackwards", unfollowed := true, recurses := true, apart := false }
def ApplyBackwardsSaid : Prop := applyBackwardsRow.holds Tryz.pinned (OpenSpec.ofChange applyBackwardsSpec)

/-- ITS FALSE NEIGHBOUR: 'it returns false'. Refute it at one input. -/
def applyBackwardsWrong : ChangeSpec := { name := "applyBackwards", fn := fun _ => fun
  | [d1, d2, d3] => { results := [.lit (.bool false)], args := [d1, d2, d3] }
  | _ => none }
def ApplyBackwardsWrongFalsely : Prop := applyBackwardsRow.holds Tryz.pinned (OpenSpec.ofChange applyBackwardsWrong)

/-- 'midrangelaw35.ApplySaves': WHATEVER THE INPUT: true; the input reads as it did. -/
def applySavesSpec : ChangeSpec := { name := "applySaves", fn := fun _ => fun
  | [d1, d2, d3] => { results := [.lit (.bool true)], args := [d1, d2, d3] }
  | _ => none }
def applySavesRow : OpenClaim := { program := "ytkgkgcojfocomaagreat", sum := "e039cc474accc8a22ebda5533da3283d0dd5d869b43921da90d998b076f3fbf0", func := "midrange/midrangelaw35.ApplySaves", spec := "applySaves", unfollowed := true, recurses := true, apart := false }
def ApplySavesSaid : Prop := applySavesRow.holds Tryz.pinned (OpenSpec.ofChange applySavesSpec)

/-- ITS FALSE NEIGHBOUR: 'it returns false'. Refute it at one input. -/
def applySavesWrong : ChangeSpec := { name := "applySaves", fn := fun _ => fun
  | [d1, d2, d3] => { results := [.lit (.bool false)], args := [d1, d2, d3] }
  | _ => none }
def ApplySavesWrongFalsely : Prop := applySavesRow.holds Tryz.pinned (OpenSpec.ofChange applySavesWrong)

/-- 'midrangelaw35.ApplyWholes': WHATEVER THE INPUT: true; the input reads as it did. -/
def applyWholesSpec : ChangeSpec := { name := "applyWholes", fn := fun _ => fun
  | [d1, d2] => { results := [.lit (.bool true)], args := [d1, d2] }
  | _ => none }
def applyWholesRow : OpenClaim := { program := "ytkgkgcojfocomaagreat", sum := "e039cc474accc8a22ebda5533da3283d0dd5d869b43921da90d998b076f3fbf0", func := "midrange/midrangelaw35.ApplyWholes", spec := "applyWholes", unfollowed := true, recurses := true, apart := false }
def ApplyWholesSaid : Prop := applyWholesRow.holds Tryz.pinned (OpenSpec.ofChange applyWholesSpec)

/-- ITS FALSE NEIGHBOUR: 'it returns false'. Refute it at one input. -/
def applyWholesWrong : ChangeSpec := { name := "applyWholes", fn := fun _ => fun
  | [d1, d2] => { results := [.lit (.bool false)], args := [d1, d2] }
  | _ => none }
def ApplyWholesWrongFalsely : Prop := applyWholesRow.holds Tryz.pinned (OpenSpec.ofChange applyWholesWrong)

/-- 'midrangelaw35.ApplyCycles': WHATEVER THE INPUT: true; the input reads as it did. -/
def applyCyclesSpec : ChangeSpec := { name := "applyCycles", fn := fun _ => fun
  | [d1, d2] => { results := [.lit (.bool true)], args := [d1, d2] }
  | _ => none }
def applyCyclesRow : OpenClaim := { program := "ytkgkgcojfocomaagreat", sum := "e039cc474accc8a22ebda5533da3283d0dd5d869b43921da90d998b076f3fbf0", func := "midrange/midrangelaw35.ApplyCycles", spec := "applyCycles", unfollowed := true, recurses := true, apart := false }
def ApplyCyclesSaid : Prop := applyCyclesRow.holds Tryz.pinned (OpenSpec.ofChange applyCyclesSpec)

/-- ITS FALSE NEIGHBOUR: 'it returns false'. Refute it at one input. -/
def applyCyclesWrong : ChangeSpec := { name := "applyCycles", fn := fun _ => fun
  | [d1, d2] => { results := [.lit (.bool false)], args := [d1, d2] }
  | _ => none }
def ApplyCyclesWrongFalsely : Prop := applyCyclesRow.holds Tryz.pinned (OpenSpec.ofChange applyCyclesWrong)

/- THE SECOND FORM. 'bulk': how many values and letters a reading holds, each counted each time it is reached (what is shared counts as often as it is met; a slice's spare places count too). A statement '..UptoSaid' is the law's where the arguments, and the package variables that the reading takes, are together of bulk at most 1048576: NARROWER than '..Said'. Prove '..Said' where nothing that the law and all that it calls make is longer than what came in: it says more and counts as full. Else prove '..UptoSaid'. A law counts once. -/
mutual
def uptoBulk {H : Type} : DataW H → Nat
  | .lit (.string bytes) => bytes.length + 1
  | .lit _ => 1
  | .nil => 1
  | .ptr d => uptoBulk d + 1
  | .slice elems spare => uptoBulkAll elems + uptoBulkAll spare + 1
  | .agg parts => uptoBulkAll parts + 1
  | .iface _ d => uptoBulk d + 1
  | .map entries => uptoBulkEntries entries + 1
  | .held _ => 1
def uptoBulkAll {H : Type} : List (DataW H) → Nat
  | [] => 0
  | d :: r => uptoBulk d + uptoBulkAll r
def uptoBulkEntries {H : Type} : List (Lit × DataW H) → Nat
  | [] => 0
  | x :: r => uptoBulkEntry x + uptoBulkEntries r
def uptoBulkEntry {H : Type} : Lit × DataW H → Nat
  | (.string bytes, d) => bytes.length + uptoBulk d + 1
  | (_, d) => uptoBulk d + 1
 end
def uptoSmall : (H : Type) → List (DataW H) → Bool := fun _ ds => decide (uptoBulkAll ds ≤ 1048576)
def OpenSpec.upto (s : _root_.Go.ChangeSpec) : _root_.Go.OpenSpec := { _root_.Go.OpenSpec.ofChange s with cond := some uptoSmall }

/-- 'midrangelaw35.ApplyForwards', WHERE WHAT IT READS IS OF BULK AT MOST 1048576: true; the input reads as it did. -/
def applyForwardsUptoRow : OpenClaim := { program := "ytkgkgcojfocomaagreat", sum := "e039cc474accc8a22ebda5533da3283d0dd5d869b43921da90d998b076f3fbf0", func := "midrange/midrangelaw35.ApplyForwards", spec := "applyForwards", unfollowed := true, recurses := true, apart := false, narrowed := true }
def ApplyForwardsUptoSaid : Prop := applyForwardsUptoRow.holds Tryz.pinned (OpenSpec.upto applyForwardsSpec)

/-- 'midrangelaw35.ApplyBackwards', WHERE WHAT IT READS IS OF BULK AT MOST 1048576: true; the input reads as it did. -/
def applyBackwardsUptoRow : OpenClaim := { program := "ytkgkgcojfocomaagreat", sum := "e039cc474accc8a22ebda5533da3283d0dd5d869b43921da90d998b076f3fbf0", func := "midrange/midrangelaw35.ApplyBackwards", spec := "applyBackwards", unfollowed := true, recurses := true, apart := false, narrowed := true }
def ApplyBackwardsUptoSaid : Prop := applyBackwardsUptoRow.holds Tryz.pinned (OpenSpec.upto applyBackwardsSpec)

/-- 'midrangelaw35.ApplySaves', WHERE WHAT IT READS IS OF BULK AT MOST 1048576: true; the input reads as it did. -/
def applySavesUptoRow : OpenClaim := { program := "ytkgkgcojfocomaagreat", sum := "e039cc474accc8a22ebda5533da3283d0dd5d869b43921da90d998b076f3fbf0", func := "midrange/midrangelaw35.ApplySaves", spec := "applySaves", unfollowed := true, recurses := true, apart := false, narrowed := true }
def ApplySavesUptoSaid : Prop := applySavesUptoRow.holds Tryz.pinned (OpenSpec.upto applySavesSpec)

/-- 'midrangelaw35.ApplyWholes', WHERE WHAT IT READS IS OF BULK AT MOST 1048576: true; the input reads as it did. -/
def applyWholesUptoRow : OpenClaim := { program := "ytkgkgcojfocomaagreat", sum := "e039cc474accc8a22ebda5533da3283d0dd5d869b43921da90d998b076f3fbf0", func := "midrange/midrangelaw35.ApplyWholes", spec := "applyWholes", unfollowed := true, recurses := true, apart := false, narrowed := true }
def ApplyWholesUptoSaid : Prop := applyWholesUptoRow.holds Tryz.pinned (OpenSpec.upto applyWholesSpec)

/-- 'midrangelaw35.ApplyCycles', WHERE WHAT IT READS IS OF BULK AT MOST 1048576: true; the input reads as it did. -/
def applyCyclesUptoRow : OpenClaim := { program := "ytkgkgcojfocomaagreat", sum := "e039cc474accc8a22ebda5533da3283d0dd5d869b43921da90d998b076f3fbf0", func := "midrange/midrangelaw35.ApplyCycles", spec := "applyCycles", unfollowed := true, recurses := true, apart := false, narrowed := true }
def ApplyCyclesUptoSaid : Prop := applyCyclesUptoRow.holds Tryz.pinned (OpenSpec.upto applyCyclesSpec)

end Rows
end Go.Proofs.YtkgkgcojfocomaaGreat
