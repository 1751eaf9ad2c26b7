/-
  No cell of these rows narrows 'for every input' (looked for: loops, veiled, ifaces, maps, wideKeys, modest, calm, conditions, laid).
  DERIVED. THE GIVEN ROWS OF THIS SEAT. 4 by the template 'for every input the law returns true; each argument reads behind the call as it read before'; 0 by the template 'total and deterministic' (their statements: YtkgkgcojfocomaaTotals.lean).
  GIVEN WITH THE SEED: the statements are not yours to turn. If you find one false, say at which input.
  Laid BY PROGRAM, IN A SANDBOX (cutbox-rows.mjs): the forced cells as the released guide's own fill.sh prints them over the translation 890bc0b3ed71b500… (all of the seat's roots in one cut). By AI agents, Wed Nov 11 2026. No macro, syntax, notation, axiom, sorry.
-/
import Derived.Test.YtkgkgcojfocomaaChecked
import GoSem.Claim
import GoSem.ClaimJoined
import GoSem.ClaimMapViews
import Derived.JoinedTies
import Derived.KernelRfl
namespace Go.Proofs.Ytkgkgcojfocomaa
/- THE CELL 'sum', in the pinned program and in every row, IS THE sha256 OF THE DUMP (.gsa) THAT YtkgkgcojfocomaaProg.lean LOADS. Nothing in Lean hashes anything: it is a label: what it is worth is what the hold of that sum in a sandbox is worth. -/
noncomputable def Try.pinned : Pinned := { name := "ytkgkgcojfocomaa", sum := "890bc0b3ed71b50071d5a3e6c667331c6edf96b2ea45d7cf6cb13feecf1bd611", checked := Try.checked }
namespace Rows
def none {H : Type} : Left H := { results := [], args := [] }

/-- 'midrangelaw35.ApplyChecks': WHATEVER THE INPUT: true; the input reads as it did. -/
def applyChecksSpec : ChangeSpec := { name := "applyChecks", fn := fun _ => fun
  | [d] => { results := [.lit (.bool true)], args := [d] }
  | _ => none }
def applyChecksRow : OpenClaim := { program := "ytkgkgcojfocomaa", sum := "890bc0b3ed71b50071d5a3e6c667331c6edf96b2ea45d7cf6cb13feecf1bd611", func := "midrange/midrangelaw35.ApplyChecks", spec := "applyChecks", unfollowed := true, recurses := true, apart := false }
def ApplyChecksSaid : Prop := applyChecksRow.holds Try.pinned (OpenSpec.ofChange applyChecksSpec)

/-- ITS FALSE NEIGHBOUR: 'it returns false'. Refute it at one input. -/
def applyChecksWrong : ChangeSpec := { name := "applyChecks", fn := fun _ => fun
  | [d] => { results := [.lit (.bool false)], args := [d] }
  | _ => none }
def ApplyChecksWrongFalsely : Prop := applyChecksRow.holds Try.pinned (OpenSpec.ofChange applyChecksWrong)

/-- 'midrangelaw35.ApplyImages': WHATEVER THE INPUT: true; the input reads as it did. -/
def applyImagesSpec : ChangeSpec := { name := "applyImages", fn := fun _ => fun
  | [d1, d2, d3] => { results := [.lit (.bool true)], args := [d1, d2, d3] }
  | _ => none }
def applyImagesRow : OpenClaim := { program := "ytkgkgcojfocomaa", sum := "890bc0b3ed71b50071d5a3e6c667331c6edf96b2ea45d7cf6cb13feecf1bd611", func := "midrange/midrangelaw35.ApplyImages", spec := "applyImages", unfollowed := true, recurses := true, apart := false }
def ApplyImagesSaid : Prop := applyImagesRow.holds Try.pinned (OpenSpec.ofChange applyImagesSpec)

/-- ITS FALSE NEIGHBOUR: 'it returns false'. Refute it at one input. -/
def applyImagesWrong : ChangeSpec := { name := "applyImages", fn := fun _ => fun
  | [d1, d2, d3] => { results := [.lit (.bool false)], args := [d1, d2, d3] }
  | _ => none }
def ApplyImagesWrongFalsely : Prop := applyImagesRow.holds Try.pinned (OpenSpec.ofChange applyImagesWrong)

/-- 'midrangelaw35.ApplyFollows': WHATEVER THE INPUT: true; the input reads as it did. -/
def applyFollowsSpec : ChangeSpec := { name := "applyFollows", fn := fun _ => fun
  | [d1, d2] => { results := [.lit (.bool true)], args := [d1, d2] }
  | _ => none }
def applyFollowsRow : OpenClaim := { program := "ytkgkgcojfocomaa", sum := "890bc0b3ed71b50071d5a3e6c667331c6edf96b2ea45d7cf6cb13feecf1bd611", func := "midrange/midrangelaw35.ApplyFollows", spec := "applyFollows", unfollowed := true, recurses := true, apart := false }
def ApplyFollowsSaid : Prop := applyFollowsRow.holds Try.pinned (OpenSpec.ofChange applyFollowsSpec)

/-- ITS FALSE NEIGHBOUR: 'it returns false'. Refute it at one input. -/
def applyFollowsWrong : ChangeSpec := { name := "applyFollows", fn := fun _ => fun
  | [d1, d2] => { results := [.lit (.bool false)], args := [d1, d2] }
  | _ => none }
def ApplyFollowsWrongFalsely : Prop := applyFollowsRow.holds Try.pinned (OpenSpec.ofChange applyFollowsWrong)

/-- 'midrangelaw35.ApplyBack': WHATEVER THE INPUT: true; the input reads as it did. -/
def applyBackSpec : ChangeSpec := { name := "applyBack", fn := fun _ => fun
  | [d1, d2, d3] => { results := [.lit (.bool true)], args := [d1, d2, d3] }
  | _ => none }
def applyBackRow : OpenClaim := { program := "ytkgkgcojfocomaa", sum := "890bc0b3ed71b50071d5a3e6c667331c6edf96b2ea45d7cf6cb13feecf1bd611", func := "midrange/midrangelaw35.ApplyBack", spec := "applyBack", unfollowed := true, recurses := true, apart := false }
def ApplyBackSaid : Prop := applyBackRow.holds Try.pinned (OpenSpec.ofChange applyBackSpec)

/-- ITS FALSE NEIGHBOUR: 'it returns false'. Refute it at one input. -/
def applyBackWrong : ChangeSpec := { name := "applyBack", fn := fun _ => fun
  | [d1, d2, d3] => { results := [.lit (.bool false)], args := [d1, d2, d3] }
  | _ => none }
def ApplyBackWrongFalsely : Prop := applyBackRow.holds Try.pinned (OpenSpec.ofChange applyBackWrong)

/- THE SECOND FORM. 'bulk': how many values and letters a reading holds, each counted each time it is reached (what is shared counts as often as it is met; a slice's spare places count too). A statement '..UptoSaid' is the law's where the arguments, and the package variables that the reading takes, are together of bulk at most 1048576: NARROWER than '..Said'. Prove '..Said' where nothing that the law and all that it calls make is longer than what came in: it says more and counts as full. Else prove '..UptoSaid'. A law counts once. -/
mutual
def uptoBulk {H : Type} : DataW H → Nat
  | .lit (.string bytes) => bytes.length + 1
  | .lit _ => 1
  | .nil => 1
  | .ptr d => uptoBulk d + 1
  | .slice elems spare => uptoBulkAll elems + uptoBulkAll spare + 1
  | .agg parts => uptoBulkAll parts + 1
  | .iface _ d => uptoBulk d + 1
  | .map entries => uptoBulkEntries entries + 1
  | .held _ => 1
def uptoBulkAll {H : Type} : List (DataW H) → Nat
  | [] => 0
  | d :: r => uptoBulk d + uptoBulkAll r
def uptoBulkEntries {H : Type} : List (Lit × DataW H) → Nat
  | [] => 0
  | x :: r => uptoBulkEntry x + uptoBulkEntries r
def uptoBulkEntry {H : Type} : Lit × DataW H → Nat
  | (.string bytes, d) => bytes.length + uptoBulk d + 1
  | (_, d) => uptoBulk d + 1
 end
def uptoSmall : (H : Type) → List (DataW H) → Bool := fun _ ds => decide (uptoBulkAll ds ≤ 1048576)
def OpenSpec.upto (s : _root_.Go.ChangeSpec) : _root_.Go.OpenSpec := { _root_.Go.OpenSpec.ofChange s with cond := some uptoSmall }

/-- 'midrangelaw35.ApplyChecks', WHERE WHAT IT READS IS OF BULK AT MOST 1048576: true; the input reads as it did. -/
def applyChecksUptoRow : OpenClaim := { program := "ytkgkgcojfocomaa", sum := "890bc0b3ed71b50071d5a3e6c667331c6edf96b2ea45d7cf6cb13feecf1bd611", func := "midrange/midrangelaw35.ApplyChecks", spec := "applyChecks", unfollowed := true, recurses := true, apart := false, narrowed := true }
def ApplyChecksUptoSaid : Prop := applyChecksUptoRow.holds Try.pinned (OpenSpec.upto applyChecksSpec)

/-- 'midrangelaw35.ApplyImages', WHERE WHAT IT READS IS OF BULK AT MOST 1048576: true; the input reads as it did. -/
def applyImagesUptoRow : OpenClaim := { program := "ytkgkgcojfocomaa", sum := "890bc0b3ed71b50071d5a3e6c667331c6edf96b2ea45d7cf6cb13feecf1bd611", func := "midrange/midrangelaw35.ApplyImages", spec := "applyImages", unfollowed := true, recurses := true, apart := false, narrowed := true }
def ApplyImagesUptoSaid : Prop := applyImagesUptoRow.holds Try.pinned (OpenSpec.upto applyImagesSpec)

/-- 'midrangelaw35.ApplyFollows', WHERE WHAT IT READS IS OF BULK AT MOST 1048576: true; the input reads as it did. -/
def applyFollowsUptoRow : OpenClaim := { program := "ytkgkgcojfocomaa", sum := "890bc0b3ed71b50071d5a3e6c667331c6edf96b2ea45d7cf6cb13feecf1bd611", func := "midrange/midrangelaw35.ApplyFollows", spec := "applyFollows", unfollowed := true, recurses := true, apart := false, narrowed := true }
def ApplyFollowsUptoSaid : Prop := applyFollowsUptoRow.holds Try.pinned (OpenSpec.upto applyFollowsSpec)

/-- 'midrangelaw35.ApplyBack', WHERE WHAT IT READS IS OF BULK AT MOST 1048576: true; the input reads as it did. -/
def applyBackUptoRow : OpenClaim := { program := "ytkgkgcojfocomaa", sum := "890bc0b3ed71b50071d5a3e6c667331c6edf96b2ea45d7cf6cb13feecf1bd611", func := "midrange/midrangelaw35.ApplyBack", spec := "applyBack", unfollowed := true, recurses := true, apart := false, narrowed := true }
def ApplyBackUptoSaid : Prop := applyBackUptoRow.holds Try.pinned (OpenSpec.upto applyBackSpec)

end Rows
end Go.Proofs.Ytkgkgcojfocomaa
