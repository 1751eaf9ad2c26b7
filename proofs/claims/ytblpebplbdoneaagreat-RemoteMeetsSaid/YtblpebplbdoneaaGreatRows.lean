/-
  No cell of these rows narrows 'for every input' (looked for: loops, veiled, ifaces, maps, wideKeys, modest, calm, conditions, laid).
  DERIVED. THE GIVEN ROWS OF THIS SEAT. 3 by the template 'for every input the law returns true; each argument reads behind the call as it read before'; 0 by the template 'total and deterministic' (their statements: YtblpebplbdoneaaGreatTotals.lean).
  GIVEN WITH THE SEED: the statements are not yours to turn. If you find one false, say at which input.
  Laid BY PROGRAM, IN A SANDBOX (cutbox-rows.mjs): the forced cells as the released guide's own fill.sh prints them over the translation 7a30244d668f3190… (all of the seat's roots in one cut). By AI agents, Wed Nov 11 2026. No macro, syntax, notation, axiom, sorry.
-/
import Derived.Test.YtblpebplbdoneaaGreatChecked
import GoSem.Claim
import GoSem.ClaimJoined
import GoSem.ClaimMapViews
import Derived.JoinedTies
import Derived.KernelRfl
namespace Go.Proofs.YtblpebplbdoneaaGreat
/- THE CELL 'sum', in the pinned program and in every row, IS THE sha256 OF THE DUMP (.gsa) THAT YtblpebplbdoneaaGreatProg.lean LOADS. Nothing in Lean hashes anything: it is a label: what it is worth is what the hold of that sum in a sandbox is worth. -/
noncomputable def Tryz.pinned : Pinned := { name := "ytblpebplbdoneaagreat", sum := "7a30244d668f31906dc4b7226c318333e147ecdabb0fe1a3729103a992261d15", checked := Tryz.checked }
namespace Rows
def none {H : Type} : Left H := { results := [], args := [] }

/-- 'midrangelaw36.RemoteCatches': WHATEVER THE INPUT: true; the input reads as it did. -/
def remoteCatchesSpec : ChangeSpec := { name := "remoteCatches", fn := fun _ => fun
  | [d1, d2, d3] => { results := [.lit (.bool true)], args := [d1, d2, d3] }
  | _ => none }
def remoteCatchesRow : OpenClaim := { program := "ytblpebplbdoneaagreat", sum := "7a30244d668f31906dc4b7226c318333e147ecdabb0fe1a3729103a992261d15", func := "midrange/midrangelaw36.RemoteCatches", spec := "remoteCatches", unfollowed := true, recurses := true, apart := false }
def RemoteCatchesSaid : Prop := remoteCatchesRow.holds Tryz.pinned (OpenSpec.ofChange remoteCatchesSpec)

/-- ITS FALSE NEIGHBOUR: 'it returns false'. Refute it at one input. -/
def remoteCatchesWrong : ChangeSpec := { name := "remoteCatches", fn := fun _ => fun
  | [d1, d2, d3] => { results := [.lit (.bool false)], args := [d1, d2, d3] }
  | _ => none }
def RemoteCatchesWrongFalsely : Prop := remoteCatchesRow.holds Tryz.pinned (OpenSpec.ofChange remoteCatchesWrong)

/-- 'midrangelaw36.RemoteTakes': WHATEVER THE INPUT: true; the input reads as it did. -/
def remoteTakesSpec : ChangeSpec := { name := "remoteTakes", fn := fun _ => fun
  | [d1, d2] => { results := [.lit (.bool true)], args := [d1, d2] }
  | _ => none }
def remoteTakesRow : OpenClaim := { program := "ytblpebplbdoneaagreat", sum := "7a30244d668f31906dc4b7226c318333e147ecdabb0fe1a3729103a992261d15", func := "midrange/midrangelaw36.RemoteTakes", spec := "remoteTakes", unfollowed := true, recurses := true, apart := false }
def RemoteTakesSaid : Prop := remoteTakesRow.holds Tryz.pinned (OpenSpec.ofChange remoteTakesSpec)

/-- ITS FALSE NEIGHBOUR: 'it returns false'. Refute it at one input. -/
def remoteTakesWrong : ChangeSpec := { name := "remoteTakes", fn := fun _ => fun
  | [d1, d2] => { results := [.lit (.bool false)], args := [d1, d2] }
  | _ => none }
def RemoteTakesWrongFalsely : Prop := remoteTakesRow.holds Tryz.pinned (OpenSpec.ofChange remoteTakesWrong)

/-- 'midrangelaw36.RemoteMeets': WHATEVER THE INPUT: true; the input reads as it did. -/
def remoteMeetsSpec : ChangeSpec := { name := "remoteMeets", fn := fun _ => fun
  | [d1, d2] => { results := [.lit (.bool true)], args := [d1, d2] }
  | _ => none }
def remoteMeetsRow : OpenClaim := { program := "ytblpebplbdoneaagreat", sum := "7a30244d668f31906dc4b7226c318333e147ecdabb0fe1a3729103a992261d15", func := "midrange/midrangelaw36.RemoteMeets", spec := "remoteMeets", unfollowed := true, recurses := true, apart := false }
def RemoteMeetsSaid : Prop := remoteMeetsRow.holds Tryz.pinned (OpenSpec.ofChange remoteMeetsSpec)

/-- ITS FALSE NEIGHBOUR: 'it returns false'. Refute it at one input. -/
def remoteMeetsWrong : ChangeSpec := { name := "remoteMeets", fn := fun _ => fun
  | [d1, d2] => { results := [.lit (.bool false)], args := [d1, d2] }
  | _ => none }
def RemoteMeetsWrongFalsely : Prop := remoteMeetsRow.holds Tryz.pinned (OpenSpec.ofChange remoteMeetsWrong)

/- THE SECOND FORM. 'bulk': how many values and letters a reading holds, each counted each time it is reached (what is shared counts as often as it is met; a slice's spare places count too). A statement '..UptoSaid' is the law's where the arguments, and the package variables that the reading takes, are together of bulk at most 1048576: NARROWER than '..Said'. Prove '..Said' where nothing that the law and all that it calls make is longer than what came in: it says more and counts as full. Else prove '..UptoSaid'. A law counts once. -/
mutual
def uptoBulk {H : Type} : DataW H → Nat
  | .lit (.string bytes) => bytes.length + 1
  | .lit _ => 1
  | .nil => 1
  | .ptr d => uptoBulk d + 1
  | .slice elems spare => uptoBulkAll elems + uptoBulkAll spare + 1
  | .agg parts => uptoBulkAll parts + 1
  | .iface _ d => uptoBulk d + 1
  | .map entries => uptoBulkEntries entries + 1
  | .held _ => 1
def uptoBulkAll {H : Type} : List (DataW H) → Nat
  | [] => 0
  | d :: r => uptoBulk d + uptoBulkAll r
def uptoBulkEntries {H : Type} : List (Lit × DataW H) → Nat
  | [] => 0
  | x :: r => uptoBulkEntry x + uptoBulkEntries r
def uptoBulkEntry {H : Type} : Lit × DataW H → Nat
  | (.string bytes, d) => bytes.length + uptoBulk d + 1
  | (_, d) => uptoBulk d + 1
 end
def uptoSmall : (H : Type) → List (DataW H) → Bool := fun _ ds => decide (uptoBulkAll ds ≤ 1048576)
def OpenSpec.upto (s : _root_.Go.ChangeSpec) : _root_.Go.OpenSpec := { _root_.Go.OpenSpec.ofChange s with cond := some uptoSmall }

/-- 'midrangelaw36.RemoteCatches', WHERE WHAT IT READS IS OF BULK AT MOST 1048576: true; the input reads as it did. -/
def remoteCatchesUptoRow : OpenClaim := { program := "ytblpebplbdoneaagreat", sum := "7a30244d668f31906dc4b7226c318333e147ecdabb0fe1a3729103a992261d15", func := "midrange/midrangelaw36.RemoteCatches", spec := "remoteCatches", unfollowed := true, recurses := true, apart := false, narrowed := true }
def RemoteCatchesUptoSaid : Prop := remoteCatchesUptoRow.holds Tryz.pinned (OpenSpec.upto remoteCatchesSpec)

/-- 'midrangelaw36.RemoteTakes', WHERE WHAT IT READS IS OF BULK AT MOST 1048576: true; the input reads as it did. -/
def remoteTakesUptoRow : OpenClaim := { program := "ytblpebplbdoneaagreat", sum := "7a30244d668f31906dc4b7226c318333e147ecdabb0fe1a3729103a992261d15", func := "midrange/midrangelaw36.RemoteTakes", spec := "remoteTakes", unfollowed := true, recurses := true, apart := false, narrowed := true }
def RemoteTakesUptoSaid : Prop := remoteTakesUptoRow.holds Tryz.pinned (OpenSpec.upto remoteTakesSpec)

/-- 'midrangelaw36.RemoteMeets', WHERE WHAT IT READS IS OF BULK AT MOST 1048576: true; the input reads as it did. -/
def remoteMeetsUptoRow : OpenClaim := { program := "ytblpebplbdoneaagreat", sum := "7a30244d668f31906dc4b7226c318333e147ecdabb0fe1a3729103a992261d15", func := "midrange/midrangelaw36.RemoteMeets", spec := "remoteMeets", unfollowed := true, recurses := true, apart := false, narrowed := true }
def RemoteMeetsUptoSaid : Prop := remoteMeetsUptoRow.holds Tryz.pinned (OpenSpec.upto remoteMeetsSpec)

end Rows
end Go.Proofs.YtblpebplbdoneaaGreat
