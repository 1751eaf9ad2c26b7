/-
  No cell of these rows narrows 'for every input' (looked for: loops, veiled, ifaces, maps, wideKeys, modest, calm, conditions, laid).
  DERIVED. THE GIVEN ROWS OF THIS SEAT. 7 by the template 'for every input the law returns true; each argument reads behind the call as it read before'; 0 by the template 'total and deterministic' (their statements: YtblpebplbdoneaaTotals.lean).
  GIVEN WITH THE SEED: the statements are not yours to turn. If you find one false, say at which input.
  Laid BY PROGRAM, IN A SANDBOX (cutbox-rows.mjs): the forced cells as the released guide's own fill.sh prints them over the translation 8832ec3a6d1d74a1… (all of the seat's roots in one cut). By AI agents, Wed Nov 11 2026. No macro, syntax, notation, axiom, sorry.
-/
import Derived.Test.YtblpebplbdoneaaChecked
import GoSem.Claim
import GoSem.ClaimJoined
import GoSem.ClaimMapViews
import Derived.JoinedTies
import Derived.KernelRfl
namespace Go.Proofs.Ytblpebplbdoneaa
/- THE CELL 'sum', in the pinned program and in every row, IS THE sha256 OF THE DUMP (.gsa) THAT YtblpebplbdoneaaProg.lean LOADS. Nothing in Lean hashes anything: it is a label: what it is worth is what the hold of that sum in a sandbox is worth. -/
noncomputable def Try.pinned : Pinned := { name := "ytblpebplbdoneaa", sum := "8832ec3a6d1d74a122983680caac3864bf1a2a78c84b0d3b0f1f2e2ed977a8b9", checked := Try.checked }
namespace Rows
def none {H : Type} : Left H := { results := [], args := [] }

/-- 'midrangelaw36.RemoteRuns': WHATEVER THE INPUT: true; the input reads as it did. -/
def remoteRunsSpec : ChangeSpec := { name := "remoteRuns", fn := fun _ => fun
  | [d1, d2] => { results := [.lit (.bool true)], args := [d1, d2] }
  | _ => none }
def remoteRunsRow : OpenClaim := { program := "ytblpebplbdoneaa", sum := "8832ec3a6d1d74a122983680caac3864bf1a2a78c84b0d3b0f1f2e2ed977a8b9", func := "midrange/midrangelaw36.RemoteRuns", spec := "remoteRuns", apart := false }
def RemoteRunsSaid : Prop := remoteRunsRow.holds Try.pinned (OpenSpec.ofChange remoteRunsSpec)

/-- ITS FALSE NEIGHBOUR: 'it returns false'. Refute it at one input. -/
def remoteRunsWrong : ChangeSpec := { name := "remoteRuns", fn := fun _ => fun
  | [d1, d2] => { results := [.lit (.bool false)], args := [d1, d2] }
  | _ => none }
def RemoteRunsWrongFalsely : Prop := remoteRunsRow.holds Try.pinned (OpenSpec.ofChange remoteRunsWrong)

/-- 'midrangelaw36.RemoteActs': WHATEVER THE INPUT: true; the input reads as it did. -/
def remoteActsSpec : ChangeSpec := { name := "remoteActs", fn := fun _ => fun
  | [d1, d2] => { results := [.lit (.bool true)], args := [d1, d2] }
  | _ => none }
def remoteActsRow : OpenClaim := { program := "ytblpebplbdoneaa", sum := "8832ec3a6d1d74a122983680caac3864bf1a2a78c84b0d3b0f1f2e2ed977a8b9", func := "midrange/midrangelaw36.RemoteActs", spec := "remoteActs", apart := false }
def RemoteActsSaid : Prop := remoteActsRow.holds Try.pinned (OpenSpec.ofChange remoteActsSpec)

/-- ITS FALSE NEIGHBOUR: 'it returns false'. Refute it at one input. -/
def remoteActsWrong : ChangeSpec := { name := "remoteActs", fn := fun _ => fun
  | [d1, d2] => { results := [.lit (.bool false)], args := [d1, d2] }
  | _ => none }
def RemoteActsWrongFalsely : Prop := remoteActsRow.holds Try.pinned (OpenSpec.ofChange remoteActsWrong)

/-- 'midrangelaw36.RemoteArrives': WHATEVER THE INPUT: true; the input reads as it did. -/
def remoteArrivesSpec : ChangeSpec := { name := "remoteArrives", fn := fun _ => fun
  | [d] => { results := [.lit (.bool true)], args := [d] }
  | _ => none }
def remoteArrivesRow : OpenClaim := { program := "ytblpebplbdoneaa", sum := "8832ec3a6d1d74a122983680caac3864bf1a2a78c84b0d3b0f1f2e2ed977a8b9", func := "midrange/midrangelaw36.RemoteArrives", spec := "remoteArrives", apart := false }
def RemoteArrivesSaid : Prop := remoteArrivesRow.holds Try.pinned (OpenSpec.ofChange remoteArrivesSpec)

/-- ITS FALSE NEIGHBOUR: 'it returns false'. Refute it at one input. -/
def remoteArrivesWrong : ChangeSpec := { name := "remoteArrives", fn := fun _ => fun
  | [d] => { results := [.lit (.bool false)], args := [d] }
  | _ => none }
def RemoteArrivesWrongFalsely : Prop := remoteArrivesRow.holds Try.pinned (OpenSpec.ofChange remoteArrivesWrong)

/-- 'midrangelaw36.RemoteChecks': WHATEVER THE INPUT: true; the input reads as it did. -/
def remoteChecksSpec : ChangeSpec := { name := "remoteChecks", fn := fun _ => fun
  | [d] => { results := [.lit (.bool true)], args := [d] }
  | _ => none }
def remoteChecksRow : OpenClaim := { program := "ytblpebplbdoneaa", sum := "8832ec3a6d1d74a122983680caac3864bf1a2a78c84b0d3b0f1f2e2ed977a8b9", func := "midrange/midrangelaw36.RemoteChecks", spec := "remoteChecks", unfollowed := true, recurses := true, apart := false }
def RemoteChecksSaid : Prop := remoteChecksRow.holds Try.pinned (OpenSpec.ofChange remoteChecksSpec)

/-- ITS FALSE NEIGHBOUR: 'it returns false'. Refute it at one input. -/
def remoteChecksWrong : ChangeSpec := { name := "remoteChecks", fn := fun _ => fun
  | [d] => { results := [.lit (.bool false)], args := [d] }
  | _ => none }
def RemoteChecksWrongFalsely : Prop := remoteChecksRow.holds Try.pinned (OpenSpec.ofChange remoteChecksWrong)

/-- 'midrangelaw36.RemoteKeeps': WHATEVER THE INPUT: true; the input reads as it did. -/
def remoteKeepsSpec : ChangeSpec := { name := "remoteKeeps", fn := fun _ => fun
  | [d1, d2] => { results := [.lit (.bool true)], args := [d1, d2] }
  | _ => none }
def remoteKeepsRow : OpenClaim := { program := "ytblpebplbdoneaa", sum := "8832ec3a6d1d74a122983680caac3864bf1a2a78c84b0d3b0f1f2e2ed977a8b9", func := "midrange/midrangelaw36.RemoteKeeps", spec := "remoteKeeps", recurses := true, apart := false }
def RemoteKeepsSaid : Prop := remoteKeepsRow.holds Try.pinned (OpenSpec.ofChange remoteKeepsSpec)

/-- ITS FALSE NEIGHBOUR: 'it returns false'. Refute it at one input. -/
def remoteKeepsWrong : ChangeSpec := { name := "remoteKeeps", fn := fun _ => fun
  | [d1, d2] => { results := [.lit (.bool false)], args := [d1, d2] }
  | _ => none }
def RemoteKeepsWrongFalsely : Prop := remoteKeepsRow.holds Try.pinned (OpenSpec.ofChange remoteKeepsWrong)

/-- 'midrangelaw36.RemoteSyncs': WHATEVER THE INPUT: true; the input reads as it did. -/
def remoteSyncsSpec : ChangeSpec := { name := "remoteSyncs", fn := fun _ => fun
  | [d] => { results := [.lit (.bool true)], args := [d] }
  | _ => none }
def remoteSyncsRow : OpenClaim := { program := "ytblpebplbdoneaa", sum := "8832ec3a6d1d74a122983680caac3864bf1a2a78c84b0d3b0f1f2e2ed977a8b9", func := "midrange/midrangelaw36.RemoteSyncs", spec := "remoteSyncs", recurses := true, apart := false }
def RemoteSyncsSaid : Prop := remoteSyncsRow.holds Try.pinned (OpenSpec.ofChange remoteSyncsSpec)

/-- ITS FALSE NEIGHBOUR: 'it returns false'. Refute it at one input. -/
def remoteSyncsWrong : ChangeSpec := { name := "remoteSyncs", fn := fun _ => fun
  | [d] => { results := [.lit (.bool false)], args := [d] }
  | _ => none }
def RemoteSyncsWrongFalsely : Prop := remoteSyncsRow.holds Try.pinned (OpenSpec.ofChange remoteSyncsWrong)

/-- 'midrangelaw36.RemoteConfirms': WHATEVER THE INPUT: true; the input reads as it did. -/
def remoteConfirmsSpec : ChangeSpec := { name := "remoteConfirms", fn := fun _ => fun
  | [d] => { results := [.lit (.bool true)], args := [d] }
  | _ => none }
def remoteConfirmsRow : OpenClaim := { program := "ytblpebplbdoneaa", sum := "8832ec3a6d1d74a122983680caac3864bf1a2a78c84b0d3b0f1f2e2ed977a8b9", func := "midrange/midrangelaw36.RemoteConfirms", spec := "remoteConfirms", recurses := true, apart := false }
def RemoteConfirmsSaid : Prop := remoteConfirmsRow.holds Try.pinned (OpenSpec.ofChange remoteConfirmsSpec)

/-- ITS FALSE NEIGHBOUR: 'it returns false'. Refute it at one input. -/
def remoteConfirmsWrong : ChangeSpec := { name := "remoteConfirms", fn := fun _ => fun
  | [d] => { results := [.lit (.bool false)], args := [d] }
  | _ => none }
def RemoteConfirmsWrongFalsely : Prop := remoteConfirmsRow.holds Try.pinned (OpenSpec.ofChange remoteConfirmsWrong)

/- THE SECOND FORM. 'bulk': how many values and letters a reading holds, each counted each time it is reached (what is shared counts as often as it is met; a slice's spare places count too). A statement '..UptoSaid' is the law's where the arguments, and the package variables that the reading takes, are together of bulk at most 1048576: NARROWER than '..Said'. Prove '..Said' where nothing that the law and all that it calls make is longer than what came in: it says more and counts as full. Else prove '..UptoSaid'. A law counts once. -/
mutual
def uptoBulk {H : Type} : DataW H → Nat
  | .lit (.string bytes) => bytes.length + 1
  | .lit _ => 1
  | .nil => 1
  | .ptr d => uptoBulk d + 1
  | .slice elems spare => uptoBulkAll elems + uptoBulkAll spare + 1
  | .agg parts => uptoBulkAll parts + 1
  | .iface _ d => uptoBulk d + 1
  | .map entries => uptoBulkEntries entries + 1
  | .held _ => 1
def uptoBulkAll {H : Type} : List (DataW H) → Nat
  | [] => 0
  | d :: r => uptoBulk d + uptoBulkAll r
def uptoBulkEntries {H : Type} : List (Lit × DataW H) → Nat
  | [] => 0
  | x :: r => uptoBulkEntry x + uptoBulkEntries r
def uptoBulkEntry {H : Type} : Lit × DataW H → Nat
  | (.string bytes, d) => bytes.length + uptoBulk d + 1
  | (_, d) => uptoBulk d + 1
 end
def uptoSmall : (H : Type) → List (DataW H) → Bool := fun _ ds => decide (uptoBulkAll ds ≤ 1048576)
def OpenSpec.upto (s : _root_.Go.ChangeSpec) : _root_.Go.OpenSpec := { _root_.Go.OpenSpec.ofChange s with cond := some uptoSmall }

/-- 'midrangelaw36.RemoteRuns', WHERE WHAT IT READS IS OF BULK AT MOST 1048576: true; the input reads as it did. -/
def remoteRunsUptoRow : OpenClaim := { program := "ytblpebplbdoneaa", sum := "8832ec3a6d1d74a122983680caac3864bf1a2a78c84b0d3b0f1f2e2ed977a8b9", func := "midrange/midrangelaw36.RemoteRuns", spec := "remoteRuns", apart := false, narrowed := true }
def RemoteRunsUptoSaid : Prop := remoteRunsUptoRow.holds Try.pinned (OpenSpec.upto remoteRunsSpec)

/-- 'midrangelaw36.RemoteActs', WHERE WHAT IT READS IS OF BULK AT MOST 1048576: true; the input reads as it did. -/
def remoteActsUptoRow : OpenClaim := { program := "ytblpebplbdoneaa", sum := "8832ec3a6d1d74a122983680caac3864bf1a2a78c84b0d3b0f1f2e2ed977a8b9", func := "midrange/midrangelaw36.RemoteActs", spec := "remoteActs", apart := false, narrowed := true }
def RemoteActsUptoSaid : Prop := remoteActsUptoRow.holds Try.pinned (OpenSpec.upto remoteActsSpec)

/-- 'midrangelaw36.RemoteArrives', WHERE WHAT IT READS IS OF BULK AT MOST 1048576: true; the input reads as it did. -/
def remoteArrivesUptoRow : OpenClaim := { program := "ytblpebplbdoneaa", sum := "8832ec3a6d1d74a122983680caac3864bf1a2a78c84b0d3b0f1f2e2ed977a8b9", func := "midrange/midrangelaw36.RemoteArrives", spec := "remoteArrives", apart := false, narrowed := true }
def RemoteArrivesUptoSaid : Prop := remoteArrivesUptoRow.holds Try.pinned (OpenSpec.upto remoteArrivesSpec)

/-- 'midrangelaw36.RemoteChecks', WHERE WHAT IT READS IS OF BULK AT MOST 1048576: true; the input reads as it did. -/
def remoteChecksUptoRow : OpenClaim := { program := "ytblpebplbdoneaa", sum := "8832ec3a6d1d74a122983680caac3864bf1a2a78c84b0d3b0f1f2e2ed977a8b9", func := "midrange/midrangelaw36.RemoteChecks", spec := "remoteChecks", unfollowed := true, recurses := true, apart := false, narrowed := true }
def RemoteChecksUptoSaid : Prop := remoteChecksUptoRow.holds Try.pinned (OpenSpec.upto remoteChecksSpec)

/-- 'midrangelaw36.RemoteKeeps', WHERE WHAT IT READS IS OF BULK AT MOST 1048576: true; the input reads as it did. -/
def remoteKeepsUptoRow : OpenClaim := { program := "ytblpebplbdoneaa", sum := "8832ec3a6d1d74a122983680caac3864bf1a2a78c84b0d3b0f1f2e2ed977a8b9", func := "midrange/midrangelaw36.RemoteKeeps", spec := "remoteKeeps", recurses := true, apart := false, narrowed := true }
def RemoteKeepsUptoSaid : Prop := remoteKeepsUptoRow.holds Try.pinned (OpenSpec.upto remoteKeepsSpec)

/-- 'midrangelaw36.RemoteSyncs', WHERE WHAT IT READS IS OF BULK AT MOST 1048576: true; the input reads as it did. -/
def remoteSyncsUptoRow : OpenClaim := { program := "ytblpebplbdoneaa", sum := "8832ec3a6d1d74a122983680caac3864bf1a2a78c84b0d3b0f1f2e2ed977a8b9", func := "midrange/midrangelaw36.RemoteSyncs", spec := "remoteSyncs", recurses := true, apart := false, narrowed := true }
def RemoteSyncsUptoSaid : Prop := remoteSyncsUptoRow.holds Try.pinned (OpenSpec.upto remoteSyncsSpec)

/-- 'midrangelaw36.RemoteConfirms', WHERE WHAT IT READS IS OF BULK AT MOST 1048576: true; the input reads as it did. -/
def remoteConfirmsUptoRow : OpenClaim := { program := "ytblpebplbdoneaa", sum := "8832ec3a6d1d74a122983680caac3864bf1a2a78c84b0d3b0f1f2e2ed977a8b9", func := "midrange/midrangelaw36.RemoteConfirms", spec := "remoteConfirms", recurses := true, apart := false, narrowed := true }
def RemoteConfirmsUptoSaid : Prop := remoteConfirmsUptoRow.holds Try.pinned (OpenSpec.upto remoteConfirmsSpec)

end Rows
end Go.Proofs.Ytblpebplbdoneaa
