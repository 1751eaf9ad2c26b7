/- The law CommandFolds: the row, out of its contract. -/
import Derived.Test.YtlejldoefoppaaaGreatDoorRows
import Derived.Test.YtlejldoefoppaaaGreatDoorCards
import Derived.Test.YtlejldoefoppaaaGreatDoorTie
import Derived.Lay
import Derived.LaidOnce
import Derived.SevenTiedAt
import Derived.MakeChecks
import Derived.Test.YtlejldoefoppaaaGreatDoorE12
import Derived.WalkKit
import Derived.ProofKit
import Derived.OpenShut
import Derived.ShutString
import Derived.ChangeOld
import Derived.Below
import Derived.SizedLaws
set_option linter.unusedVariables false
set_option linter.unusedSimpArgs false
namespace Go.Proofs.YtlejldoefoppaaaGreatDoor.commandFolds
open Go.ChangeShapes Go.WideShapes Go.ChangeAt Go.RowKit Go.Ev
open Go.ChangeMaps (open_string shut_string)
theorem own : ownKnob Tryz.prog.godebug = none := by kernel_rfl
theorem laidOut : laidOutB Tryz.prog = true := by kernel_rfl
set_option maxRecDepth 100000 in
theorem lifted (os : Os) (started : os.Started) (H : Type) (enc : TypeId × Value → H) :
 ReturnsInHanded {} Tryz.checked os 12 .any (fun w args => (Rows.commandFoldsSpec.pre enc Tryz.prog Tryz.f12 [] false w args ∧ laidMetH Tryz.prog Rows.commandFoldsRow.laid w) ∧ sizedMet enc Tryz.prog Tryz.f12 (OpenSpec.ofChange Rows.commandFoldsSpec) false w args) (Rows.commandFoldsSpec.post enc Tryz.prog Tryz.f12 false true false false) := by
 refine qng (C := Tryz.checked) (X := fun w _ => laidMetH Tryz.prog Rows.commandFoldsRow.laid w) (fun _ _ _ hh h => h.of_heap hh) own started (by kernel_rfl) Tryz.func12
  (ChangeSpec.witness_shaped (enc := enc) (C := Tryz.checked) (os := os) (X := fun w _ => laidMetH Tryz.prog Rows.commandFoldsRow.laid w) false (World.laidAll Tryz.prog os Rows.commandFoldsRow.laid) #[.agg #[.string ByteArray.empty, .slice none 0 0], .int .u8 0] 8 (World.laidAll_os _ _ _)
    (World.shaped_of_ZipB (by kernel_rfl) (by kernel_rfl)) (by kernel_rfl) (by kernel_rfl) (by kernel_rfl)
    (by rw [MakeChecks.laidMetH_plain _ _ _ (by kernel_rfl)]; exact laidMet_laidAll _ (by kernel_rfl) (by kernel_rfl))) ?_
 intro W base args ds gs before hval0 hW hL hsh
 have hval : ∀ (j : Nat) t v, Tryz.f12.params[j]? = some t → args[j]? = some v → Value.okWide Tryz.prog W .any base t v := hval0
 have hW' := hW
 obtain ⟨p, q, hA0, hV, rfl, hfz, hnd⟩ := hW
 have hA : DataW.TrodAll enc Tryz.prog W 0 (fun _ => true) true Tryz.f12.params.toList args.toList ds p := hA0
 rw [Tryz.params12] at hA hval
 obtain ⟨v0, vs0, d0, ds0, p0, q0, hargs, rfl, rfl, h0, r0⟩ := trodAll_cons hA
 obtain ⟨v1, vs1, d1, ds1, p1, q1, rfl, rfl, rfl, h1, r1⟩ := trodAll_cons r0
 obtain ⟨rfl, rfl, rfl⟩ := trodAll_nil r1
 obtain rfl : args = #[v0, v1] := by cases args; simp_all
 obtain ⟨rfl, rfl⟩ := trodVars_none hV
 obtain ⟨c0, rfl, _⟩ := okWide_struct Tryz.underlying33 (hval 0 33 v0 rfl rfl)
 have k0 := h0
 have lt0 : ∀ x ∈ p0, x.block < W.heap.size := by obtain ⟨m, hm⟩ := k0; exact DataW.trod_lt m _ _ _ hm
 obtain ⟨x0, g0⟩ : ∃ x0 : CStr, RD W (fun _ => False) (.agg c0) (q05 x0) := by obtain ⟨m, hm⟩ := h0; obtain ⟨x, _, hx⟩ := q26 hm; exact ⟨x, RDs.whole hx⟩
 obtain ⟨a1, rfl⟩ := okWide_int Tryz.underlying5 (hval 1 5 v1 rfl rfl)
 have k1 := h1
 have lt1 : ∀ x ∈ p1, x.block < W.heap.size := by obtain ⟨m, hm⟩ := k1; exact DataW.trod_lt m _ _ _ hm
 obtain ⟨x1, g1⟩ : ∃ x1 : Int, RD W (fun _ => False) (.int .u8 a1) (.i .u8 x1) := by obtain ⟨m, hm⟩ := h1; obtain ⟨x, _, hx⟩ := rdI (k := .u8) Tryz.underlying5 hm; exact ⟨x, RDs.single hx⟩
 clear hA0 hval0
 refine (q24 (ds := [q05 x0, .i .u8 x1]) (vs := #[.agg c0, .int .u8 a1]) (qbc9 (q0v qbdh follows) x0 x1) rfl ?_ (gi37 _ hsh)).mono fun e W' ⟨he, bel⟩ => ?_
 ·intro j v d hj hd
  match j with
  | 0 => simp at hj hd; subst hj; subst hd; exact g0
  | 1 => simp at hj hd; subst hj; subst hd; exact g1
  | _ + 2 => simp at hj
 subst he
 exact ⟨_, rfl, _, _, _, [], _, [], hW', trodAll_mk1 (shut_bool Tryz.underlying4 _), (trodAll_cons_mk (Below.trod laidOut (by kernel_rfl) (of_decide_eq_true (by kernel_rfl)) k0 bel lt0) (trodAll_cons_mk (Below.trod laidOut (by kernel_rfl) (of_decide_eq_true (by kernel_rfl)) k1 bel lt1) trodAll_mk0)), rfl, bel.frame _, fun h => by cases h⟩
theorem over : Rows.commandFoldsRow.holds Tryz.pinned (OpenSpec.ofChange Rows.commandFoldsSpec) :=
 OpenClaim.holds_of_wide 12 Tryz.f12 rfl rfl rfl rfl rfl rfl rfl ⟨rfl, rfl, rfl, rfl, rfl⟩ rfl rfl rfl rfl rfl (by kernel_rfl) Tryz.func12 (by kernel_rfl)
  (of_decide_eq_true (by kernel_rfl)) (by unfold Func.isWrapper; first | (rw [if_pos (by decide +kernel)]; kernel_rfl) | (rw [if_neg (by decide +kernel)]; exact ⟨rfl, rfl⟩))
  (fun os started H enc _ => lifted os started H enc)
theorem proved : Rows.CommandFoldsCardSaid :=
 Claim7.holds_tied_plain_at .later [] [.data, .data, .data, .data, .sentinel, .sentinel, .pinned, .pinned] true (true, "dcfb97216f6d2b121fcd51b0ae432803ef8c406ea5637533c15eaa5ea3d49895") true over (fun _ h => by cases h) (by kernel_rfl) (fun _ h => by cases h) commandFolds_row_tie rfl ⟨rfl, rfl⟩ (by kernel_rfl) rfl
  (fun f fn hf hfn => by
    obtain rfl : f = 12 := Option.some.inj ((show Tryz.prog.funcNamed Rows.commandFoldsRow.func = some 12 by kernel_rfl).symm.trans hf) |>.symm
    obtain rfl : fn = Tryz.f12 := (Option.some.inj (Tryz.func12.symm.trans hfn)).symm
    exact ⟨by kernel_rfl, fun j t ht => by
     rw [Tryz.params12] at ht
     have hm : t ∈ [33, 5] := by simpa using Array.mem_of_getElem? ht
     have hall : ([33, 5].all fun u => !Tryz.prog.wantsStandIn u) = true := by kernel_rfl
     exact (show Tryz.prog.wantsStandIn t = false by simpa using List.all_eq_true.1 hall t hm)⟩)
  (by kernel_rfl)
#print axioms proved
end Go.Proofs.YtlejldoefoppaaaGreatDoor.commandFolds
namespace Go.Proofs.YtlejldoefoppaaaGreatDoor
theorem commandFolds_holds : Rows.CommandFoldsCardSaid := commandFolds.proved
end Go.Proofs.YtlejldoefoppaaaGreatDoor
