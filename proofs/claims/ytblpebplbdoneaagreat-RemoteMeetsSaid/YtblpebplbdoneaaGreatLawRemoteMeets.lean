/- The law RemoteMeets: the row, out of its contract. -/
import Derived.Test.YtblpebplbdoneaaGreatRows
import Derived.Test.YtblpebplbdoneaaGreatE27
import Derived.WalkKit
import Derived.ProofKit
import Derived.OpenShut
import Derived.ShutString
import Derived.ChangeOld
import Derived.Below
import Derived.SizedLaws
set_option linter.unusedVariables false
set_option linter.unusedSimpArgs false
namespace Go.Proofs.YtblpebplbdoneaaGreat.remoteMeets
open Go.ChangeShapes Go.WideShapes Go.ChangeAt Go.RowKit Go.Ev
open Go.ChangeMaps (open_string shut_string)
theorem own : ownKnob Tryz.prog.godebug = none := by kernel_rfl
theorem laidOut : laidOutB Tryz.prog = true := by kernel_rfl
set_option maxRecDepth 100000 in
theorem lifted (os : Os) (started : os.Started) (H : Type) (enc : TypeId × Value → H) :
 ReturnsInHanded {} Tryz.checked os 5 .any (Rows.remoteMeetsSpec.pre6 enc Tryz.prog Tryz.f5 Rows.remoteMeetsRow.domain false) (Rows.remoteMeetsSpec.post enc Tryz.prog Tryz.f5 false true false false) := by
 refine returnsInHanded_of_change (C := Tryz.checked) own started (by kernel_rfl) Tryz.func5
  (ChangeSpec.witness6 (enc := enc) (C := Tryz.checked) false ⟨#[], #[.agg #[.bool false, .slice none 0 0, .slice none 0 0, .int .i64 0, .int .i64 0, .slice none 0 0], .slice none 0 0], []⟩ 8 (by kernel_rfl) (by kernel_rfl) (by kernel_rfl) (by kernel_rfl)) ?_
 intro W base args ds gs before hval0 hW hcnd _
 have hval : ∀ (j : Nat) t v, Tryz.f5.params[j]? = some t → args[j]? = some v → Value.okWide Tryz.prog W .any base t v := hval0
 have hW' := hW
 obtain ⟨p, q, hA0, hV, rfl, hfz, hnd⟩ := hW
 have hA : DataW.TrodAll enc Tryz.prog W 0 (fun _ => true) true Tryz.f5.params.toList args.toList ds p := hA0
 rw [Tryz.params5] at hA hval
 obtain ⟨v0, vs0, d0, ds0, p0, q0, hargs, rfl, rfl, h0, r0⟩ := trodAll_cons hA
 obtain ⟨v1, vs1, d1, ds1, p1, q1, rfl, rfl, rfl, h1, r1⟩ := trodAll_cons r0
 obtain ⟨rfl, rfl, rfl⟩ := trodAll_nil r1
 obtain rfl : args = #[v0, v1] := by cases args; simp_all
 obtain ⟨rfl, rfl⟩ := trodVars_none hV
 obtain ⟨c0, rfl, _⟩ := okWide_struct Tryz.underlying25 (hval 0 25 v0 rfl rfl)
 have k0 := h0
 have lt0 : ∀ x ∈ p0, x.block < W.heap.size := by obtain ⟨m, hm⟩ := k0; exact DataW.trod_lt m _ _ _ hm
 obtain ⟨x0, g0⟩ : ∃ x0 : Remote, RD W (fun _ => False) (.agg c0) (qbb x0) := by obtain ⟨m, hm⟩ := h0; obtain ⟨x, _, hx⟩ := qpu hm; exact ⟨x, RDs.whole hx⟩
 obtain ⟨a1, len1, cap1, rfl⟩ := okWide_slice Tryz.underlying26 (hval 1 26 v1 rfl rfl)
 have k1 := h1
 have lt1 : ∀ x ∈ p1, x.block < W.heap.size := by obtain ⟨m, hm⟩ := k1; exact DataW.trod_lt m _ _ _ hm
 obtain ⟨x1, g1⟩ : ∃ x1 : List Table, RD W (fun _ => False) (.slice a1 len1 cap1) (.sl 6 (x1.map q0c)) := by obtain ⟨m, hm⟩ := h1; obtain ⟨x, _, hx⟩ := rdL (encf := q0c) (sz := 6) Tryz.underlying26 (q04 Ty.sz69) (by decide) (fun _ => rfl) (fun _ _ _ h => qrk h) hm; exact ⟨x, RDs.single hx⟩
 clear hA0 hval0
 refine (qs0 (ds := [qbb x0, .sl 6 (x1.map q0c)]) (vs := #[.agg c0, .slice a1 len1 cap1]) (con5 (q0t qb11 follows) x0 x1) rfl ?_).mono fun e W' ⟨he, bel⟩ => ?_
 ·intro j v d hj hd
  match j with
  | 0 => simp at hj hd; subst hj; subst hd; exact g0
  | 1 => simp at hj hd; subst hj; subst hd; exact g1
  | _ + 2 => simp at hj
 subst he
 exact ⟨_, rfl, _, _, _, [], _, [], hW', trodAll_mk1 (shut_bool Tryz.underlying4 _), (trodAll_cons_mk (Below.trod laidOut (by kernel_rfl) (of_decide_eq_true (by kernel_rfl)) k0 bel lt0) (trodAll_cons_mk (Below.trod laidOut (by kernel_rfl) (of_decide_eq_true (by kernel_rfl)) k1 bel lt1) trodAll_mk0)), rfl, bel.frame _, fun h => by cases h⟩
theorem over : Rows.remoteMeetsRow.holds Tryz.pinned (OpenSpec.ofChange Rows.remoteMeetsSpec) :=
 OpenClaim.holds_of_wide 5 Tryz.f5 rfl rfl rfl rfl rfl rfl rfl ⟨rfl, rfl, rfl, rfl, rfl⟩ rfl rfl rfl rfl rfl (by kernel_rfl) Tryz.func5 (by kernel_rfl)
  (of_decide_eq_true (by kernel_rfl)) (by unfold Func.isWrapper; first | (rw [if_pos (by decide +kernel)]; kernel_rfl) | (rw [if_neg (by decide +kernel)]; exact ⟨rfl, rfl⟩))
  (fun os started H enc _ => lifted os started H enc)
theorem proved : Rows.RemoteMeetsSaid := over
#print axioms proved
end Go.Proofs.YtblpebplbdoneaaGreat.remoteMeets
namespace Go.Proofs.YtblpebplbdoneaaGreat
theorem remoteMeets_holds : Rows.RemoteMeetsSaid := remoteMeets.proved
end Go.Proofs.YtblpebplbdoneaaGreat
