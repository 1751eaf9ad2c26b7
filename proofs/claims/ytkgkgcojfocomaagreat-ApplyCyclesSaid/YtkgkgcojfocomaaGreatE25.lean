/- Tools and contracts under the laws of this seat: DevLaysKz, DevSortKz. -/
import Derived.Test.YtkgkgcojfocomaaGreatE03
import Derived.Shelf.SlLaysZI
import Derived.Shelf.SlLaysM
import Derived.Test.YtkgkgcojfocomaaGreatProg
import Derived.KernelRfl
import Derived.Test.YtkgkgcojfocomaaGreatE10
import Derived.Shelf.SlIterI.Nil
import Derived.Shelf.SlIterI.Sorted
import Derived.Shelf.SortM.Plain
import Derived.Shelf.SortM.SortNone
set_option linter.unusedVariables false
set_option linter.unusedSimpArgs false
namespace Go.Ev
open Go.Proofs Go.Shelf
def qox : Go.Shelf.Ren := ⟨fun | 7 => 84 | 10 => 106 | n => n, fun | 23 => 65 | 26 => 3 | 3 => 99 | 28 => 130 | 0 => 0 | 27 => 129 | 33 => 152 | 4 => 4 | n => n, fun n => n⟩
theorem qwr : SlLaysZI.n7 Tryz.prog qox := {
  mixed := by kernel_rfl,
  f7 := ⟨ "maps.Keys[map[int]*midrange/api.ApplyUnit,int,*midrange/api.ApplyUnit]", of_decide_eq_true (by kernel_rfl), Tryz.func84.trans (congrArg some (by kernel_rfl))⟩,
  f10 := ⟨ "maps.Keys[map[int]*midrange/api.ApplyUnit,int,*midrange/api.ApplyUnit]$1", of_decide_eq_true (by kernel_rfl), Tryz.func106.trans (congrArg some (by kernel_rfl))⟩,
  t0 := Tryz.underlying0,
  a0 := Tryz.isAgg0,
  z0 := Tryz.sizeOf0,
  v0 := Tryz.zeroValue0,
  t4 := Tryz.underlying4,
  a4 := Tryz.isAgg4,
  z4 := Tryz.sizeOf4,
  v4 := Tryz.zeroValue4,
  t23 := Tryz.underlying65,
  a23 := Tryz.isAgg65,
  z23 := Tryz.sizeOf65,
  v23 := Tryz.zeroValue65,
  t26 := Tryz.underlying3,
  a26 := Tryz.isAgg3,
  z26 := Tryz.sizeOf3,
  v26 := Tryz.zeroValue3,
  t27 := Tryz.underlying129,
  a27 := Tryz.isAgg129,
  z27 := Tryz.sizeOf129,
  v27 := Tryz.zeroValue129,
  t28 := Tryz.underlying130,
  a28 := Tryz.isAgg130,
  z28 := Tryz.sizeOf130,
  v28 := Tryz.zeroValue130,
  t33 := Tryz.underlying152,
  a33 := Tryz.isAgg152,
  z33 := Tryz.sizeOf152,
  v33 := Tryz.zeroValue152 }
def qqn : Go.Shelf.Ren := ⟨fun | 6 => 83 | 8 => 104 | 9 => 105 | 11 => 129 | 13 => 89 | 12 => 130 | 23 => 115 | 24 => 116 | 14 => 142 | 15 => 143 | 16 => 144 | 17 => 145 | 18 => 146 | 19 => 147 | 20 => 148 | 21 => 149 | 22 => 150 | 25 => 158 | 26 => 132 | 27 => 133 | 28 => 159 | 29 => 160 | 30 => 161 | 31 => 171 | n => n, fun | 26 => 3 | 28 => 130 | 24 => 31 | 0 => 0 | 3 => 3 | 37 => 136 | 48 => 162 | 50 => 164 | 4 => 4 | 40 => 155 | 39 => 154 | 45 => 159 | 5 => 5 | 9 => 9 | 51 => 176 | 55 => 180 | 57 => 194 | 58 => 40 | 33 => 152 | n => n, fun n => n⟩
theorem qbb3 : SlLaysZI.n6 Tryz.prog qqn := {
  mixed := by kernel_rfl,
  f6 := ⟨ "slices.Sorted[int]", of_decide_eq_true (by kernel_rfl), Tryz.func83.trans (congrArg some (by kernel_rfl))⟩,
  f8 := ⟨ "slices.Collect[int]", of_decide_eq_true (by kernel_rfl), Tryz.func104.trans (congrArg some (by kernel_rfl))⟩,
  f11 := ⟨ "slices.AppendSeq[[]int,int]", of_decide_eq_true (by kernel_rfl), Tryz.func129.trans (congrArg some (by kernel_rfl))⟩,
  t0 := Tryz.underlying0,
  a0 := Tryz.isAgg0,
  z0 := Tryz.sizeOf0,
  v0 := Tryz.zeroValue0,
  t24 := Tryz.underlying31,
  a24 := Tryz.isAgg31,
  z24 := Tryz.sizeOf31,
  v24 := Tryz.zeroValue31,
  t26 := Tryz.underlying3,
  a26 := Tryz.isAgg3,
  z26 := Tryz.sizeOf3,
  v26 := Tryz.zeroValue3,
  t28 := Tryz.underlying130,
  a28 := Tryz.isAgg130,
  z28 := Tryz.sizeOf130,
  v28 := Tryz.zeroValue130,
  i26 := by kernel_rfl }
def q4h : Go.Shelf.Ren := ⟨fun | 5 => 105 | 8 => 89 | 7 => 130 | 19 => 115 | 20 => 116 | 10 => 142 | 11 => 143 | 12 => 144 | 13 => 145 | 14 => 146 | 15 => 147 | 16 => 148 | 17 => 149 | 18 => 150 | 30 => 158 | 31 => 132 | 32 => 133 | 33 => 159 | 34 => 160 | 35 => 161 | 40 => 171 | n => n, fun | 23 => 31 | 25 => 3 | 3 => 3 | 32 => 136 | 22 => 31 | 0 => 0 | 44 => 162 | 46 => 164 | 4 => 4 | 36 => 155 | 35 => 154 | 41 => 159 | 5 => 5 | 9 => 9 | 53 => 176 | 57 => 180 | 63 => 194 | 64 => 40 | n => n, fun n => n⟩
theorem q5l : SlLaysM.n5 Tryz.prog q4h := {
  mixed := by kernel_rfl,
  f5 := ⟨ "slices.Sort[[]int,int]", of_decide_eq_true (by kernel_rfl), Tryz.func105.trans (congrArg some (by kernel_rfl))⟩,
  f7 := ⟨ "slices.pdqsortOrdered[int]", of_decide_eq_true (by kernel_rfl), Tryz.func130.trans (congrArg some (by kernel_rfl))⟩,
  f8 := Tryz.func89.trans (congrArg some (by kernel_rfl)),
  f10 := ⟨ "slices.insertionSortOrdered[int]", of_decide_eq_true (by kernel_rfl), Tryz.func142.trans (congrArg some (by kernel_rfl))⟩,
  f11 := ⟨ "slices.heapSortOrdered[int]", of_decide_eq_true (by kernel_rfl), Tryz.func143.trans (congrArg some (by kernel_rfl))⟩,
  f12 := ⟨ "slices.breakPatternsOrdered[int]", of_decide_eq_true (by kernel_rfl), Tryz.func144.trans (congrArg some (by kernel_rfl))⟩,
  f13 := ⟨ "slices.choosePivotOrdered[int]", of_decide_eq_true (by kernel_rfl), Tryz.func145.trans (congrArg some (by kernel_rfl))⟩,
  f14 := ⟨ "slices.reverseRangeOrdered[int]", of_decide_eq_true (by kernel_rfl), Tryz.func146.trans (congrArg some (by kernel_rfl))⟩,
  f15 := ⟨ "slices.partialInsertionSortOrdered[int]", of_decide_eq_true (by kernel_rfl), Tryz.func147.trans (congrArg some (by kernel_rfl))⟩,
  f16 := ⟨ "cmp.Less[int]", of_decide_eq_true (by kernel_rfl), Tryz.func148.trans (congrArg some (by kernel_rfl))⟩,
  f17 := ⟨ "slices.partitionEqualOrdered[int]", of_decide_eq_true (by kernel_rfl), Tryz.func149.trans (congrArg some (by kernel_rfl))⟩,
  f18 := ⟨ "slices.partitionOrdered[int]", of_decide_eq_true (by kernel_rfl), Tryz.func150.trans (congrArg some (by kernel_rfl))⟩,
  f19 := Tryz.func115.trans (congrArg some (by kernel_rfl)),
  f20 := Tryz.func116.trans (congrArg some (by kernel_rfl)),
  f30 := ⟨ "slices.siftDownOrdered[int]", of_decide_eq_true (by kernel_rfl), Tryz.func158.trans (congrArg some (by kernel_rfl))⟩,
  f31 := Tryz.func132.trans (congrArg some (by kernel_rfl)),
  f32 := Tryz.func133.trans (congrArg some (by kernel_rfl)),
  f33 := ⟨ "slices.medianAdjacentOrdered[int]", of_decide_eq_true (by kernel_rfl), Tryz.func159.trans (congrArg some (by kernel_rfl))⟩,
  f34 := ⟨ "slices.medianOrdered[int]", of_decide_eq_true (by kernel_rfl), Tryz.func160.trans (congrArg some (by kernel_rfl))⟩,
  f35 := ⟨ "cmp.isNaN[int]", of_decide_eq_true (by kernel_rfl), Tryz.func161.trans (congrArg some (by kernel_rfl))⟩,
  f40 := ⟨ "slices.order2Ordered[int]", of_decide_eq_true (by kernel_rfl), Tryz.func171.trans (congrArg some (by kernel_rfl))⟩,
  t0 := Tryz.underlying0,
  a0 := Tryz.isAgg0,
  z0 := Tryz.sizeOf0,
  v0 := Tryz.zeroValue0,
  t3 := Tryz.underlying3,
  a3 := Tryz.isAgg3,
  z3 := Tryz.sizeOf3,
  v3 := Tryz.zeroValue3,
  t4 := Tryz.underlying4,
  a4 := Tryz.isAgg4,
  z4 := Tryz.sizeOf4,
  v4 := Tryz.zeroValue4,
  t5 := Tryz.underlying5,
  a5 := Tryz.isAgg5,
  z5 := Tryz.sizeOf5,
  v5 := Tryz.zeroValue5,
  t9 := Tryz.underlying9,
  a9 := Tryz.isAgg9,
  z9 := Tryz.sizeOf9,
  v9 := Tryz.zeroValue9,
  t22 := Tryz.underlying31,
  a22 := Tryz.isAgg31,
  z22 := Tryz.sizeOf31,
  v22 := Tryz.zeroValue31,
  t23 := Tryz.underlying31,
  a23 := Tryz.isAgg31,
  z23 := Tryz.sizeOf31,
  v23 := Tryz.zeroValue31,
  t25 := Tryz.underlying3,
  a25 := Tryz.isAgg3,
  z25 := Tryz.sizeOf3,
  v25 := Tryz.zeroValue3,
  t32 := Tryz.underlying136,
  a32 := Tryz.isAgg136,
  z32 := Tryz.sizeOf136,
  v32 := Tryz.zeroValue136,
  t35 := Tryz.underlying154,
  a35 := Tryz.isAgg154,
  z35 := Tryz.sizeOf154,
  v35 := Tryz.zeroValue154,
  t36 := Tryz.underlying155,
  a36 := Tryz.isAgg155,
  z36 := Tryz.sizeOf155,
  v36 := Tryz.zeroValue155,
  t41 := Tryz.underlying159,
  a41 := Tryz.isAgg159,
  z41 := Tryz.sizeOf159,
  v41 := Tryz.zeroValue159,
  t44 := Tryz.underlying162,
  a44 := Tryz.isAgg162,
  z44 := Tryz.sizeOf162,
  v44 := Tryz.zeroValue162,
  t46 := Tryz.underlying164,
  a46 := Tryz.isAgg164,
  z46 := Tryz.sizeOf164,
  v46 := Tryz.zeroValue164,
  t53 := Tryz.underlying176,
  a53 := Tryz.isAgg176,
  z53 := Tryz.sizeOf176,
  v53 := Tryz.zeroValue176,
  t57 := Tryz.underlying180,
  a57 := Tryz.isAgg180,
  z57 := Tryz.sizeOf180,
  v57 := Tryz.zeroValue180,
  t63 := Tryz.underlying194,
  a63 := Tryz.isAgg194,
  z63 := Tryz.sizeOf194,
  v63 := Tryz.zeroValue194,
  t64 := Tryz.underlying40,
  a64 := Tryz.isAgg40,
  z64 := Tryz.sizeOf40,
  v64 := Tryz.zeroValue40 }
end Go.Ev

namespace Go.Ev
open Go.Proofs Go.Shelf Go.Sort Go.RowKit Go.Maps
theorem qbua (m : Nat) : AnyZI.SortsIn Tryz.prog qqn Fence.wide m :=
  ⟨fun blk off cap ss W hH hblk hsz => callsIn_wide.2 (AnyM.slices_Sort_int q5l blk off cap ss W hH hblk hsz),
   fun p cap W => callsIn_wide.2 (AnyM.slices_Sort_int_none q5l p cap W)⟩
theorem cKz (mb : Option Nat) (W : World) : Calls Tryz.prog 84 #[.map mb] W fun e w' => e = .returned (.func (.func 106) #[] #[.pointer (some ⟨W.heap.size, 0, none⟩)]) ∧ ∃ tB, w' = W.alloc (.cells #[.map mb] tB) :=
  Calls.mono (callsIn_wide.1 (AnyZI.keys_in qwr Fence.wide 5 trivial rfl mb W)) fun _ _ ⟨h1, h2⟩ => ⟨h1, _, h2⟩
theorem cSz0 (l : List Int) (S : List Int → Prop) (N : Nat) (hN : N ≤ 1000000) (hS : ∀ ss, S ss → ss.Perm l) (Bm : Nat) (W : World)
    (hseq : SeqGives Fence.wide 2 Tryz.prog 106 #[.pointer (some ⟨Bm, 0, none⟩)] encZ S N W) : Calls Tryz.prog 83 #[.func (.func 106) #[] #[.pointer (some ⟨Bm, 0, none⟩)]] W fun e w' =>
      ∃ v, e = .returned v ∧ w'.ownsRow W.heap.size 3 1 v (qft l).length ((qft l).map fun n => Value.int .i64 n) ∧ Below W.heap.size W w' := by
  have hmx : 1000000 ≤ maxLen := by decide
  have cS := AnyZI.sorted_in qbb3 Fence.wide 5 trivial trivial trivial trivial rfl (by omega) (qbua _) (enters_of Tryz.func105 (by kernel_rfl) rfl) 106 #[.pointer (some ⟨Bm, 0, none⟩)] trivial (enters_of Tryz.func106 (by kernel_rfl) rfl) S N (by omega) (by omega) W hseq
  change CallsIn _ _ Tryz.prog 83 _ _ _ at cS
  refine Calls.mono (callsIn_wide.1 cS) ?_
  rintro e w' ⟨v, ss, rfl, hs, hrow, _, hb⟩
  have e : qft l = ss.mergeSort fun x y => decide (x ≤ y) := (mergeSort_of_perm_i (hS ss hs)).symm
  refine ⟨v, rfl, ?_, hb⟩
  rw [e, List.length_mergeSort]
  exact hrow
theorem cSz (mb : Option Nat) (l : List Int) (Bm : Nat) (W : World) (hl : l.length ≤ 1000000) (hB : Bm < W.heap.size) (hm : W.cell? ⟨Bm, 0, none⟩ = some (.map mb)) (hk : qvk Tryz.prog 3 W mb l) :
    Calls Tryz.prog 83 #[.func (.func 106) #[] #[.pointer (some ⟨Bm, 0, none⟩)]] W fun e w' =>
      ∃ v, e = .returned v ∧ w'.ownsRow W.heap.size 3 1 v (qft l).length ((qft l).map fun n => Value.int .i64 n) ∧ Below W.heap.size W w' := by
  rcases hk with ⟨rfl, rfl⟩ | ⟨b, nn, D0, rfl, hown, hp, hsz⟩
  · exact cSz0 [] _ 0 (by omega) (fun ss h => by subst h; exact List.Perm.refl _) Bm W (AnyZI.keys_gives_nil (ρ := qox) { qwr with } Fence.wide 2 trivial rfl Bm W hB hm)
  · exact cSz0 l _ (Maps.size D0) (by omega) (fun ss h => h.trans hp) Bm W (AnyZI.keys_gives (ρ := qox) { qwr with } Fence.wide 2 trivial rfl (by omega) Bm b nn D0 W hB hm hown)
end Go.Ev
