/- Tools and contracts under the laws of this seat: DevLaysKr, DevSortKr. -/
import Derived.Test.YtblpebplbdoneaaGreatE03
import Derived.Shelf.SlLaysZI
import Derived.Shelf.SlLaysM
import Derived.Test.YtblpebplbdoneaaGreatProg
import Derived.KernelRfl
import Derived.Test.YtblpebplbdoneaaGreatE10
import Derived.Shelf.SlIterI.Nil
import Derived.Shelf.SlIterI.Sorted
import Derived.Shelf.SortM.Plain
import Derived.Shelf.SortM.SortNone
set_option linter.unusedVariables false
set_option linter.unusedSimpArgs false
namespace Go.Ev
open Go.Proofs Go.Shelf
def qpt : Go.Shelf.Ren := ⟨fun | 7 => 95 | 10 => 112 | n => n, fun | 23 => 97 | 26 => 3 | 3 => 140 | 28 => 158 | 0 => 0 | 27 => 157 | 33 => 170 | 4 => 4 | n => n, fun n => n⟩
theorem qx4 : SlLaysZI.n7 Tryz.prog qpt := {
 mixed := by kernel_rfl,
 f7 := ⟨ "maps.Keys[map[int]*midrange/api.ApplyUnit,int,*midrange/api.ApplyUnit]", of_decide_eq_true (by kernel_rfl), Tryz.func95.trans (congrArg some (by kernel_rfl))⟩,
 f10 := ⟨ "maps.Keys[map[int]*midrange/api.ApplyUnit,int,*midrange/api.ApplyUnit]$1", of_decide_eq_true (by kernel_rfl), Tryz.func112.trans (congrArg some (by kernel_rfl))⟩,
 t0 := Tryz.underlying0,
 a0 := Tryz.isAgg0,
 z0 := Tryz.sizeOf0,
 v0 := Tryz.zeroValue0,
 t4 := Tryz.underlying4,
 a4 := Tryz.isAgg4,
 z4 := Tryz.sizeOf4,
 v4 := Tryz.zeroValue4,
 t23 := Tryz.underlying97,
 a23 := Tryz.isAgg97,
 z23 := Tryz.sizeOf97,
 v23 := Tryz.zeroValue97,
 t26 := Tryz.underlying3,
 a26 := Tryz.isAgg3,
 z26 := Tryz.sizeOf3,
 v26 := Tryz.zeroValue3,
 t27 := Tryz.underlying157,
 a27 := Tryz.isAgg157,
 z27 := Tryz.sizeOf157,
 v27 := Tryz.zeroValue157,
 t28 := Tryz.underlying158,
 a28 := Tryz.isAgg158,
 z28 := Tryz.sizeOf158,
 v28 := Tryz.zeroValue158,
 t33 := Tryz.underlying170,
 a33 := Tryz.isAgg170,
 z33 := Tryz.sizeOf170,
 v33 := Tryz.zeroValue170 }
def qrr : Go.Shelf.Ren := ⟨fun | 6 => 94 | 8 => 110 | 9 => 111 | 11 => 121 | 13 => 123 | 12 => 122 | 23 => 142 | 24 => 143 | 14 => 133 | 15 => 134 | 16 => 135 | 17 => 136 | 18 => 137 | 19 => 138 | 20 => 139 | 21 => 140 | 22 => 141 | 25 => 159 | 26 => 160 | 27 => 161 | 28 => 162 | 29 => 163 | 30 => 164 | 31 => 178 | n => n, fun | 26 => 3 | 28 => 158 | 24 => 86 | 0 => 0 | 3 => 3 | 37 => 181 | 48 => 201 | 50 => 203 | 4 => 4 | 40 => 193 | 39 => 192 | 45 => 198 | 5 => 5 | 9 => 9 | 51 => 216 | 55 => 220 | 57 => 231 | 58 => 81 | 33 => 170 | n => n, fun n => n⟩
theorem qbcs : SlLaysZI.n6 Tryz.prog qrr := {
 mixed := by kernel_rfl,
 f6 := ⟨ "slices.Sorted[int]", of_decide_eq_true (by kernel_rfl), Tryz.func94.trans (congrArg some (by kernel_rfl))⟩,
 f8 := ⟨ "slices.Collect[int]", of_decide_eq_true (by kernel_rfl), Tryz.func110.trans (congrArg some (by kernel_rfl))⟩,
 f11 := ⟨ "slices.AppendSeq[[]int,int]", of_decide_eq_true (by kernel_rfl), Tryz.func121.trans (congrArg some (by kernel_rfl))⟩,
 t0 := Tryz.underlying0,
 a0 := Tryz.isAgg0,
 z0 := Tryz.sizeOf0,
 v0 := Tryz.zeroValue0,
 t24 := Tryz.underlying86,
 a24 := Tryz.isAgg86,
 z24 := Tryz.sizeOf86,
 v24 := Tryz.zeroValue86,
 t26 := Tryz.underlying3,
 a26 := Tryz.isAgg3,
 z26 := Tryz.sizeOf3,
 v26 := Tryz.zeroValue3,
 t28 := Tryz.underlying158,
 a28 := Tryz.isAgg158,
 z28 := Tryz.sizeOf158,
 v28 := Tryz.zeroValue158,
 i26 := by kernel_rfl }
def q48 : Go.Shelf.Ren := ⟨fun | 5 => 111 | 8 => 123 | 7 => 122 | 19 => 142 | 20 => 143 | 10 => 133 | 11 => 134 | 12 => 135 | 13 => 136 | 14 => 137 | 15 => 138 | 16 => 139 | 17 => 140 | 18 => 141 | 30 => 159 | 31 => 160 | 32 => 161 | 33 => 162 | 34 => 163 | 35 => 164 | 40 => 178 | n => n, fun | 23 => 86 | 25 => 3 | 3 => 3 | 32 => 181 | 22 => 86 | 0 => 0 | 44 => 201 | 46 => 203 | 4 => 4 | 36 => 193 | 35 => 192 | 41 => 198 | 5 => 5 | 9 => 9 | 53 => 216 | 57 => 220 | 63 => 231 | 64 => 81 | n => n, fun n => n⟩
theorem q6d : SlLaysM.n5 Tryz.prog q48 := {
 mixed := by kernel_rfl,
 f5 := ⟨ "slices.Sort[[]int,int]", of_decide_eq_true (by kernel_rfl), Tryz.func111.trans (congrArg some (by kernel_rfl))⟩,
 f7 := ⟨ "slices.pdqsortOrdered[int]", of_decide_eq_true (by kernel_rfl), Tryz.func122.trans (congrArg some (by kernel_rfl))⟩,
 f8 := Tryz.func123.trans (congrArg some (by kernel_rfl)),
 f10 := ⟨ "slices.insertionSortOrdered[int]", of_decide_eq_true (by kernel_rfl), Tryz.func133.trans (congrArg some (by kernel_rfl))⟩,
 f11 := ⟨ "slices.heapSortOrdered[int]", of_decide_eq_true (by kernel_rfl), Tryz.func134.trans (congrArg some (by kernel_rfl))⟩,
 f12 := ⟨ "slices.breakPatternsOrdered[int]", of_decide_eq_true (by kernel_rfl), Tryz.func135.trans (congrArg some (by kernel_rfl))⟩,
 f13 := ⟨ "slices.choosePivotOrdered[int]", of_decide_eq_true (by kernel_rfl), Tryz.func136.trans (congrArg some (by kernel_rfl))⟩,
 f14 := ⟨ "slices.reverseRangeOrdered[int]", of_decide_eq_true (by kernel_rfl), Tryz.func137.trans (congrArg some (by kernel_rfl))⟩,
 f15 := ⟨ "slices.partialInsertionSortOrdered[int]", of_decide_eq_true (by kernel_rfl), Tryz.func138.trans (congrArg some (by kernel_rfl))⟩,
 f16 := ⟨ "cmp.Less[int]", of_decide_eq_true (by kernel_rfl), Tryz.func139.trans (congrArg some (by kernel_rfl))⟩,
 f17 := ⟨ "slices.partitionEqualOrdered[int]", of_decide_eq_true (by kernel_rfl), Tryz.func140.trans (congrArg some (by kernel_rfl))⟩,
 f18 := ⟨ "slices.partitionOrdered[int]", of_decide_eq_true (by kernel_rfl), Tryz.func141.trans (congrArg some (by kernel_rfl))⟩,
 f19 := Tryz.func142.trans (congrArg some (by kernel_rfl)),
 f20 := Tryz.func143.trans (congrArg some (by kernel_rfl)),
 f30 := ⟨ "slices.siftDownOrdered[int]", of_decide_eq_true (by kernel_rfl), Tryz.func159.trans (congrArg some (by kernel_rfl))⟩,
 f31 := Tryz.func160.trans (congrArg some (by kernel_rfl)),
 f32 := Tryz.func161.trans (congrArg some (by kernel_rfl)),
 f33 := ⟨ "slices.medianAdjacentOrdered[int]", of_decide_eq_true (by kernel_rfl), Tryz.func162.trans (congrArg some (by kernel_rfl))⟩,
 f34 := ⟨ "slices.medianOrdered[int]", of_decide_eq_true (by kernel_rfl), Tryz.func163.trans (congrArg some (by kernel_rfl))⟩,
 f35 := ⟨ "cmp.isNaN[int]", of_decide_eq_true (by kernel_rfl), Tryz.func164.trans (congrArg some (by kernel_rfl))⟩,
 f40 := ⟨ "slices.order2Ordered[int]", of_decide_eq_true (by kernel_rfl), Tryz.func178.trans (congrArg some (by kernel_rfl))⟩,
 t0 := Tryz.underlying0,
 a0 := Tryz.isAgg0,
 z0 := Tryz.sizeOf0,
 v0 := Tryz.zeroValue0,
 t3 := Tryz.underlying3,
 a3 := Tryz.isAgg3,
 z3 := Tryz.sizeOf3,
 v3 := Tryz.zeroValue3,
 t4 := Tryz.underlying4,
 a4 := Tryz.isAgg4,
 z4 := Tryz.sizeOf4,
 v4 := Tryz.zeroValue4,
 t5 := Tryz.underlying5,
 a5 := Tryz.isAgg5,
 z5 := Tryz.sizeOf5,
 v5 := Tryz.zeroValue5,
 t9 := Tryz.underlying9,
 a9 := Tryz.isAgg9,
 z9 := Tryz.sizeOf9,
 v9 := Tryz.zeroValue9,
 t22 := Tryz.underlying86,
 a22 := Tryz.isAgg86,
 z22 := Tryz.sizeOf86,
 v22 := Tryz.zeroValue86,
 t23 := Tryz.underlying86,
 a23 := Tryz.isAgg86,
 z23 := Tryz.sizeOf86,
 v23 := Tryz.zeroValue86,
 t25 := Tryz.underlying3,
 a25 := Tryz.isAgg3,
 z25 := Tryz.sizeOf3,
 v25 := Tryz.zeroValue3,
 t32 := Tryz.underlying181,
 a32 := Tryz.isAgg181,
 z32 := Tryz.sizeOf181,
 v32 := Tryz.zeroValue181,
 t35 := Tryz.underlying192,
 a35 := Tryz.isAgg192,
 z35 := Tryz.sizeOf192,
 v35 := Tryz.zeroValue192,
 t36 := Tryz.underlying193,
 a36 := Tryz.isAgg193,
 z36 := Tryz.sizeOf193,
 v36 := Tryz.zeroValue193,
 t41 := Tryz.underlying198,
 a41 := Tryz.isAgg198,
 z41 := Tryz.sizeOf198,
 v41 := Tryz.zeroValue198,
 t44 := Tryz.underlying201,
 a44 := Tryz.isAgg201,
 z44 := Tryz.sizeOf201,
 v44 := Tryz.zeroValue201,
 t46 := Tryz.underlying203,
 a46 := Tryz.isAgg203,
 z46 := Tryz.sizeOf203,
 v46 := Tryz.zeroValue203,
 t53 := Tryz.underlying216,
 a53 := Tryz.isAgg216,
 z53 := Tryz.sizeOf216,
 v53 := Tryz.zeroValue216,
 t57 := Tryz.underlying220,
 a57 := Tryz.isAgg220,
 z57 := Tryz.sizeOf220,
 v57 := Tryz.zeroValue220,
 t63 := Tryz.underlying231,
 a63 := Tryz.isAgg231,
 z63 := Tryz.sizeOf231,
 v63 := Tryz.zeroValue231,
 t64 := Tryz.underlying81,
 a64 := Tryz.isAgg81,
 z64 := Tryz.sizeOf81,
 v64 := Tryz.zeroValue81 }
end Go.Ev
namespace Go.Ev
open Go.Proofs Go.Shelf Go.Sort Go.RowKit Go.Maps
theorem qbvo (m : Nat) : AnyZI.SortsIn Tryz.prog qrr Fence.wide m :=
 ⟨fun blk off cap ss W hH hblk hsz => callsIn_wide.2 (AnyM.slices_Sort_int q6d blk off cap ss W hH hblk hsz),
  fun p cap W => callsIn_wide.2 (AnyM.slices_Sort_int_none q6d p cap W)⟩
theorem cKz (mb : Option Nat) (W : World) : Calls Tryz.prog 95 #[.map mb] W fun e w' => e = .returned (.func (.func 112) #[] #[.pointer (some ⟨W.heap.size, 0, none⟩)]) ∧ ∃ tB, w' = W.alloc (.cells #[.map mb] tB) :=
 Calls.mono (callsIn_wide.1 (AnyZI.keys_in qx4 Fence.wide 5 trivial rfl mb W)) fun _ _ ⟨h1, h2⟩ => ⟨h1, _, h2⟩
theorem cSz0 (l : List Int) (S : List Int → Prop) (N : Nat) (hN : N ≤ 1000000) (hS : ∀ ss, S ss → ss.Perm l) (Bm : Nat) (W : World)
 (hseq : SeqGives Fence.wide 2 Tryz.prog 112 #[.pointer (some ⟨Bm, 0, none⟩)] encZ S N W) : Calls Tryz.prog 94 #[.func (.func 112) #[] #[.pointer (some ⟨Bm, 0, none⟩)]] W fun e w' =>
   ∃ v, e = .returned v ∧ w'.ownsRow W.heap.size 3 1 v (qgg l).length ((qgg l).map fun n => Value.int .i64 n) ∧ Below W.heap.size W w' := by
 have hmx : 1000000 ≤ maxLen := by decide
 have cS := AnyZI.sorted_in qbcs Fence.wide 5 trivial trivial trivial trivial rfl (by omega) (qbvo _) (enters_of Tryz.func111 (by kernel_rfl) rfl) 112 #[.pointer (some ⟨Bm, 0, none⟩)] trivial (enters_of Tryz.func112 (by kernel_rfl) rfl) S N (by omega) (by omega) W hseq
 change CallsIn _ _ Tryz.prog 94 _ _ _ at cS
 refine Calls.mono (callsIn_wide.1 cS) ?_
 rintro e w' ⟨v, ss, rfl, hs, hrow, _, hb⟩
 have e : qgg l = ss.mergeSort fun x y => decide (x ≤ y) := (mergeSort_of_perm_i (hS ss hs)).symm
 refine ⟨v, rfl, ?_, hb⟩
 rw [e, List.length_mergeSort]
 exact hrow
theorem cSz (mb : Option Nat) (l : List Int) (Bm : Nat) (W : World) (hl : l.length ≤ 1000000) (hB : Bm < W.heap.size) (hm : W.cell? ⟨Bm, 0, none⟩ = some (.map mb)) (hk : qww Tryz.prog 3 W mb l) :
 Calls Tryz.prog 94 #[.func (.func 112) #[] #[.pointer (some ⟨Bm, 0, none⟩)]] W fun e w' =>
  ∃ v, e = .returned v ∧ w'.ownsRow W.heap.size 3 1 v (qgg l).length ((qgg l).map fun n => Value.int .i64 n) ∧ Below W.heap.size W w' := by
 rcases hk with ⟨rfl, rfl⟩ | ⟨b, nn, D0, rfl, hown, hp, hsz⟩
 ·exact cSz0 [] _ 0 (by omega) (fun ss h => by subst h; exact List.Perm.refl _) Bm W (AnyZI.keys_gives_nil (ρ := qpt) { qx4 with } Fence.wide 2 trivial rfl Bm W hB hm)
 ·exact cSz0 l _ (Maps.size D0) (by omega) (fun ss h => h.trans hp) Bm W (AnyZI.keys_gives (ρ := qpt) { qx4 with } Fence.wide 2 trivial rfl (by omega) Bm b nn D0 W hB hm hown)
end Go.Ev
