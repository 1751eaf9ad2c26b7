/- Tools and contracts under the laws of this seat: DevLaysUz, DevSortUz. -/
import Derived.Test.YtkgkgcojfocomaaGreatE03
import Derived.Shelf.SlLaysF0
import Derived.Test.YtkgkgcojfocomaaGreatProg
import Derived.KernelRfl
import Derived.Test.YtkgkgcojfocomaaGreatE05
import Derived.Shelf.SlSortCmp.NoneTotal
set_option linter.unusedVariables false
set_option linter.unusedSimpArgs false
namespace Go.Ev
open Go.Proofs Go.Shelf
def qyy : Go.Shelf.Ren := ⟨fun | 6 => 62 | 15 => 89 | 14 => 88 | 28 => 115 | 29 => 116 | 20 => 107 | 21 => 108 | 22 => 109 | 23 => 110 | 24 => 111 | 25 => 112 | 26 => 113 | 27 => 114 | 46 => 131 | 47 => 132 | 48 => 133 | 49 => 134 | 50 => 135 | 57 => 151 | n => n, fun | 22 => 53 | 24 => 61 | 25 => 101 | 3 => 3 | 39 => 136 | 0 => 0 | 53 => 162 | 55 => 164 | 4 => 4 | 46 => 155 | 45 => 154 | 50 => 159 | 5 => 5 | 9 => 9 | 66 => 176 | 70 => 180 | 76 => 194 | 77 => 40 | n => n, fun n => n⟩
theorem qyk : SlLaysF0.n6 Tryz.prog qyy := {
  mixed := by kernel_rfl,
  f6 := ⟨ "slices.SortFunc[[]midrange/api.ApplyUnit,midrange/api.ApplyUnit]", of_decide_eq_true (by kernel_rfl), Tryz.func62.trans (congrArg some (by kernel_rfl))⟩,
  f14 := ⟨ "slices.pdqsortCmpFunc[midrange/api.ApplyUnit]", of_decide_eq_true (by kernel_rfl), Tryz.func88.trans (congrArg some (by kernel_rfl))⟩,
  f15 := Tryz.func89.trans (congrArg some (by kernel_rfl)),
  f20 := ⟨ "slices.insertionSortCmpFunc[midrange/api.ApplyUnit]", of_decide_eq_true (by kernel_rfl), Tryz.func107.trans (congrArg some (by kernel_rfl))⟩,
  f21 := ⟨ "slices.heapSortCmpFunc[midrange/api.ApplyUnit]", of_decide_eq_true (by kernel_rfl), Tryz.func108.trans (congrArg some (by kernel_rfl))⟩,
  f22 := ⟨ "slices.breakPatternsCmpFunc[midrange/api.ApplyUnit]", of_decide_eq_true (by kernel_rfl), Tryz.func109.trans (congrArg some (by kernel_rfl))⟩,
  f23 := ⟨ "slices.choosePivotCmpFunc[midrange/api.ApplyUnit]", of_decide_eq_true (by kernel_rfl), Tryz.func110.trans (congrArg some (by kernel_rfl))⟩,
  f24 := ⟨ "slices.reverseRangeCmpFunc[midrange/api.ApplyUnit]", of_decide_eq_true (by kernel_rfl), Tryz.func111.trans (congrArg some (by kernel_rfl))⟩,
  f25 := ⟨ "slices.partialInsertionSortCmpFunc[midrange/api.ApplyUnit]", of_decide_eq_true (by kernel_rfl), Tryz.func112.trans (congrArg some (by kernel_rfl))⟩,
  f26 := ⟨ "slices.partitionEqualCmpFunc[midrange/api.ApplyUnit]", of_decide_eq_true (by kernel_rfl), Tryz.func113.trans (congrArg some (by kernel_rfl))⟩,
  f27 := ⟨ "slices.partitionCmpFunc[midrange/api.ApplyUnit]", of_decide_eq_true (by kernel_rfl), Tryz.func114.trans (congrArg some (by kernel_rfl))⟩,
  f28 := Tryz.func115.trans (congrArg some (by kernel_rfl)),
  f29 := Tryz.func116.trans (congrArg some (by kernel_rfl)),
  f46 := ⟨ "slices.siftDownCmpFunc[midrange/api.ApplyUnit]", of_decide_eq_true (by kernel_rfl), Tryz.func131.trans (congrArg some (by kernel_rfl))⟩,
  f47 := Tryz.func132.trans (congrArg some (by kernel_rfl)),
  f48 := Tryz.func133.trans (congrArg some (by kernel_rfl)),
  f49 := ⟨ "slices.medianAdjacentCmpFunc[midrange/api.ApplyUnit]", of_decide_eq_true (by kernel_rfl), Tryz.func134.trans (congrArg some (by kernel_rfl))⟩,
  f50 := ⟨ "slices.medianCmpFunc[midrange/api.ApplyUnit]", of_decide_eq_true (by kernel_rfl), Tryz.func135.trans (congrArg some (by kernel_rfl))⟩,
  f57 := ⟨ "slices.order2CmpFunc[midrange/api.ApplyUnit]", of_decide_eq_true (by kernel_rfl), Tryz.func151.trans (congrArg some (by kernel_rfl))⟩,
  t0 := Tryz.underlying0,
  a0 := Tryz.isAgg0,
  z0 := Tryz.sizeOf0,
  v0 := Tryz.zeroValue0,
  t3 := Tryz.underlying3,
  a3 := Tryz.isAgg3,
  z3 := Tryz.sizeOf3,
  v3 := Tryz.zeroValue3,
  t4 := Tryz.underlying4,
  a4 := Tryz.isAgg4,
  z4 := Tryz.sizeOf4,
  v4 := Tryz.zeroValue4,
  t5 := Tryz.underlying5,
  a5 := Tryz.isAgg5,
  z5 := Tryz.sizeOf5,
  v5 := Tryz.zeroValue5,
  t9 := Tryz.underlying9,
  a9 := Tryz.isAgg9,
  z9 := Tryz.sizeOf9,
  v9 := Tryz.zeroValue9,
  t22 := Tryz.underlying53,
  a22 := Tryz.isAgg53,
  z22 := Tryz.sizeOf53,
  v22 := Tryz.zeroValue53,
  t25 := Tryz.underlying101,
  a25 := Tryz.isAgg101,
  z25 := Tryz.sizeOf101,
  v25 := Tryz.zeroValue101,
  t39 := Tryz.underlying136,
  a39 := Tryz.isAgg136,
  z39 := Tryz.sizeOf136,
  v39 := Tryz.zeroValue136,
  t45 := Tryz.underlying154,
  a45 := Tryz.isAgg154,
  z45 := Tryz.sizeOf154,
  v45 := Tryz.zeroValue154,
  t46 := Tryz.underlying155,
  a46 := Tryz.isAgg155,
  z46 := Tryz.sizeOf155,
  v46 := Tryz.zeroValue155,
  t50 := Tryz.underlying159,
  a50 := Tryz.isAgg159,
  z50 := Tryz.sizeOf159,
  v50 := Tryz.zeroValue159,
  t53 := Tryz.underlying162,
  a53 := Tryz.isAgg162,
  z53 := Tryz.sizeOf162,
  v53 := Tryz.zeroValue162,
  t55 := Tryz.underlying164,
  a55 := Tryz.isAgg164,
  z55 := Tryz.sizeOf164,
  v55 := Tryz.zeroValue164,
  t66 := Tryz.underlying176,
  a66 := Tryz.isAgg176,
  z66 := Tryz.sizeOf176,
  v66 := Tryz.zeroValue176,
  t70 := Tryz.underlying180,
  a70 := Tryz.isAgg180,
  z70 := Tryz.sizeOf180,
  v70 := Tryz.zeroValue180,
  t76 := Tryz.underlying194,
  a76 := Tryz.isAgg194,
  z76 := Tryz.sizeOf194,
  v76 := Tryz.zeroValue194,
  t77 := Tryz.underlying40,
  a77 := Tryz.isAgg40,
  z77 := Tryz.sizeOf40,
  v77 := Tryz.zeroValue40 }
end Go.Ev

namespace Go.Ev
open Go.Proofs Go.Shelf Go.Sort Go.RowKit
set_option maxHeartbeats 1000000 in
theorem qbgp (x y : AUnit) (hb : IntKind.i64.wrap (x.first - y.first) = x.first - y.first) (W : World) :
    Calls Tryz.prog 63 #[.agg #[.int .i64 x.unit, .int .i64 x.first, .int .i64 x.last, .int .i64 x.state], .agg #[.int .i64 y.unit, .int .i64 y.first, .int .i64 y.last, .int .i64 y.state]] W fun e w' => e = .returned (.int .i64 (x.first - y.first)) ∧ ∃ q os', w' = grow (W.drewN q) os' := by
  go_enter Tryz.func63, Tryz.ntmps63
  go_wp2
  go_ret
  exact ⟨rfl, 0, _, by rw [alloc_eq_grow, alloc_eq_grow, grow_grow]; rfl⟩
theorem q9n : SemX Tryz.prog 62 4 (.func (.func 63) #[] #[]) quu := by
  intro w bk cap cs t l l' p hg hp hpos hcap hcs hb hfits ⟨X, hX⟩
  unfold quu at hg
  split at hg
  · rename_i us hu
    cases hg
    have hl := q40 hu
    subst hl
    obtain ⟨hnd, hbd, hlen⟩ := hp
    rw [List.length_map] at hcap hpos ⊢
    have hlt : bk < w.heap.size := (Array.getElem?_eq_some_iff.1 hb).1
    haveI : Inhabited {u : AUnit // u ∈ us} := ⟨⟨us[0], List.getElem_mem hpos⟩⟩
    let d : Array {u : AUnit // u ∈ us} := us.attach.toArray
    have hds : d.size = us.length := by simp [d]
    have hdg : ∀ j (hj : j < us.length), (d[j]!).1 = us[j] := fun j hj => by
      rw [getElem!_pos d j (by omega)]; simp [d]
    let enc : {u : AUnit // u ∈ us} → List Value := fun u => encU u.1
    let cf : {u : AUnit // u ∈ us} → {u : AUnit // u ∈ us} → Int := fun x y => x.1.first - y.1.first
    have hlt0 : ∀ x y : {u : AUnit // u ∈ us}, ltOf cf x y = decide (x.1.first < y.1.first) := fun x y => by
      show decide (x.1.first - y.1.first < 0) = _
      exact decide_eq_decide.2 (by omega)
    have hO : SWO (ltOf cf) := {
      irrefl := fun x => by rw [hlt0]; simp
      trans := fun x y z h1 h2 => by rw [hlt0] at *; simp at *; omega
      ntrans := fun x y z h1 h2 => by rw [hlt0] at *; simp at *; omega }
    have hT : ∀ x y, ltOf cf x y = false → ltOf cf y x = false → x = y := fun x y h1 h2 => by
      rw [hlt0] at h1 h2
      simp at h1 h2
      exact Subtype.ext (q3w hnd x.2 y.2 (by omega))
    have hcell : ∀ j, j < us.length * 4 → cs[j]? = some (encU (us.getD (j / 4) ⟨0, 0, 0, 0⟩))[j % 4]! := fun j hj => by
      have h1 : j < cs.size := by
        have : us.length * 4 ≤ cap * 4 := Nat.mul_le_mul_right _ hcap
        omega
      have h2 : cs[j]? = some cs[j] := by simp [h1]
      have hj4 : j / 4 < us.length := by omega
      have hx : (flat (us.map qbu))[j]? = some ((qbu us[j / 4]).cells[j % 4]'(by rw [qbrf]; omega)) := by
        rw [qbit, List.getElem?_eq_getElem hj4, Option.bind_some, List.getElem?_eq_getElem]
      have h3 := hX j cs[j] _ h2 hx
      rw [h2, qbmj (u := us[j / 4]) (c := j % 4) (by rw [List.getElem?_eq_getElem]) h3, List.getD_eq_getElem?_getD, List.getElem?_eq_getElem hj4, Option.getD_some]
    have hF : ∀ j, j < us.length * 4 → (flatK enc 4 d)[j]! = (encU (us.getD (j / 4) ⟨0, 0, 0, 0⟩))[j % 4]! := fun j hj => by
      rw [get_flatK enc 4 d j (by rw [hds]; exact hj)]
      show (encU (d[j / 4]!).1)[j % 4]! = _
      have hj4 : j / 4 < us.length := by omega
      rw [hdg (j / 4) hj4, List.getD_eq_getElem?_getD, List.getElem?_eq_getElem hj4, Option.getD_some]
    have hH : HoldsK enc 4 w bk 0 d := fun j hj => by
      have hj : j < us.length * 4 := by rw [size_flatK, hds] at hj; exact hj
      refine ⟨?_, ?_⟩
      · rw [Nat.zero_add, qf9 hb, hcell j hj, hF j hj]; rfl
      · simp [World.frozen?, hb]
    have hcmp : CmpLays Tryz.prog 63 #[] enc 4 cf bk 0 d.size w := fun _ _ _ _ x y => qbgp x.1 y.1 (by
      have h1 := hbd x.1 x.2; have h2 := hbd y.1 y.2
      exact w64 (by omega) (by omega)) _
    have eg : ∀ args w, (callFunc 63 args).run Tryz.prog w = .ok (.enter 63 args) w := enters_of Tryz.func63 (by kernel_rfl) rfl
    have hcon := AnyQ.slices_SortFunc_total qyk 4 Tryz.isAgg61 Tryz.sizeOf61 enc (fun _ => rfl) (fun x v hv => by simp [enc, encU] at hv; rcases hv with rfl | rfl | rfl | rfl <;> rfl) cf hO 63 #[] bk 0 cap d w eg hcmp hH hlt (by omega) hT
    change Calls Tryz.prog 62 _ _ _ at hcon
    rw [hds] at hcon
    refine hcon.mono ?_
    rintro e w' ⟨rfl, n, os, rfl⟩
    have hres : ((d.toList.mergeSort fun x y => !ltOf cf y x).map (·.1)) = qmb us := by
      unfold qmb
      rw [List.map_mergeSort (s := leF)]
      · show (List.map _ (us.attach.toArray).toList).mergeSort leF = _
        simp
      · intro x _ y _
        rw [hlt0]
        unfold leF
        rw [Bool.eq_iff_iff]
        simp
    generalize d.toList.mergeSort (fun x y => !ltOf cf y x) = r at hres ⊢
    have hrl : r.length = us.length := by rw [← qrc us, ← hres, List.length_map]
    have hG : ∀ j, j < us.length * 4 → (flatK enc 4 r.toArray)[j]! = (encU ((qmb us).getD (j / 4) ⟨0, 0, 0, 0⟩))[j % 4]! := fun j hj => by
      rw [get_flatK enc 4 r.toArray j (by simp [hrl]; omega)]
      have hj4 : j / 4 < r.length := by omega
      show (encU (r.toArray[j / 4]!).1)[j % 4]! = _
      rw [← hres, List.getD_eq_getElem?_getD, List.getElem?_map, List.getElem?_eq_getElem hj4]
      simp [hj4]
    have hold : ∀ k, k < w.heap.size → (grow (putRow id (Sort.ahead w n) bk 0 (flatK enc 4 r.toArray)) os).heap[k]? = if bk = k then some (.cells (putCells id 0 (flatK enc 4 r.toArray) cs) t (0, 0)) else w.heap[k]? := fun k hk => by
      rw [heap_grow_old _ _ (by simpa using hk)]
      simp only [putRow, mapBlock, Sort.ahead, Array.getElem?_modify]
      by_cases e : bk = k
      · subst e; simp [hb, onCells]
      · simp [e]
    have hsz : (putCells id 0 (flatK enc 4 r.toArray) cs).size = cs.size := by simp [putCells]
    have hget : ∀ j, (putCells id 0 (flatK enc 4 r.toArray) cs)[j]? = (cs[j]?).map fun x => if j < us.length * 4 then (flatK enc 4 r.toArray)[j]! else x := fun j => by
      simp [putCells, hrl]
    have hfl : (flat (us.map qbu)).length = us.length * 4 := by
      rw [qb0 (sz := 4) (fun d hd => by obtain ⟨u, _, rfl⟩ := List.mem_map.1 hd; rfl), List.length_map]
    refine ⟨rfl, by simp [qrc], fun d hd => ?_, putCells id 0 (flatK enc 4 r.toArray) cs, ?_, hsz, fun X' j v x hj hx => ?_, fun j hj => ?_, ?_⟩
    · obtain ⟨z, _, rfl⟩ := List.mem_map.1 hd
      exact ⟨rfl, by simp [qbu, D.cells, D.one]⟩
    · show (grow (putRow id (Sort.ahead w n) bk 0 (flatK enc 4 r.toArray)) os).heap[bk]? = _
      rw [hold bk hlt, if_pos rfl]
    · rw [qbit] at hx
      obtain ⟨u, hu1, hu2⟩ := Option.bind_eq_some_iff.1 hx
      have hj4 : j / 4 < us.length := by rw [← qrc us]; exact (List.getElem?_eq_some_iff.1 hu1).1
      have hjl : j < us.length * 4 := by omega
      rw [hget, hcell j hjl] at hj
      simp only [Option.map_some, hjl, if_true, Option.some.injEq] at hj
      rw [← hj, hG j hjl, List.getD_eq_getElem?_getD, hu1, Option.getD_some]
      exact qbmi hu2
    · rw [hfl] at hj
      rw [hget]
      simp [show ¬ j < us.length * 4 by omega]
    · refine ⟨⟨?_, fun b hb2 hne => ?_, fun b c t' hc => ?_⟩, rfl, rfl, rfl⟩
      · show w.heap.size ≤ (grow (putRow id (Sort.ahead w n) bk 0 (flatK enc 4 r.toArray)) os).heap.size
        simp
      · show (grow (putRow id (Sort.ahead w n) bk 0 (flatK enc 4 r.toArray)) os).heap[b]? = _
        rw [hold b hb2, if_neg (fun e => hne e.symm)]
      · have hb2 : b < w.heap.size := (Array.getElem?_eq_some_iff.1 hc).1
        show ∃ cs', (grow (putRow id (Sort.ahead w n) bk 0 (flatK enc 4 r.toArray)) os).heap[b]? = _ ∧ _
        rw [hold b hb2]
        by_cases e : bk = b
        · subst e
          rw [hb] at hc
          cases hc
          exact ⟨_, if_pos rfl, hsz⟩
        · exact ⟨c, by rw [if_neg e]; exact hc, rfl⟩
  · cases hg
theorem q9o (p : Option Addr) (cap : Nat) (w : World) : Calls Tryz.prog 62 #[.slice p 0 cap, .func (.func 63) #[] #[]] w fun e w' => e = .returned (.tuple #[]) ∧ w' = w :=
  AnyF.slices_SortFunc_none qyk p cap _ w
end Go.Ev
