/- Tools and contracts under the laws of this seat: DevLaysU, DevSortU, DevU35b, DxE, DevU35c, DxE1. -/
import Derived.Test.YtkgkgcojfocomaaE03
import Derived.Shelf.SlLaysF0
import Derived.Test.YtkgkgcojfocomaaProg
import Derived.KernelRfl
import Derived.Test.YtkgkgcojfocomaaE04
import Derived.Shelf.SlSortCmp.NoneTotal
import Derived.WalkKit
set_option linter.unusedVariables false
set_option linter.unusedSimpArgs false
namespace Go.Ev
open Go.Proofs Go.Shelf
def sortULays_ren : Go.Shelf.Ren := ⟨fun | 6 => 26 | 15 => 46 | 14 => 45 | 28 => 75 | 29 => 76 | 20 => 67 | 21 => 68 | 22 => 69 | 23 => 70 | 24 => 71 | 25 => 72 | 26 => 73 | 27 => 74 | 46 => 85 | 47 => 86 | 48 => 87 | 49 => 88 | 50 => 89 | 57 => 97 | n => n, fun | 22 => 29 | 24 => 57 | 25 => 63 | 3 => 3 | 39 => 92 | 0 => 0 | 53 => 127 | 55 => 129 | 4 => 4 | 46 => 120 | 45 => 119 | 50 => 124 | 5 => 5 | 9 => 9 | 66 => 138 | 70 => 142 | 76 => 150 | 77 => 32 | n => n, fun n => n⟩
theorem sortULays : SlLaysF0.n6 Try.prog sortULays_ren := {
  mixed := by kernel_rfl,
  f6 := ⟨ "slices.SortFunc[[]midrange/api.ApplyUnit,midrange/api.ApplyUnit]", of_decide_eq_true (by kernel_rfl), Try.func26.trans (congrArg some (by kernel_rfl))⟩,
  f14 := ⟨ "slices.pdqsortCmpFunc[midrange/api.ApplyUnit]", of_decide_eq_true (by kernel_rfl), Try.func45.trans (congrArg some (by kernel_rfl))⟩,
  f15 := Try.func46.trans (congrArg some (by kernel_rfl)),
  f20 := ⟨ "slices.insertionSortCmpFunc[midrange/api.ApplyUnit]", of_decide_eq_true (by kernel_rfl), Try.func67.trans (congrArg some (by kernel_rfl))⟩,
  f21 := ⟨ "slices.heapSortCmpFunc[midrange/api.ApplyUnit]", of_decide_eq_true (by kernel_rfl), Try.func68.trans (congrArg some (by kernel_rfl))⟩,
  f22 := ⟨ "slices.breakPatternsCmpFunc[midrange/api.ApplyUnit]", of_decide_eq_true (by kernel_rfl), Try.func69.trans (congrArg some (by kernel_rfl))⟩,
  f23 := ⟨ "slices.choosePivotCmpFunc[midrange/api.ApplyUnit]", of_decide_eq_true (by kernel_rfl), Try.func70.trans (congrArg some (by kernel_rfl))⟩,
  f24 := ⟨ "slices.reverseRangeCmpFunc[midrange/api.ApplyUnit]", of_decide_eq_true (by kernel_rfl), Try.func71.trans (congrArg some (by kernel_rfl))⟩,
  f25 := ⟨ "slices.partialInsertionSortCmpFunc[midrange/api.ApplyUnit]", of_decide_eq_true (by kernel_rfl), Try.func72.trans (congrArg some (by kernel_rfl))⟩,
  f26 := ⟨ "slices.partitionEqualCmpFunc[midrange/api.ApplyUnit]", of_decide_eq_true (by kernel_rfl), Try.func73.trans (congrArg some (by kernel_rfl))⟩,
  f27 := ⟨ "slices.partitionCmpFunc[midrange/api.ApplyUnit]", of_decide_eq_true (by kernel_rfl), Try.func74.trans (congrArg some (by kernel_rfl))⟩,
  f28 := Try.func75.trans (congrArg some (by kernel_rfl)),
  f29 := Try.func76.trans (congrArg some (by kernel_rfl)),
  f46 := ⟨ "slices.siftDownCmpFunc[midrange/api.ApplyUnit]", of_decide_eq_true (by kernel_rfl), Try.func85.trans (congrArg some (by kernel_rfl))⟩,
  f47 := Try.func86.trans (congrArg some (by kernel_rfl)),
  f48 := Try.func87.trans (congrArg some (by kernel_rfl)),
  f49 := ⟨ "slices.medianAdjacentCmpFunc[midrange/api.ApplyUnit]", of_decide_eq_true (by kernel_rfl), Try.func88.trans (congrArg some (by kernel_rfl))⟩,
  f50 := ⟨ "slices.medianCmpFunc[midrange/api.ApplyUnit]", of_decide_eq_true (by kernel_rfl), Try.func89.trans (congrArg some (by kernel_rfl))⟩,
  f57 := ⟨ "slices.order2CmpFunc[midrange/api.ApplyUnit]", of_decide_eq_true (by kernel_rfl), Try.func97.trans (congrArg some (by kernel_rfl))⟩,
  t0 := Try.underlying0,
  a0 := Try.isAgg0,
  z0 := Try.sizeOf0,
  v0 := Try.zeroValue0,
  t3 := Try.underlying3,
  a3 := Try.isAgg3,
  z3 := Try.sizeOf3,
  v3 := Try.zeroValue3,
  t4 := Try.underlying4,
  a4 := Try.isAgg4,
  z4 := Try.sizeOf4,
  v4 := Try.zeroValue4,
  t5 := Try.underlying5,
  a5 := Try.isAgg5,
  z5 := Try.sizeOf5,
  v5 := Try.zeroValue5,
  t9 := Try.underlying9,
  a9 := Try.isAgg9,
  z9 := Try.sizeOf9,
  v9 := Try.zeroValue9,
  t22 := Try.underlying29,
  a22 := Try.isAgg29,
  z22 := Try.sizeOf29,
  v22 := Try.zeroValue29,
  t25 := Try.underlying63,
  a25 := Try.isAgg63,
  z25 := Try.sizeOf63,
  v25 := Try.zeroValue63,
  t39 := Try.underlying92,
  a39 := Try.isAgg92,
  z39 := Try.sizeOf92,
  v39 := Try.zeroValue92,
  t45 := Try.underlying119,
  a45 := Try.isAgg119,
  z45 := Try.sizeOf119,
  v45 := Try.zeroValue119,
  t46 := Try.underlying120,
  a46 := Try.isAgg120,
  z46 := Try.sizeOf120,
  v46 := Try.zeroValue120,
  t50 := Try.underlying124,
  a50 := Try.isAgg124,
  z50 := Try.sizeOf124,
  v50 := Try.zeroValue124,
  t53 := Try.underlying127,
  a53 := Try.isAgg127,
  z53 := Try.sizeOf127,
  v53 := Try.zeroValue127,
  t55 := Try.underlying129,
  a55 := Try.isAgg129,
  z55 := Try.sizeOf129,
  v55 := Try.zeroValue129,
  t66 := Try.underlying138,
  a66 := Try.isAgg138,
  z66 := Try.sizeOf138,
  v66 := Try.zeroValue138,
  t70 := Try.underlying142,
  a70 := Try.isAgg142,
  z70 := Try.sizeOf142,
  v70 := Try.zeroValue142,
  t76 := Try.underlying150,
  a76 := Try.isAgg150,
  z76 := Try.sizeOf150,
  v76 := Try.zeroValue150,
  t77 := Try.underlying32,
  a77 := Try.isAgg32,
  z77 := Try.sizeOf32,
  v77 := Try.zeroValue32 }
end Go.Ev

namespace Go.Ev
open Go.Proofs Go.Shelf Go.Sort Go.RowKit
def encU (u : AUnit) : List Value := [.int .i64 u.unit, .int .i64 u.first, .int .i64 u.last, .int .i64 u.state]
theorem cell_RD {w : World} {X : Nat → Prop} {u : AUnit} {c : Nat} {x : D} (h : (encAUnit u).cells[c]? = some x) : RD w X (encU u)[c]! x := by
  match c, h with
  | 0, h => cases h; exact .i _ _
  | 1, h => cases h; exact .i _ _
  | 2, h => cases h; exact .i _ _
  | 3, h => cases h; exact .i _ _
theorem cell_of {w : World} {X : Nat → Prop} {u : AUnit} {c : Nat} {v : Value} {x : D} (h : (encAUnit u).cells[c]? = some x) (hr : RD w X v x) : v = (encU u)[c]! := by
  match c, h with
  | 0, h => cases h; cases hr; rfl
  | 1, h => cases h; cases hr; rfl
  | 2, h => cases h; cases hr; rfl
  | 3, h => cases h; cases hr; rfl
theorem cells4 (u : AUnit) : (encAUnit u).cells.length = 4 := rfl
theorem flatU (us : List AUnit) (t : Nat) : (flat (us.map encAUnit))[t]? = (us[t / 4]?).bind fun u => (encAUnit u).cells[t % 4]? := by
  have hs : ∀ d ∈ us.map encAUnit, d.cells.length = 4 := fun d hd => by
    obtain ⟨u, _, rfl⟩ := List.mem_map.1 hd
    rfl
  have ht : t = t / 4 * 4 + t % 4 := by omega
  cases h : us[t / 4]? with
  | none =>
    rw [Option.bind_none]
    refine List.getElem?_eq_none ?_
    rw [flat_length (sz := 4) hs, List.length_map]
    have := List.getElem?_eq_none_iff.1 h
    omega
  | some u =>
    rw [Option.bind_some]
    have := flat_get (sz := 4) (l := us.map encAUnit) (j := t / 4) (c := t % 4) (d := encAUnit u) hs (by rw [List.getElem?_map, h]; rfl) (by omega)
    rwa [← ht] at this
theorem decAUnit_eq {d : D} {x : AUnit} (h : decAUnit d = some x) : d = encAUnit x := by
  unfold decAUnit at h
  split at h
  · cases h; rfl
  · cases h
theorem decM_AU : ∀ {l : List D} {us : List AUnit}, decM decAUnit l = some us → l = us.map encAUnit
  | [], us, h => by cases h; rfl
  | d :: l, us, h => by
    unfold decM at h
    split at h
    · rename_i x y h1 h2
      cases h
      rw [List.map_cons, decAUnit_eq h1, decM_AU h2]
    · cases h
def leF (x y : AUnit) : Bool := decide (x.first ≤ y.first)
def sortU (us : List AUnit) : List AUnit := us.mergeSort leF
def okU (us : List AUnit) : Prop := (us.map (·.first)).Nodup ∧ (∀ u ∈ us, 0 ≤ u.first ∧ u.first ≤ 100000) ∧ us.length ≤ 1000000
def gSortU (l : List D) : Option (Prop × List D) := match decM decAUnit l with
  | some us => some (okU us, (sortU us).map encAUnit)
  | none => none
theorem sortU_len (us : List AUnit) : (sortU us).length = us.length := by simp [sortU]

set_option maxHeartbeats 1000000 in
theorem closureU (x y : AUnit) (hb : IntKind.i64.wrap (x.first - y.first) = x.first - y.first) (W : World) :
    Calls Try.prog 27 #[.agg #[.int .i64 x.unit, .int .i64 x.first, .int .i64 x.last, .int .i64 x.state], .agg #[.int .i64 y.unit, .int .i64 y.first, .int .i64 y.last, .int .i64 y.state]] W fun e w' => e = .returned (.int .i64 (x.first - y.first)) ∧ ∃ q os', w' = grow (W.drewN q) os' := by
  go_enter Try.func27, Try.ntmps27
  go_wp2
  go_ret
  exact ⟨rfl, 0, _, by rw [alloc_eq_grow, alloc_eq_grow, grow_grow]; rfl⟩

theorem nodup_first {us : List AUnit} (h : (us.map (·.first)).Nodup) {x y : AUnit} (hx : x ∈ us) (hy : y ∈ us) (e : x.first = y.first) : x = y := by
  obtain ⟨i, hi, rfl⟩ := List.getElem_of_mem hx
  obtain ⟨j, hj, rfl⟩ := List.getElem_of_mem hy
  have key : ∀ (i j : Nat) (hi : i < us.length) (hj : j < us.length), i < j → us[i].first ≠ us[j].first := fun i j hi hj hl => by
    have := List.pairwise_iff_getElem.1 h i j (by simpa using hi) (by simpa using hj) hl
    simpa using this
  rcases Nat.lt_trichotomy i j with h1 | h1 | h1
  · exact absurd e (key i j hi hj h1)
  · subst h1; rfl
  · exact absurd e.symm (key j i hj hi h1)
theorem sortU_semX : SemX Try.prog 26 4 (.func (.func 27) #[] #[]) gSortU := by
  intro w bk cap cs t l l' p hg hp hpos hcap hcs hb hfits ⟨X, hX⟩
  unfold gSortU at hg
  split at hg
  · rename_i us hu
    cases hg
    have hl := decM_AU hu
    subst hl
    obtain ⟨hnd, hbd, hlen⟩ := hp
    rw [List.length_map] at hcap hpos ⊢
    have hlt : bk < w.heap.size := (Array.getElem?_eq_some_iff.1 hb).1
    haveI : Inhabited {u : AUnit // u ∈ us} := ⟨⟨us[0], List.getElem_mem hpos⟩⟩
    let d : Array {u : AUnit // u ∈ us} := us.attach.toArray
    have hds : d.size = us.length := by simp [d]
    have hdg : ∀ j (hj : j < us.length), (d[j]!).1 = us[j] := fun j hj => by
      rw [getElem!_pos d j (by omega)]; simp [d]
    let enc : {u : AUnit // u ∈ us} → List Value := fun u => encU u.1
    let cf : {u : AUnit // u ∈ us} → {u : AUnit // u ∈ us} → Int := fun x y => x.1.first - y.1.first
    have hlt0 : ∀ x y : {u : AUnit // u ∈ us}, ltOf cf x y = decide (x.1.first < y.1.first) := fun x y => by
      show decide (x.1.first - y.1.first < 0) = _
      exact decide_eq_decide.2 (by omega)
    have hO : SWO (ltOf cf) := {
      irrefl := fun x => by rw [hlt0]; simp
      trans := fun x y z h1 h2 => by rw [hlt0] at *; simp at *; omega
      ntrans := fun x y z h1 h2 => by rw [hlt0] at *; simp at *; omega }
    have hT : ∀ x y, ltOf cf x y = false → ltOf cf y x = false → x = y := fun x y h1 h2 => by
      rw [hlt0] at h1 h2
      simp at h1 h2
      exact Subtype.ext (nodup_first hnd x.2 y.2 (by omega))
    have hcell : ∀ j, j < us.length * 4 → cs[j]? = some (encU (us.getD (j / 4) ⟨0, 0, 0, 0⟩))[j % 4]! := fun j hj => by
      have h1 : j < cs.size := by
        have : us.length * 4 ≤ cap * 4 := Nat.mul_le_mul_right _ hcap
        omega
      have h2 : cs[j]? = some cs[j] := by simp [h1]
      have hj4 : j / 4 < us.length := by omega
      have hx : (flat (us.map encAUnit))[j]? = some ((encAUnit us[j / 4]).cells[j % 4]'(by rw [cells4]; omega)) := by
        rw [flatU, List.getElem?_eq_getElem hj4, Option.bind_some, List.getElem?_eq_getElem]
      have h3 := hX j cs[j] _ h2 hx
      rw [h2, cell_of (u := us[j / 4]) (c := j % 4) (by rw [List.getElem?_eq_getElem]) h3, List.getD_eq_getElem?_getD, List.getElem?_eq_getElem hj4, Option.getD_some]
    have hF : ∀ j, j < us.length * 4 → (flatK enc 4 d)[j]! = (encU (us.getD (j / 4) ⟨0, 0, 0, 0⟩))[j % 4]! := fun j hj => by
      rw [get_flatK enc 4 d j (by rw [hds]; exact hj)]
      show (encU (d[j / 4]!).1)[j % 4]! = _
      have hj4 : j / 4 < us.length := by omega
      rw [hdg (j / 4) hj4, List.getD_eq_getElem?_getD, List.getElem?_eq_getElem hj4, Option.getD_some]
    have hH : HoldsK enc 4 w bk 0 d := fun j hj => by
      have hj : j < us.length * 4 := by rw [size_flatK, hds] at hj; exact hj
      refine ⟨?_, ?_⟩
      · rw [Nat.zero_add, block_cell hb, hcell j hj, hF j hj]; rfl
      · simp [World.frozen?, hb]
    have hcmp : CmpLays Try.prog 27 #[] enc 4 cf bk 0 d.size w := fun _ _ _ _ x y => closureU x.1 y.1 (by
      have h1 := hbd x.1 x.2; have h2 := hbd y.1 y.2
      exact w64 (by omega) (by omega)) _
    have eg : ∀ args w, (callFunc 27 args).run Try.prog w = .ok (.enter 27 args) w := enters_of Try.func27 (by kernel_rfl) rfl
    have hcon := AnyQ.slices_SortFunc_total sortULays 4 Try.isAgg57 Try.sizeOf57 enc (fun _ => rfl) (fun x v hv => by simp [enc, encU] at hv; rcases hv with rfl | rfl | rfl | rfl <;> rfl) cf hO 27 #[] bk 0 cap d w eg hcmp hH hlt (by omega) hT
    change Calls Try.prog 26 _ _ _ at hcon
    rw [hds] at hcon
    refine hcon.mono ?_
    rintro e w' ⟨rfl, n, os, rfl⟩
    have hres : ((d.toList.mergeSort fun x y => !ltOf cf y x).map (·.1)) = sortU us := by
      unfold sortU
      rw [List.map_mergeSort (s := leF)]
      · show (List.map _ (us.attach.toArray).toList).mergeSort leF = _
        simp
      · intro x _ y _
        rw [hlt0]
        unfold leF
        rw [Bool.eq_iff_iff]
        simp
    generalize d.toList.mergeSort (fun x y => !ltOf cf y x) = r at hres ⊢
    have hrl : r.length = us.length := by rw [← sortU_len us, ← hres, List.length_map]
    have hG : ∀ j, j < us.length * 4 → (flatK enc 4 r.toArray)[j]! = (encU ((sortU us).getD (j / 4) ⟨0, 0, 0, 0⟩))[j % 4]! := fun j hj => by
      rw [get_flatK enc 4 r.toArray j (by simp [hrl]; omega)]
      have hj4 : j / 4 < r.length := by omega
      show (encU (r.toArray[j / 4]!).1)[j % 4]! = _
      rw [← hres, List.getD_eq_getElem?_getD, List.getElem?_map, List.getElem?_eq_getElem hj4]
      simp [hj4]
    have hold : ∀ k, k < w.heap.size → (grow (putRow id (Sort.ahead w n) bk 0 (flatK enc 4 r.toArray)) os).heap[k]? = if bk = k then some (.cells (putCells id 0 (flatK enc 4 r.toArray) cs) t (0, 0)) else w.heap[k]? := fun k hk => by
      rw [heap_grow_old _ _ (by simpa using hk)]
      simp only [putRow, mapBlock, Sort.ahead, Array.getElem?_modify]
      by_cases e : bk = k
      · subst e; simp [hb, onCells]
      · simp [e]
    have hsz : (putCells id 0 (flatK enc 4 r.toArray) cs).size = cs.size := by simp [putCells]
    have hget : ∀ j, (putCells id 0 (flatK enc 4 r.toArray) cs)[j]? = (cs[j]?).map fun x => if j < us.length * 4 then (flatK enc 4 r.toArray)[j]! else x := fun j => by
      simp [putCells, hrl]
    have hfl : (flat (us.map encAUnit)).length = us.length * 4 := by
      rw [flat_length (sz := 4) (fun d hd => by obtain ⟨u, _, rfl⟩ := List.mem_map.1 hd; rfl), List.length_map]
    refine ⟨rfl, by simp [sortU_len], fun d hd => ?_, putCells id 0 (flatK enc 4 r.toArray) cs, ?_, hsz, fun X' j v x hj hx => ?_, fun j hj => ?_, ?_⟩
    · obtain ⟨z, _, rfl⟩ := List.mem_map.1 hd
      exact ⟨rfl, by simp [encAUnit, D.cells, D.one]⟩
    · show (grow (putRow id (Sort.ahead w n) bk 0 (flatK enc 4 r.toArray)) os).heap[bk]? = _
      rw [hold bk hlt, if_pos rfl]
    · rw [flatU] at hx
      obtain ⟨u, hu1, hu2⟩ := Option.bind_eq_some_iff.1 hx
      have hj4 : j / 4 < us.length := by rw [← sortU_len us]; exact (List.getElem?_eq_some_iff.1 hu1).1
      have hjl : j < us.length * 4 := by omega
      rw [hget, hcell j hjl] at hj
      simp only [Option.map_some, hjl, if_true, Option.some.injEq] at hj
      rw [← hj, hG j hjl, List.getD_eq_getElem?_getD, hu1, Option.getD_some]
      exact cell_RD hu2
    · rw [hfl] at hj
      rw [hget]
      simp [show ¬ j < us.length * 4 by omega]
    · refine ⟨⟨?_, fun b hb2 hne => ?_, fun b c t' hc => ?_⟩, rfl, rfl, rfl⟩
      · show w.heap.size ≤ (grow (putRow id (Sort.ahead w n) bk 0 (flatK enc 4 r.toArray)) os).heap.size
        simp
      · show (grow (putRow id (Sort.ahead w n) bk 0 (flatK enc 4 r.toArray)) os).heap[b]? = _
        rw [hold b hb2, if_neg (fun e => hne e.symm)]
      · have hb2 : b < w.heap.size := (Array.getElem?_eq_some_iff.1 hc).1
        show ∃ cs', (grow (putRow id (Sort.ahead w n) bk 0 (flatK enc 4 r.toArray)) os).heap[b]? = _ ∧ _
        rw [hold b hb2]
        by_cases e : bk = b
        · subst e
          rw [hb] at hc
          cases hc
          exact ⟨_, if_pos rfl, hsz⟩
        · exact ⟨c, by rw [if_neg e]; exact hc, rfl⟩
  · cases hg
theorem sortU_none (p : Option Addr) (cap : Nat) (w : World) : Calls Try.prog 26 #[.slice p 0 cap, .func (.func 27) #[] #[]] w fun e w' => e = .returned (.tuple #[]) ∧ w' = w :=
  AnyF.slices_SortFunc_none sortULays p cap _ w
end Go.Ev

namespace Go.Ev
/-! ## The cycles come sorted -/
theorem sortedU_ext : ∀ {a b : List AUnit}, a.Pairwise (fun x y => x.first < y.first) → b.Pairwise (fun x y => x.first < y.first) → (∀ u, u ∈ a ↔ u ∈ b) → a = b
  | [], [], _, _, _ => rfl
  | [], y :: b, _, _, h => absurd ((h y).2 (by simp)) (by simp)
  | x :: a, [], _, _, h => absurd ((h x).1 (by simp)) (by simp)
  | x :: a, y :: b, ha, hb, h => by
    rw [List.pairwise_cons] at ha hb
    have e : x = y := by
      have h1 := (h x).1 (by simp)
      have h2 := (h y).2 (by simp)
      rw [List.mem_cons] at h1 h2
      rcases h1 with h1 | h1
      · exact h1
      · rcases h2 with h2 | h2
        · exact h2.symm
        · have := ha.1 _ h2; have := hb.1 _ h1; omega
    subst e
    rw [sortedU_ext ha.2 hb.2 fun u => ?_]
    constructor
    · intro hu
      have := (h u).1 (List.mem_cons_of_mem _ hu)
      rw [List.mem_cons] at this
      rcases this with rfl | this
      · have := ha.1 _ hu; omega
      · exact this
    · intro hu
      have := (h u).2 (List.mem_cons_of_mem _ hu)
      rw [List.mem_cons] at this
      rcases this with rfl | this
      · have := hb.1 _ hu; omega
      · exact this
def pickU (us : List AUnit) (d : List Nat) : List AUnit := d.map fun j => us.getD j zAUnit
theorem pick_perm {us : List AUnit} {d : List Nat} (hd : d.Perm (List.range us.length)) : (pickU us d).Perm us := by
  unfold pickU
  refine (hd.map _).trans ?_
  have : (List.range us.length).map (fun j => us.getD j zAUnit) = us := by
    apply List.ext_getElem?
    intro j
    rw [List.getElem?_map]
    by_cases h : j < us.length
    · rw [List.getElem?_range h, Option.map_some, List.getD_eq_getElem?_getD, List.getElem?_eq_getElem h, Option.getD_some]
    · rw [List.getElem?_eq_none (by simpa using h), List.getElem?_eq_none (by omega)]; rfl
  rw [this]
theorem sort_pick {us : List AUnit} {d : List Nat} (hd : d.Perm (List.range us.length)) (hs : us.Pairwise (fun x y => x.first < y.first)) : sortU (pickU us d) = us := by
  have hp := pick_perm hd
  have h1 : (sortU (pickU us d)).Pairwise fun x y => leF x y = true := List.pairwise_mergeSort (fun a b c => by unfold leF; simp only [decide_eq_true_eq]; omega) (fun a b => by unfold leF; simp only [Bool.or_eq_true, decide_eq_true_eq]; omega) _
  have hp2 : (sortU (pickU us d)).Perm us := (List.mergeSort_perm _ _).trans hp
  have hn : (us.map (·.first)).Nodup := by
    unfold List.Nodup
    rw [List.pairwise_map]
    exact hs.imp fun h => by omega
  have h2 : ((sortU (pickU us d)).map (·.first)).Nodup := ((hp2.map _).nodup_iff).2 hn
  unfold List.Nodup at h2
  rw [List.pairwise_map] at h2
  refine sortedU_ext ((h1.and h2).imp fun {a b} q => ?_) hs fun u => hp2.mem_iff
  have q1 := q.1
  have q2 : a.first ≠ b.first := q.2
  unfold leF at q1
  simp only [decide_eq_true_eq] at q1
  omega
theorem ok_pick {us : List AUnit} {d : List Nat} (hd : d.Perm (List.range us.length)) (hs : us.Pairwise (fun x y => x.first < y.first)) (hb : ∀ u ∈ us, 0 ≤ u.first ∧ u.first ≤ 100000) (hl : us.length ≤ 1000000) : okU (pickU us d) := by
  have hp := pick_perm hd
  refine ⟨((hp.map _).nodup_iff).2 ?_, fun u hu => hb u (hp.mem_iff.1 hu), by rw [hp.length_eq]; exact hl⟩
  unfold List.Nodup
  rw [List.pairwise_map]
  exact hs.imp fun h => by omega
theorem num_bounds {e : Entry} (h : entryErr e = 0) : 1 ≤ e.number ∧ e.number ≤ 9999 := by
  unfold entryErr at h
  split at h
  · cases h
  split at h
  · cases h
  omega
theorem nums_lt {l : List Entry} (h : ∀ j, j < l.length → chk l j) (i : Nat) : ∀ j, i < j → j < l.length → (l.getD i zEntry).number < (l.getD j zEntry).number
  | 0, h1, _ => by omega
  | j + 1, h1, h2 => by
    have q := (h (j + 1) h2).2.1
    have b := num_bounds (h j (by omega)).1
    rw [int_pred, show j + 1 - 1 = j from rfl, w64 (by omega) (by omega)] at q
    have hq : (l.getD (j + 1) zEntry).number = (l.getD j zEntry).number + 1 := Decidable.byContradiction fun e => q ⟨by omega, e⟩
    by_cases e : i = j
    · subst e; omega
    · have := nums_lt h i j (by omega) (by omega); omega
theorem entries_lt {l : List Entry} (h : ∀ j, j < l.length → chk l j) : l.Pairwise fun x y => x.number < y.number := by
  rw [List.pairwise_iff_getElem]
  intro i j hi hj hl
  have := nums_lt h i j hl hj
  rwa [List.getD_eq_getElem?_getD, List.getElem?_eq_getElem hi, Option.getD_some, List.getD_eq_getElem?_getD, List.getElem?_eq_getElem hj, Option.getD_some] at this
theorem cycles_lt {l : List Entry} (h : (check l).2 = 0) : (cycles l).Pairwise (fun x y => x.first < y.first) := by
  have hc : ∀ j, j < l.length → chk l j := fun j hj => check_all h hj
  have hf := (right_PInv h).f
  rw [← cycles_ok h] at hf
  have h2 : ((cycles l).map (·.first)).Pairwise (· < ·) := by
    rw [hf, List.pairwise_map]
    exact (entries_lt hc).filter _
  rwa [List.pairwise_map] at h2
theorem cycles_first {l : List Entry} (h : (check l).2 = 0) : ∀ u ∈ cycles l, 0 ≤ u.first ∧ u.first ≤ 100000 := by
  intro u hu
  have hc : ∀ j, j < l.length → chk l j := fun j hj => check_all h hj
  have hf := (right_PInv h).f
  rw [← cycles_ok h] at hf
  have hm : u.first ∈ (cycles l).map (·.first) := List.mem_map.2 ⟨u, hu, rfl⟩
  rw [hf] at hm
  obtain ⟨e, he, hn⟩ := List.mem_map.1 hm
  have he := (List.mem_filter.1 he).1
  obtain ⟨j, hj, rfl⟩ := List.getElem_of_mem he
  have := num_bounds (hc j hj).1
  rw [List.getD_eq_getElem?_getD, List.getElem?_eq_getElem hj, Option.getD_some] at this
  omega
theorem unitsOf_len (l : List Entry) : (unitsOf l).length ≤ l.length := by
  have key : ∀ (l : List Entry) (us : List AUnit), (l.foldl uStep us).length ≤ us.length + l.length := fun l => by
    induction l with
    | nil => intro us; simp
    | cons e l ih =>
      intro us
      have h1 := ih (uStep us e)
      have h2 : (uStep us e).length ≤ us.length + 1 := by
        unfold uStep
        split
        · simp
        split
        · split <;> simp
        · simp
      simp only [List.foldl_cons, List.length_cons]
      omega
  have := key l []
  simpa [unitsOf] using this
theorem check_len {l : List Entry} (h : (check l).2 = 0) : l.length ≤ 80 := by
  unfold check at h
  split at h
  · cases h
  · omega
theorem cycles_len {l : List Entry} : (cycles l).length ≤ 80 := by
  by_cases h : (check l).2 = 0
  · rw [cycles_ok h]
    have := unitsOf_len l; have := check_len h
    omega
  · rw [cycles_err h]; simp
theorem gSort_pick {l : List Entry} (h : (check l).2 = 0) {d : List Nat} (hd : d.Perm (List.range (cycles l).length)) : gSortU ((pickU (cycles l) d).map encAUnit) = some (okU (pickU (cycles l) d), (cycles l).map encAUnit) := by
  unfold gSortU
  rw [dM_AUnit]
  simp only
  rw [sort_pick hd (cycles_lt h)]
theorem ok_pick35 {l : List Entry} (h : (check l).2 = 0) {d : List Nat} (hd : d.Perm (List.range (cycles l).length)) : okU (pickU (cycles l) d) :=
  ok_pick hd (cycles_lt h) (cycles_first h) (by have := cycles_len (l := l); omega)
theorem pick_snoc (us : List AUnit) (d : List Nat) (j : Nat) : pickU us (d ++ [j]) = pickU us d ++ [us.getD j zAUnit] := by simp [pickU]
theorem pick_len (us : List AUnit) (d : List Nat) : (pickU us d).length = d.length := by simp [pickU]
/-! ## The images of a record -/
def isChange (file : ByteArray) (rrn : Int) (e : Entry) : Bool := decide (e.kind = 0 ∧ e.change.file = file ∧ e.change.rrn = rrn)
def imgStep (file : ByteArray) (rrn : Int) (out : List ByteArray) (e : Entry) : List ByteArray :=
  if e.kind = 0 ∧ e.change.file = file ∧ e.change.rrn = rrn then (if out = [] then [e.change.before] else out) ++ [e.change.after] else out
def imgs (file : ByteArray) (rrn : Int) (l : List Entry) : List ByteArray := l.foldl (imgStep file rrn) []
theorem imgs_take {l : List Entry} {file : ByteArray} {rrn : Int} {i : Nat} (h : i < l.length) : imgs file rrn (l.take (i + 1)) = imgStep file rrn (imgs file rrn (l.take i)) (l.getD i zEntry) := by
  rw [take_getD zEntry h]; simp [imgs]
theorem imgs_len (file : ByteArray) (rrn : Int) (l : List Entry) : (imgs file rrn l).length ≤ l.length + 1 ∧ (imgs file rrn l = [] ∨ 1 ≤ (imgs file rrn l).length) := by
  have key : ∀ (l : List Entry) (o : List ByteArray), (l.foldl (imgStep file rrn) o).length ≤ (if o = [] then 1 else o.length) + l.length := fun l => by
    induction l with
    | nil => intro o; simp; split <;> simp_all
    | cons e l ih =>
      intro o
      have h1 := ih (imgStep file rrn o e)
      have h2 : (if imgStep file rrn o e = [] then 1 else (imgStep file rrn o e).length) ≤ (if o = [] then 1 else o.length) + 1 := by
        unfold imgStep
        (repeat' split) <;> simp_all
      simp only [List.foldl_cons, List.length_cons]
      omega
  have := key l []
  simp at this
  refine ⟨by unfold imgs; omega, ?_⟩
  cases imgs file rrn l <;> simp
def imagesC (l : List Entry) (file : ByteArray) (rrn : Int) : List ByteArray × Int :=
  if (check l).2 ≠ 0 then ([], (check l).2) else if isName file = false then ([], 7) else if rrn < 1 ∨ 60 < rrn then ([], 3) else (imgs file rrn l, 0)
end Go.Ev
namespace Go.Ev
theorem cp_get {us : List AUnit} {j : Nat} (h : j < (us.map fun u => D.cp (cellsU u)).length) : (us.map fun u => D.cp (cellsU u)).getD j .np = .cp [.i .i64 (us.getD j zAUnit).unit, .i .i64 (us.getD j zAUnit).first, .i .i64 (us.getD j zAUnit).last, .i .i64 (us.getD j zAUnit).state] := by
  rw [List.length_map] at h
  rw [List.getD_eq_getElem?_getD, List.getElem?_map, List.getElem?_eq_getElem h, List.getD_eq_getElem?_getD, List.getElem?_eq_getElem h]
  rfl
end Go.Ev
namespace Go.Ev
theorem pick_len35 {us : List AUnit} {d : List Nat} (hd : d.Perm (List.range us.length)) : (pickU us d).length = us.length := (pick_perm hd).length_eq
theorem nodup_len : ∀ (n : Nat) (d : List Nat), d.Nodup → (∀ k ∈ d, k < n) → d.length ≤ n
  | 0, d, _, h => by
    cases d with
    | nil => simp
    | cons a d => have := h a (by simp); omega
  | n + 1, d, hn, h => by
    by_cases hm : n ∈ d
    · have := nodup_len n (d.erase n) (hn.erase n) fun k hk => by
        have h1 := h k (List.mem_of_mem_erase hk)
        have h2 : k ≠ n := fun e => by subst e; exact (hn.not_mem_erase) hk
        omega
      rw [List.length_erase_of_mem hm] at this
      omega
    · have := nodup_len n d hn fun k hk => by
        have h1 := h k hk
        have : k ≠ n := fun e => hm (e ▸ hk)
        omega
      omega
end Go.Ev

namespace Go.Ev
open Go.Proofs Ty
set_option maxRecDepth 10000
set_option maxHeartbeats 4000000
set_option linter.unusedSimpArgs false
set_option linter.unusedVariables false
theorem isK3 (n : Int) : isK Try.prog 3 (.i .i64 n) = true := by unfold isK; rw [Try.underlying3]; simp
theorem isK3s (us : List AUnit) : ∀ d ∈ us.map keyU, isK Try.prog 3 d = true := fun d hd => by
  obtain ⟨u, _, rfl⟩ := List.mem_map.1 hd
  exact isK3 _

theorem follows : Try.prog.follows .mixedOrders = true := by kernel_rfl
def mvs : FuncId → Nat → List (Nat × TypeId × Nat) := fun _ _ => []

noncomputable def e34 : List O → Option (Prop × O)
  | [.d (.i .i64 n), .d (.i .i64 least), .d (.i .i64 most)] => some (True, .d (.b (decide (least ≤ n) && decide (n ≤ most))))
  | _ => none
noncomputable def tab34 : FuncId → List O → Option (Prop × O) := addT (fun _ _ => none) 34 e34

noncomputable def e65 : List O → Option (Prop × O)
  | [.d (.i .i64 n), .d (.i .i64 least), .d (.i .i64 most)] => some (True, .d (.b (decide (least ≤ n) && decide (n ≤ most))))
  | _ => none
noncomputable def tab65 : FuncId → List O → Option (Prop × O) := addT tab34 65 e65

noncomputable def e47 : List O → Option (Prop × O)
  | [.d (.b b)] => some (True, .d (.i .i64 (if b = true then 1 else 0)))
  | _ => none
noncomputable def tab47 : FuncId → List O → Option (Prop × O) := addT tab65 47 e47

noncomputable def e52 : List O → Option (Prop × O)
  | [.d (.i .u8 c)] => some (True, .d (.b (decide (65 ≤ c) && decide (c ≤ 90))))
  | _ => none
noncomputable def tab52 : FuncId → List O → Option (Prop × O) := addT tab47 52 e52

noncomputable def e53 : List O → Option (Prop × O)
  | [.d (.i .u8 c)] => some (True, .d (.b (decide (48 ≤ c) && decide (c ≤ 57))))
  | _ => none
noncomputable def tab53 : FuncId → List O → Option (Prop × O) := addT tab52 53 e53

noncomputable def e33 : List O → Option (Prop × O)
  | [.d (.s s)] => some (True, .d (.b (isName s)))
  | _ => none
noncomputable def tab33 : FuncId → List O → Option (Prop × O) := addT tab53 33 e33

noncomputable def e66 : List O → Option (Prop × O)
  | [.d (.s s)] => some (True, .d (.b (isName s)))
  | _ => none
noncomputable def tab66 : FuncId → List O → Option (Prop × O) := addT tab33 66 e66

noncomputable def e49 : List O → Option (Prop × O)
  | [.d x_c] => match decChange x_c with
    | some c => some (True, .d (.i .i64 (changeErr c)))
    | _ => none
  | _ => none
noncomputable def tab49 : FuncId → List O → Option (Prop × O) := addT tab66 49 e49

noncomputable def e48 : List O → Option (Prop × O)
  | [.d x_e] => match decEntry x_e with
    | some e => some (True, .d (.i .i64 (formErr e)))
    | _ => none
  | _ => none
noncomputable def tab48 : FuncId → List O → Option (Prop × O) := addT tab49 48 e48

noncomputable def e28 : List O → Option (Prop × O)
  | [.d x_e] => match decEntry x_e with
    | some e => some (True, .d (.i .i64 (entryErr e)))
    | _ => none
  | _ => none
noncomputable def tab28 : FuncId → List O → Option (Prop × O) := addT tab48 28 e28

noncomputable def e44 : List O → Option (Prop × O)
  | [.d x_e] => match decEntry x_e with
    | some e => some (True, .d (.i .i64 (entryErr e)))
    | _ => none
  | _ => none
noncomputable def tab44 : FuncId → List O → Option (Prop × O) := addT tab28 44 e44

noncomputable def e8 : List O → Option (Prop × O)
  | [.d x_l] => match decL 8 decEntry x_l with
    | some l => some (True, .d (.b (few35 l)))
    | _ => none
  | _ => none
noncomputable def tab8 : FuncId → List O → Option (Prop × O) := addT tab44 8 e8

noncomputable def e51 : List O → Option (Prop × O)
  | [.d x_l, .d (.i .i64 unit)] => match decL 8 decEntry x_l with
    | some l => some (l.length ≤ 1000000, .d (.b (begins l unit)))
    | _ => none
  | _ => none
noncomputable def tab51 : FuncId → List O → Option (Prop × O) := addT tab8 51 e51

noncomputable def e30 : List O → Option (Prop × O)
  | [.d x_l, .d (.i .i64 unit)] => match decL 8 decEntry x_l with
    | some l => some (l.length ≤ 1000000, .d (.i .i64 (ends l unit)))
    | _ => none
  | _ => none
noncomputable def tab30 : FuncId → List O → Option (Prop × O) := addT tab51 30 e30

noncomputable def e50 : List O → Option (Prop × O)
  | [.d x_l, .d (.i .i64 unit)] => match decL 8 decEntry x_l with
    | some l => some (l.length ≤ 1000000, .d (.b (isOpen l unit)))
    | _ => none
  | _ => none
noncomputable def tab50 : FuncId → List O → Option (Prop × O) := addT tab30 50 e50

noncomputable def e29 : List O → Option (Prop × O)
  | [.d x_l, .d x_e] => match decL 8 decEntry x_l, decEntry x_e with
    | some l, some e => some (l.length ≤ 1000000, .d (.i .i64 (stateErr l e)))
    | _, _ => none
  | _ => none
noncomputable def tab29 : FuncId → List O → Option (Prop × O) := addT tab50 29 e29

noncomputable def e12 : List O → Option (Prop × O)
  | [.d x_l] => match decL 8 decEntry x_l with
    | some l => some (l.length ≤ 1000000, .tup [.d (.i .i64 (check l).1), .d (.i .i64 (check l).2)])
    | _ => none
  | _ => none
noncomputable def tab12 : FuncId → List O → Option (Prop × O) := addT tab29 12 e12

noncomputable def e32 : List O → Option (Prop × O)
  | [.d x_l] => match decL 8 decEntry x_l with
    | some l => some (l.length ≤ 1000000, .d (.i .i64 (check l).2))
    | _ => none
  | _ => none
noncomputable def tab32 : FuncId → List O → Option (Prop × O) := addT tab12 32 e32

noncomputable def e25 : List O → Option (Prop × O)
  | [.d x_l] => match decL 8 decEntry x_l with
    | some l => some (l.length ≤ 1000000, .tup [.d (.mp ((cycles l).map keyU) ((cycles l).map fun u => .cp (cellsU u))), .d (.i .i64 (check l).1), .d (.i .i64 (check l).2)])
    | _ => none
  | _ => none
noncomputable def tab25 : FuncId → List O → Option (Prop × O) := addT tab32 25 e25

noncomputable def e9 : List O → Option (Prop × O)
  | [.d x_l] => match decL 8 decEntry x_l with
    | some l => some (l.length ≤ 1000000, .tup [.d (.i .i64 (check l).1), .d (.i .i64 (check l).2)])
    | _ => none
  | _ => none
noncomputable def tab9 : FuncId → List O → Option (Prop × O) := addT tab25 9 e9

noncomputable def e10 : List O → Option (Prop × O)
  | [.d x_l] => match decL 8 decEntry x_l with
    | some l => some (l.length ≤ 1000000, .own 51 8 (l.map encEntry))
    | _ => none
  | _ => none
noncomputable def tab10 : FuncId → List O → Option (Prop × O) := addT tab9 10 e10

noncomputable def e11 : List O → Option (Prop × O)
  | [.d x_l] => match decL 8 decEntry x_l with
    | some l => some (l.length ≤ 1000000, .tup [.d (.sl 4 ((cycles l).map encAUnit)), .d (.i .i64 (check l).2)])
    | _ => none
  | _ => none
noncomputable def tab11 : FuncId → List O → Option (Prop × O) := addT tab10 11 e11

end Go.Ev

namespace Go.Ev
/-! ## Chapter 35: what the walks need -/
theorem lastN_take {l : List Entry} {u : Int} {i j : Nat} (h : i + j < l.length) : lastN u ((l.drop i).take (j + 1)) 0 = if (l.getD (i + j) zEntry).unit = u then (l.getD (i + j) zEntry).number else lastN u ((l.drop i).take j) 0 := by
  rw [take_getD zEntry (by simp; omega), lastN_snoc]
  have : (l.drop i).getD j zEntry = l.getD (i + j) zEntry := by simp [List.getD, List.getElem?_drop]
  rw [this]
theorem lastN_end {l : List Entry} {u : Int} {i j : Nat} (h : l.length ≤ i + j) : lastN u ((l.drop i).take j) 0 = lastN u (l.drop i) 0 := by
  rw [List.take_of_length_le (by simp; omega)]
theorem refsTo_yes {l : List Entry} {i : Nat} (h : (l.getD i zEntry).kind = 1) : refsTo l (i + 1) = refsTo l i ++ [refU l i] := by rw [refsTo, if_pos h]
theorem refsTo_no {l : List Entry} {i : Nat} (h : ¬(l.getD i zEntry).kind = 1) : refsTo l (i + 1) = refsTo l i := by rw [refsTo, if_neg h]
theorem refU_sta {l : List Entry} {i : Nat} (n : Int) (s : Int) (h1 : lastN (l.getD i zEntry).unit (l.drop i) 0 = n) (h2 : staOf (ends l (l.getD i zEntry).unit) = s) : refU l i = ⟨(l.getD i zEntry).unit, (l.getD i zEntry).number, n, s⟩ := by
  subst h1; subst h2; rfl
theorem staOf_c {k : Int} (h : k = 2) : staOf k = 0 := by subst h; rfl
theorem staOf_r {k : Int} (_ : ¬k = 2) (h : k = 3) : staOf k = 1 := by subst h; rfl
theorem staOf_o {k : Int} (h : ¬k = 2) (h2 : ¬k = 3) : staOf k = 2 := by rw [staOf, if_neg h, if_neg h2]
theorem nameErr_eq (f : ByteArray) : entryErr ⟨1, 4, 0, ⟨f, 0, 0, ⟨#[]⟩, ⟨#[]⟩⟩⟩ = if isName f = false then 7 else 0 := by
  simp [entryErr, formUsed, zChange]
theorem img_err {l : List Entry} {file : ByteArray} {rrn : Int} (h : ¬(check l).2 = 0) : imagesC l file rrn = ([], (check l).2) := by rw [imagesC, if_pos h]
theorem img_name {l : List Entry} {file : ByteArray} {rrn : Int} (h : (check l).2 = 0) (h2 : isName file = false) : imagesC l file rrn = ([], 7) := by rw [imagesC, if_neg (fun e => e h), if_pos h2]
theorem img_rrn {l : List Entry} {file : ByteArray} {rrn : Int} (h : (check l).2 = 0) (h2 : isName file = true) (h3 : rrn < 1 ∨ 60 < rrn) : imagesC l file rrn = ([], 3) := by rw [imagesC, if_neg (fun e => e h), if_neg (by simp [h2]), if_pos h3]
theorem img_ok {l : List Entry} {file : ByteArray} {rrn : Int} (h : (check l).2 = 0) (h2 : isName file = true) (h3 : ¬(rrn < 1 ∨ 60 < rrn)) : imagesC l file rrn = (imgs file rrn l, 0) := by rw [imagesC, if_neg (fun e => e h), if_neg (by simp [h2]), if_neg h3]
theorem imgs_skip {l : List Entry} {file : ByteArray} {rrn : Int} {i : Nat} (h : i < l.length) (h1 : ¬((l.getD i zEntry).kind = 0 ∧ (l.getD i zEntry).change.file = file ∧ (l.getD i zEntry).change.rrn = rrn)) : imgs file rrn (l.take (i + 1)) = imgs file rrn (l.take i) := by
  rw [imgs_take h, imgStep, if_neg h1]
theorem imgs_first {l : List Entry} {file : ByteArray} {rrn : Int} {i : Nat} (h : i < l.length) (h1 : (l.getD i zEntry).kind = 0 ∧ (l.getD i zEntry).change.file = file ∧ (l.getD i zEntry).change.rrn = rrn) (h2 : (imgs file rrn (l.take i)).length = 0) : imgs file rrn (l.take (i + 1)) = imgs file rrn (l.take i) ++ [(l.getD i zEntry).change.before] ++ [(l.getD i zEntry).change.after] := by
  have := List.eq_nil_of_length_eq_zero h2
  rw [imgs_take h, imgStep, if_pos h1, this, if_pos rfl]; rfl
theorem imgs_more {l : List Entry} {file : ByteArray} {rrn : Int} {i : Nat} (h : i < l.length) (h1 : (l.getD i zEntry).kind = 0 ∧ (l.getD i zEntry).change.file = file ∧ (l.getD i zEntry).change.rrn = rrn) (h2 : ¬(imgs file rrn (l.take i)).length = 0) : imgs file rrn (l.take (i + 1)) = imgs file rrn (l.take i) ++ [(l.getD i zEntry).change.after] := by
  rw [imgs_take h, imgStep, if_pos h1, if_neg (fun e => h2 (by rw [e]; rfl))]
theorem imgs_bound (l : List Entry) (file : ByteArray) (rrn : Int) (i : Nat) : (imgs file rrn (l.take i)).length ≤ l.length + 1 := by
  have h := (imgs_len file rrn (l.take i)).1
  have := List.length_take_le i l
  have : (l.take i).length ≤ l.length := by rw [List.length_take]; omega
  omega
theorem getDz_str (l : List ByteArray) (k : Nat) : (l.map D.s).getD k (.s ⟨#[]⟩) = .s (l.getD k ⟨#[]⟩) := by
  simp only [List.getD, List.getElem?_map]
  cases l[k]? <;> rfl
theorem decS_enc' (x : ByteArray) : decS (D.s x) = some x := rfl
theorem dL_str (l : List ByteArray) : decL 1 decS (.sl 1 (l.map D.s)) = some l := decL_map decS_enc' l
theorem dM_str (l : List ByteArray) : decM decS (l.map D.s) = some l := decM_map decS_enc' l
def aw35 : List Entry := [⟨1, 1, 1, zChange⟩, ⟨2, 0, 1, ⟨⟨#[70]⟩, 1, 1, ⟨#[65]⟩, ⟨#[66]⟩⟩⟩, ⟨3, 2, 1, zChange⟩]
theorem aw35_check : check [⟨1, 1, 1, zChange⟩, ⟨2, 0, 1, ⟨⟨#[70]⟩, 1, 1, ⟨#[65]⟩, ⟨#[66]⟩⟩⟩, ⟨3, 2, 1, zChange⟩] = (0, 0) := by decide +kernel
theorem aw35_cycles : cycles [⟨1, 1, 1, zChange⟩, ⟨2, 0, 1, ⟨⟨#[70]⟩, 1, 1, ⟨#[65]⟩, ⟨#[66]⟩⟩⟩, ⟨3, 2, 1, zChange⟩] = [⟨1, 1, 3, 0⟩] := by decide +kernel
theorem aw35_images : imagesC [⟨1, 1, 1, zChange⟩, ⟨2, 0, 1, ⟨⟨#[70]⟩, 1, 1, ⟨#[65]⟩, ⟨#[66]⟩⟩⟩, ⟨3, 2, 1, zChange⟩] ⟨#[70]⟩ 1 = ([⟨#[65]⟩, ⟨#[66]⟩], 0) := by decide +kernel
end Go.Ev
namespace Go.Ev
theorem name_ok {f : ByteArray} (h : (if isName f = false then (7 : Int) else 0) = 0) : isName f = true := by
  split at h
  · cases h
  · simpa using ‹¬isName f = false›
theorem name_no {f : ByteArray} (h : ¬(if isName f = false then (7 : Int) else 0) = 0) : isName f = false := by
  split at h
  · assumption
  · exact absurd rfl h
theorem emp_t {α β : Type} {f : α → β} {l : List α} (h : (l.map f).isEmpty = true) : l.length = 0 := by
  rw [List.isEmpty_iff] at h
  have := congrArg List.length h
  simpa using this
theorem emp_f {α β : Type} {f : α → β} {l : List α} (h : (l.map f).isEmpty = false) : ¬l.length = 0 := by
  intro e
  have := List.eq_nil_of_length_eq_zero e
  subst this
  cases h
theorem check_ok {l : List Entry} (h : (check l).2 = 0) : check l = (0, 0) := by
  have key : ∀ (n i : Nat), (checkFrom l n i).2 = 0 → checkFrom l n i = (0, 0) := fun n => by
    induction n with
    | zero => intro i _; rfl
    | succ n ih =>
      intro i h
      unfold checkFrom at h ⊢
      split at h
      · exact absurd h ‹_›
      rw [if_neg ‹_›]
      split at h
      · cases h
      rw [if_neg ‹_›]
      split at h
      · exact absurd h ‹_›
      rw [if_neg ‹_›]
      exact ih _ h
  unfold check at h ⊢
  split at h
  · cases h
  rw [if_neg ‹_›]
  exact key _ _ h
theorem img_len (l : List Entry) (file : ByteArray) (rrn : Int) : (imagesC l file rrn).1.length ≤ l.length + 1 := by
  unfold imagesC
  split
  · simp
  split
  · simp
  split
  · simp
  · have := (imgs_len file rrn l).1; omega
end Go.Ev

namespace Go.Ev
open Go.Proofs Ty
set_option maxRecDepth 10000
set_option maxHeartbeats 4000000
set_option linter.unusedSimpArgs false
set_option linter.unusedVariables false
noncomputable def e13 : List O → Option (Prop × O)
  | [.d x_a, .d x_b] => match decL 4 decAUnit x_a, decL 4 decAUnit x_b with
    | some a, some b => some (a.length ≤ 1000000, .d (.b (decide (a = b))))
    | _, _ => none
  | _ => none
noncomputable def tab13 : FuncId → List O → Option (Prop × O) := addT tab11 13 e13

noncomputable def e17 : List O → Option (Prop × O)
  | [.d x_a, .d x_b] => match decL 1 decS x_a, decL 1 decS x_b with
    | some a, some b => some (a.length ≤ 1000000, .d (.b (decide (a = b))))
    | _, _ => none
  | _ => none
noncomputable def tab17 : FuncId → List O → Option (Prop × O) := addT tab13 17 e17

noncomputable def e14 : List O → Option (Prop × O)
  | [.d x_l] => match decL 8 decEntry x_l with
    | some l => some (l.length ≤ 1000000, .d (.sl 4 ((refsTo l l.length).map encAUnit)))
    | _ => none
  | _ => none
noncomputable def tab14 : FuncId → List O → Option (Prop × O) := addT tab17 14 e14

noncomputable def e31 : List O → Option (Prop × O)
  | [.d (.s file)] => some (True, .d (.i .i64 (if isName file = false then 7 else 0)))
  | _ => none
noncomputable def tab31 : FuncId → List O → Option (Prop × O) := addT tab14 31 e31

noncomputable def e15 : List O → Option (Prop × O)
  | [.d x_l, .d (.s file), .d (.i .i64 rrn)] => match decL 8 decEntry x_l with
    | some l => some (l.length ≤ 1000000, .tup [.d (.sl 1 ((imagesC l file rrn).1.map D.s)), .d (.i .i64 (imagesC l file rrn).2)])
    | _ => none
  | _ => none
noncomputable def tab15 : FuncId → List O → Option (Prop × O) := addT tab31 15 e15

noncomputable def e16 : List O → Option (Prop × O)
  | [.d x_l, .d (.s file), .d (.i .i64 rrn)] => match decL 8 decEntry x_l with
    | some l => some (l.length ≤ 1000000, .tup [.d (.sl 1 ((imagesC l file rrn).1.map D.s)), .d (.i .i64 (imagesC l file rrn).2)])
    | _ => none
  | _ => none
noncomputable def tab16 : FuncId → List O → Option (Prop × O) := addT tab15 16 e16

noncomputable def e7 : List O → Option (Prop × O)
  | [] => some (True, .d (.b true))
  | _ => none
noncomputable def tab7 : FuncId → List O → Option (Prop × O) := addT tab16 7 e7

noncomputable def e3 : List O → Option (Prop × O)
  | [.d x_l] => match decL 8 decEntry x_l with
    | some l => some (True, .d (.b true))
    | _ => none
  | _ => none
noncomputable def tab3 : FuncId → List O → Option (Prop × O) := addT tab7 3 e3

noncomputable def e4 : List O → Option (Prop × O)
  | [.d x_l, .d (.s file), .d (.i .i64 rrn)] => match decL 8 decEntry x_l with
    | some l => some (True, .d (.b true))
    | _ => none
  | _ => none
noncomputable def tab4 : FuncId → List O → Option (Prop × O) := addT tab3 4 e4

end Go.Ev
