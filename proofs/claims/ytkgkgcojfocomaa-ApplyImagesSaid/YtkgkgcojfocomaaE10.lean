/- Tools and contracts under the laws of this seat: DxT, DevRead, DevReadT35. -/
import Derived.Test.YtkgkgcojfocomaaE05
import Derived.Test.YtkgkgcojfocomaaE06
import Derived.Test.YtkgkgcojfocomaaE07
import Derived.Test.YtkgkgcojfocomaaE08
import Derived.Test.YtkgkgcojfocomaaE09
import Derived.Test.YtkgkgcojfocomaaE02
import Derived.ProofKit
import Derived.ChangeArms
import Derived.Test.YtkgkgcojfocomaaE03
set_option linter.unusedVariables false
set_option linter.unusedSimpArgs false
namespace Go.Ev
open Go.Proofs Ty
set_option maxRecDepth 10000
set_option maxHeartbeats 4000000
set_option linter.unusedSimpArgs false
set_option linter.unusedVariables false
theorem en34 : Enters Try.prog 34 := ⟨_, Try.func34, rfl, rfl⟩
theorem so34 (args : List O) (p : Prop) (r : O) (h : e34 args = some (p, r)) (hp : p) : Sem Try.prog 34 args r := by
  unfold e34 at h
  split at h
  · cases h; exact con34 (cok_of (TabOk.nil _) follows) _ _ _
  · cases h
theorem tok34 : TabOk Try.prog tab34 := TabOk.add ((TabOk.nil _)) en34 so34

theorem en65 : Enters Try.prog 65 := ⟨_, Try.func65, rfl, rfl⟩
theorem so65 (args : List O) (p : Prop) (r : O) (h : e65 args = some (p, r)) (hp : p) : Sem Try.prog 65 args r := by
  unfold e65 at h
  split at h
  · cases h; exact con65 (cok_of tok34 follows) _ _ _
  · cases h
theorem tok65 : TabOk Try.prog tab65 := TabOk.add (tok34) en65 so65

theorem en47 : Enters Try.prog 47 := ⟨_, Try.func47, rfl, rfl⟩
theorem so47 (args : List O) (p : Prop) (r : O) (h : e47 args = some (p, r)) (hp : p) : Sem Try.prog 47 args r := by
  unfold e47 at h
  split at h
  · cases h; exact con47 (cok_of tok65 follows) _
  · cases h
theorem tok47 : TabOk Try.prog tab47 := TabOk.add (tok65) en47 so47

theorem en52 : Enters Try.prog 52 := ⟨_, Try.func52, rfl, rfl⟩
theorem so52 (args : List O) (p : Prop) (r : O) (h : e52 args = some (p, r)) (hp : p) : Sem Try.prog 52 args r := by
  unfold e52 at h
  split at h
  · cases h; exact con52 (cok_of tok47 follows) _
  · cases h
theorem tok52 : TabOk Try.prog tab52 := TabOk.add (tok47) en52 so52

theorem en53 : Enters Try.prog 53 := ⟨_, Try.func53, rfl, rfl⟩
theorem so53 (args : List O) (p : Prop) (r : O) (h : e53 args = some (p, r)) (hp : p) : Sem Try.prog 53 args r := by
  unfold e53 at h
  split at h
  · cases h; exact con53 (cok_of tok52 follows) _
  · cases h
theorem tok53 : TabOk Try.prog tab53 := TabOk.add (tok52) en53 so53

theorem en33 : Enters Try.prog 33 := ⟨_, Try.func33, rfl, rfl⟩
theorem so33 (args : List O) (p : Prop) (r : O) (h : e33 args = some (p, r)) (hp : p) : Sem Try.prog 33 args r := by
  unfold e33 at h
  split at h
  · cases h; exact con33 (cok_of tok53 follows) _
  · cases h
theorem tok33 : TabOk Try.prog tab33 := TabOk.add (tok53) en33 so33

theorem en66 : Enters Try.prog 66 := ⟨_, Try.func66, rfl, rfl⟩
theorem so66 (args : List O) (p : Prop) (r : O) (h : e66 args = some (p, r)) (hp : p) : Sem Try.prog 66 args r := by
  unfold e66 at h
  split at h
  · cases h; exact con66 (cok_of tok33 follows) _
  · cases h
theorem tok66 : TabOk Try.prog tab66 := TabOk.add (tok33) en66 so66

theorem en49 : Enters Try.prog 49 := ⟨_, Try.func49, rfl, rfl⟩
theorem so49 (args : List O) (p : Prop) (r : O) (h : e49 args = some (p, r)) (hp : p) : Sem Try.prog 49 args r := by
  unfold e49 at h
  split at h
  · split at h
    · rename_i h_c
      cases h; exact (con49 (cok_of tok66 follows) _).le ⟨decChange_le h_c, trivial⟩ (ole_refl _)
    · cases h
  · cases h
theorem tok49 : TabOk Try.prog tab49 := TabOk.add (tok66) en49 so49

theorem en48 : Enters Try.prog 48 := ⟨_, Try.func48, rfl, rfl⟩
theorem so48 (args : List O) (p : Prop) (r : O) (h : e48 args = some (p, r)) (hp : p) : Sem Try.prog 48 args r := by
  unfold e48 at h
  split at h
  · split at h
    · rename_i h_e
      cases h; exact (con48 (cok_of tok49 follows) _).le ⟨decEntry_le h_e, trivial⟩ (ole_refl _)
    · cases h
  · cases h
theorem tok48 : TabOk Try.prog tab48 := TabOk.add (tok49) en48 so48

theorem en28 : Enters Try.prog 28 := ⟨_, Try.func28, rfl, rfl⟩
theorem so28 (args : List O) (p : Prop) (r : O) (h : e28 args = some (p, r)) (hp : p) : Sem Try.prog 28 args r := by
  unfold e28 at h
  split at h
  · split at h
    · rename_i h_e
      cases h; exact (con28 (cok_of tok48 follows) _).le ⟨decEntry_le h_e, trivial⟩ (ole_refl _)
    · cases h
  · cases h
theorem tok28 : TabOk Try.prog tab28 := TabOk.add (tok48) en28 so28

theorem en44 : Enters Try.prog 44 := ⟨_, Try.func44, rfl, rfl⟩
theorem so44 (args : List O) (p : Prop) (r : O) (h : e44 args = some (p, r)) (hp : p) : Sem Try.prog 44 args r := by
  unfold e44 at h
  split at h
  · split at h
    · rename_i h_e
      cases h; exact (con44 (cok_of tok28 follows) _).le ⟨decEntry_le h_e, trivial⟩ (ole_refl _)
    · cases h
  · cases h
theorem tok44 : TabOk Try.prog tab44 := TabOk.add (tok28) en44 so44

theorem en8 : Enters Try.prog 8 := ⟨_, Try.func8, rfl, rfl⟩
theorem so8 (args : List O) (p : Prop) (r : O) (h : e8 args = some (p, r)) (hp : p) : Sem Try.prog 8 args r := by
  unfold e8 at h
  split at h
  · split at h
    · rename_i h_l
      cases h; exact (con8 (cok_of tok44 follows) _).le ⟨decL_le decEntry_le h_l, trivial⟩ (ole_refl _)
    · cases h
  · cases h
theorem tok8 : TabOk Try.prog tab8 := TabOk.add (tok44) en8 so8

theorem en51 : Enters Try.prog 51 := ⟨_, Try.func51, rfl, rfl⟩
theorem so51 (args : List O) (p : Prop) (r : O) (h : e51 args = some (p, r)) (hp : p) : Sem Try.prog 51 args r := by
  unfold e51 at h
  split at h
  · split at h
    · rename_i h_l
      cases h; exact (con51 (cok_of tok8 follows) _ _ hp).le ⟨decL_le decEntry_le h_l, dle_refl _, trivial⟩ (ole_refl _)
    · cases h
  · cases h
theorem tok51 : TabOk Try.prog tab51 := TabOk.add (tok8) en51 so51

theorem en30 : Enters Try.prog 30 := ⟨_, Try.func30, rfl, rfl⟩
theorem so30 (args : List O) (p : Prop) (r : O) (h : e30 args = some (p, r)) (hp : p) : Sem Try.prog 30 args r := by
  unfold e30 at h
  split at h
  · split at h
    · rename_i h_l
      cases h; exact (con30 (cok_of tok51 follows) _ _ hp).le ⟨decL_le decEntry_le h_l, dle_refl _, trivial⟩ (ole_refl _)
    · cases h
  · cases h
theorem tok30 : TabOk Try.prog tab30 := TabOk.add (tok51) en30 so30

theorem en50 : Enters Try.prog 50 := ⟨_, Try.func50, rfl, rfl⟩
theorem so50 (args : List O) (p : Prop) (r : O) (h : e50 args = some (p, r)) (hp : p) : Sem Try.prog 50 args r := by
  unfold e50 at h
  split at h
  · split at h
    · rename_i h_l
      cases h; exact (con50 (cok_of tok30 follows) _ _ hp).le ⟨decL_le decEntry_le h_l, dle_refl _, trivial⟩ (ole_refl _)
    · cases h
  · cases h
theorem tok50 : TabOk Try.prog tab50 := TabOk.add (tok30) en50 so50

theorem en29 : Enters Try.prog 29 := ⟨_, Try.func29, rfl, rfl⟩
theorem so29 (args : List O) (p : Prop) (r : O) (h : e29 args = some (p, r)) (hp : p) : Sem Try.prog 29 args r := by
  unfold e29 at h
  split at h
  · split at h
    · rename_i h_l h_e
      cases h; exact (con29 (cok_of tok50 follows) _ _ hp).le ⟨decL_le decEntry_le h_l, decEntry_le h_e, trivial⟩ (ole_refl _)
    · cases h
  · cases h
theorem tok29 : TabOk Try.prog tab29 := TabOk.add (tok50) en29 so29

theorem en12 : Enters Try.prog 12 := ⟨_, Try.func12, rfl, rfl⟩
theorem so12 (args : List O) (p : Prop) (r : O) (h : e12 args = some (p, r)) (hp : p) : Sem Try.prog 12 args r := by
  unfold e12 at h
  split at h
  · split at h
    · rename_i h_l
      cases h; exact (con12 (cok_of tok29 follows) _ hp).le ⟨decL_le decEntry_le h_l, trivial⟩ (ole_refl _)
    · cases h
  · cases h
theorem tok12 : TabOk Try.prog tab12 := TabOk.add (tok29) en12 so12

theorem en32 : Enters Try.prog 32 := ⟨_, Try.func32, rfl, rfl⟩
theorem so32 (args : List O) (p : Prop) (r : O) (h : e32 args = some (p, r)) (hp : p) : Sem Try.prog 32 args r := by
  unfold e32 at h
  split at h
  · split at h
    · rename_i h_l
      cases h; exact (con32 (cok_of tok12 follows) _ hp).le ⟨decL_le decEntry_le h_l, trivial⟩ (ole_refl _)
    · cases h
  · cases h
theorem tok32 : TabOk Try.prog tab32 := TabOk.add (tok12) en32 so32

theorem en25 : Enters Try.prog 25 := ⟨_, Try.func25, rfl, rfl⟩
theorem so25 (args : List O) (p : Prop) (r : O) (h : e25 args = some (p, r)) (hp : p) : Sem Try.prog 25 args r := by
  unfold e25 at h
  split at h
  · split at h
    · rename_i h_l
      cases h; exact (con25 (cok_of tok32 follows) _ hp).le ⟨decL_le decEntry_le h_l, trivial⟩ (ole_refl _)
    · cases h
  · cases h
theorem tok25 : TabOk Try.prog tab25 := TabOk.add (tok32) en25 so25

theorem en9 : Enters Try.prog 9 := ⟨_, Try.func9, rfl, rfl⟩
theorem so9 (args : List O) (p : Prop) (r : O) (h : e9 args = some (p, r)) (hp : p) : Sem Try.prog 9 args r := by
  unfold e9 at h
  split at h
  · split at h
    · rename_i h_l
      cases h; exact (con9 (cok_of tok25 follows) _ hp).le ⟨decL_le decEntry_le h_l, trivial⟩ (ole_refl _)
    · cases h
  · cases h
theorem tok9 : TabOk Try.prog tab9 := TabOk.add (tok25) en9 so9

theorem en10 : Enters Try.prog 10 := ⟨_, Try.func10, rfl, rfl⟩
theorem so10 (args : List O) (p : Prop) (r : O) (h : e10 args = some (p, r)) (hp : p) : Sem Try.prog 10 args r := by
  unfold e10 at h
  split at h
  · split at h
    · rename_i h_l
      cases h; exact (con10 (cok_of tok9 follows) _ hp).le ⟨decL_le decEntry_le h_l, trivial⟩ (ole_refl _)
    · cases h
  · cases h
theorem tok10 : TabOk Try.prog tab10 := TabOk.add (tok9) en10 so10

theorem en11 : Enters Try.prog 11 := ⟨_, Try.func11, rfl, rfl⟩
theorem so11 (args : List O) (p : Prop) (r : O) (h : e11 args = some (p, r)) (hp : p) : Sem Try.prog 11 args r := by
  unfold e11 at h
  split at h
  · split at h
    · rename_i h_l
      cases h; exact (con11 (cok_of tok10 follows) _ hp).le ⟨decL_le decEntry_le h_l, trivial⟩ (ole_refl _)
    · cases h
  · cases h
theorem tok11 : TabOk Try.prog tab11 := TabOk.add (tok10) en11 so11

theorem en13 : Enters Try.prog 13 := ⟨_, Try.func13, rfl, rfl⟩
theorem so13 (args : List O) (p : Prop) (r : O) (h : e13 args = some (p, r)) (hp : p) : Sem Try.prog 13 args r := by
  unfold e13 at h
  split at h
  · split at h
    · rename_i h_a h_b
      cases h; exact (con13 (cok_of tok11 follows) _ _ hp).le ⟨decL_le decAUnit_le h_a, decL_le decAUnit_le h_b, trivial⟩ (ole_refl _)
    · cases h
  · cases h
theorem tok13 : TabOk Try.prog tab13 := TabOk.add (tok11) en13 so13

theorem en17 : Enters Try.prog 17 := ⟨_, Try.func17, rfl, rfl⟩
theorem so17 (args : List O) (p : Prop) (r : O) (h : e17 args = some (p, r)) (hp : p) : Sem Try.prog 17 args r := by
  unfold e17 at h
  split at h
  · split at h
    · rename_i h_a h_b
      cases h; exact (con17 (cok_of tok13 follows) _ _ hp).le ⟨decL_le decS_le h_a, decL_le decS_le h_b, trivial⟩ (ole_refl _)
    · cases h
  · cases h
theorem tok17 : TabOk Try.prog tab17 := TabOk.add (tok13) en17 so17

theorem en14 : Enters Try.prog 14 := ⟨_, Try.func14, rfl, rfl⟩
theorem so14 (args : List O) (p : Prop) (r : O) (h : e14 args = some (p, r)) (hp : p) : Sem Try.prog 14 args r := by
  unfold e14 at h
  split at h
  · split at h
    · rename_i h_l
      cases h; exact (con14 (cok_of tok17 follows) _ hp).le ⟨decL_le decEntry_le h_l, trivial⟩ (ole_refl _)
    · cases h
  · cases h
theorem tok14 : TabOk Try.prog tab14 := TabOk.add (tok17) en14 so14

theorem en31 : Enters Try.prog 31 := ⟨_, Try.func31, rfl, rfl⟩
theorem so31 (args : List O) (p : Prop) (r : O) (h : e31 args = some (p, r)) (hp : p) : Sem Try.prog 31 args r := by
  unfold e31 at h
  split at h
  · cases h; exact con31 (cok_of tok14 follows) _
  · cases h
theorem tok31 : TabOk Try.prog tab31 := TabOk.add (tok14) en31 so31

theorem en15 : Enters Try.prog 15 := ⟨_, Try.func15, rfl, rfl⟩
theorem so15 (args : List O) (p : Prop) (r : O) (h : e15 args = some (p, r)) (hp : p) : Sem Try.prog 15 args r := by
  unfold e15 at h
  split at h
  · split at h
    · rename_i h_l
      cases h; exact (con15 (cok_of tok31 follows) _ _ _ hp).le ⟨decL_le decEntry_le h_l, dle_refl _, dle_refl _, trivial⟩ (ole_refl _)
    · cases h
  · cases h
theorem tok15 : TabOk Try.prog tab15 := TabOk.add (tok31) en15 so15

theorem en16 : Enters Try.prog 16 := ⟨_, Try.func16, rfl, rfl⟩
theorem so16 (args : List O) (p : Prop) (r : O) (h : e16 args = some (p, r)) (hp : p) : Sem Try.prog 16 args r := by
  unfold e16 at h
  split at h
  · split at h
    · rename_i h_l
      cases h; exact (con16 (cok_of tok15 follows) _ _ _ hp).le ⟨decL_le decEntry_le h_l, dle_refl _, dle_refl _, trivial⟩ (ole_refl _)
    · cases h
  · cases h
theorem tok16 : TabOk Try.prog tab16 := TabOk.add (tok15) en16 so16

theorem en7 : Enters Try.prog 7 := ⟨_, Try.func7, rfl, rfl⟩
theorem so7 (args : List O) (p : Prop) (r : O) (h : e7 args = some (p, r)) (hp : p) : Sem Try.prog 7 args r := by
  unfold e7 at h
  split at h
  · cases h; exact con7 (cok_of tok16 follows) 
  · cases h
theorem tok7 : TabOk Try.prog tab7 := TabOk.add (tok16) en7 so7

theorem en3 : Enters Try.prog 3 := ⟨_, Try.func3, rfl, rfl⟩
theorem so3 (args : List O) (p : Prop) (r : O) (h : e3 args = some (p, r)) (hp : p) : Sem Try.prog 3 args r := by
  unfold e3 at h
  split at h
  · split at h
    · rename_i h_l
      cases h; exact (con3 (cok_of tok7 follows) _).le ⟨decL_le decEntry_le h_l, trivial⟩ (ole_refl _)
    · cases h
  · cases h
theorem tok3 : TabOk Try.prog tab3 := TabOk.add (tok7) en3 so3

theorem en4 : Enters Try.prog 4 := ⟨_, Try.func4, rfl, rfl⟩
theorem so4 (args : List O) (p : Prop) (r : O) (h : e4 args = some (p, r)) (hp : p) : Sem Try.prog 4 args r := by
  unfold e4 at h
  split at h
  · split at h
    · rename_i h_l
      cases h; exact (con4 (cok_of tok3 follows) _ _ _).le ⟨decL_le decEntry_le h_l, dle_refl _, dle_refl _, trivial⟩ (ole_refl _)
    · cases h
  · cases h
theorem tok4 : TabOk Try.prog tab4 := TabOk.add (tok3) en4 so4

end Go.Ev

namespace Go.Ev
open Go.ChangeShapes Go.WideShapes Go.ChangeAt Go.RowKit

/-! ## What comes in from outside reads as typed data -/
section
variable {H : Type} {enc : TypeId × Value → H} {P : Program} {w : World} {sp : Nat → Bool} {held : Bool}

/-- Cells read as data of one cell each. -/
def RDs (w : World) (cs : List Value) (ds : List D) : Prop := cs.length = ds.length ∧ ∀ (j : Nat) (v : Value) (d : D), cs[j]? = some v → ds[j]? = some d → RD w (fun _ => False) v d ∧ d.one = true

theorem RDs.nil : RDs w [] [] := ⟨rfl, fun j v d h => by simp at h⟩
theorem RDs.one {v : Value} {d : D} (h : RD w (fun _ => False) v d) (h1 : d.one = true) : RDs w [v] [d] := ⟨rfl, fun j u e hj he => by
  match j with
  | 0 => simp at hj he; subst hj; subst he; exact ⟨h, h1⟩
  | j + 1 => simp at hj⟩
theorem RDs.append {a b : List Value} {x y : List D} (h : RDs w a x) (k : RDs w b y) : RDs w (a ++ b) (x ++ y) := by
  refine ⟨by rw [List.length_append, List.length_append, h.1, k.1], fun j v d hj hd => ?_⟩
  by_cases hl : j < a.length
  · rw [List.getElem?_append_left hl] at hj
    rw [List.getElem?_append_left (by rw [← h.1]; exact hl)] at hd
    exact h.2 j v d hj hd
  · rw [List.getElem?_append_right (by omega)] at hj
    rw [List.getElem?_append_right (by rw [← h.1]; omega)] at hd
    rw [h.1] at hj
    exact k.2 _ v d hj hd

theorem read_int {t : TypeId} {k : IntKind} (ht : P.underlying t = some (.int k)) {fuel : Nat} {cs : List Value} {x : DataW H × List MemPlace} (h : DataW.trod enc P w 0 sp held fuel t cs = some x) :
    ∃ n, (Lit.int k n).wf = true ∧ RDs w cs [.i k n] := by
  obtain ⟨n, rfl, _, hw⟩ := DataW.trod_int ht h
  exact ⟨n, hw, RDs.one (.i k n) rfl⟩
theorem read_bool {t : TypeId} (ht : P.underlying t = some .bool) {fuel : Nat} {cs : List Value} {x : DataW H × List MemPlace} (h : DataW.trod enc P w 0 sp held fuel t cs = some x) :
    ∃ b, RDs w cs [.b b] := by
  obtain ⟨n, rfl, _⟩ := DataW.trod_bool ht h
  exact ⟨n, RDs.one (.b n) rfl⟩
theorem read_string {t : TypeId} (ht : P.underlying t = some .string) {fuel : Nat} {cs : List Value} {x : DataW H × List MemPlace} (h : DataW.trod enc P w 0 sp held fuel t cs = some x) :
    ∃ s : ByteArray, s.size ≤ maxLen ∧ RDs w cs [.s s] := by
  obtain ⟨n, rfl, _, hs⟩ := DataW.trod_string ht h
  exact ⟨n, hs, RDs.one (.s n) rfl⟩

theorem cell_spot {a : Addr} {v : Value} (h : w.cell? a = some v) : a.spot = none := by
  unfold World.cell? at h
  split at h
  · split at h
    · cases h
    · rename_i hs; simpa using hs
  · cases h

theorem read_slice {t e : TypeId} {α : Type} {encf : α → D} {Ok : α → Prop} {sz : Nat} (ht : P.underlying t = some (.slice e)) (hsz : P.cellsOf e = sz) (h0 : 0 < sz) (hc : ∀ r, (encf r).cells.length = sz)
    (he : ∀ (fuel : Nat) (cs : List Value) (x : DataW H × List MemPlace), DataW.trod enc P w 0 sp held fuel e cs = some x → ∃ r, Ok r ∧ RDs w cs (encf r).cells)
    {fuel : Nat} {cs : List Value} {x : DataW H × List MemPlace} (h : DataW.trod enc P w 0 sp held fuel t cs = some x) :
    ∃ l : List α, (∀ r ∈ l, Ok r) ∧ l.length ≤ maxLen ∧ RDs w cs [.sl sz (l.map encf)] := by
  rcases DataW.trod_slice ht h with ⟨rfl, _⟩ | ⟨a, len, cap, elems, rest, n, rfl, rfl, _, _, hlc, hcm, hel, hg, _, _⟩
  · exact ⟨[], by simp, Nat.zero_le _, RDs.one (.sl0 sz) rfl⟩
  · have key : ∀ i, i < len → ∃ r, Ok r ∧ ∃ cs', w.cells? 0 (a.add (i * sz)) sz = some cs' ∧ RDs w cs' (encf r).cells := fun i hi => by
      have h1 := hg i hi
      rw [hsz, List.getElem?_eq_getElem (by omega), Option.bind_eq_some_iff] at h1
      obtain ⟨cs', h2, h3⟩ := h1
      obtain ⟨r, hr, hd⟩ := he _ _ _ h3
      exact ⟨r, hr, cs', h2, hd⟩
    let f : ∀ i, i < len → α := fun i hi => Classical.choose (key i hi)
    have hf1 : ∀ i hi, Ok (f i hi) := fun i hi => (Classical.choose_spec (key i hi)).1
    have hf2 : ∀ i hi, ∃ cs', w.cells? 0 (a.add (i * sz)) sz = some cs' ∧ RDs w cs' (encf (f i hi)).cells := fun i hi => (Classical.choose_spec (key i hi)).2
    clear_value f
    have hspot : 0 < len → a.spot = none := fun hl => by
      obtain ⟨cs', h3, _⟩ := hf2 0 hl
      obtain ⟨_, h5, h6⟩ := World.cells?_some h3
      have h9 := h6 0 h0
      rw [List.getElem?_eq_getElem (by omega)] at h9
      have := cell_spot h9
      simpa [Addr.add] using this
    let l : List α := List.ofFn fun i : Fin len => f i.1 i.2
    have hll : l.length = len := by simp [l]
    have hli : ∀ i (hi : i < len), l[i]? = some (f i hi) := fun i hi => by simp [l, hi]
    have hfl : (flat (l.map encf)).length = len * sz := by
      rw [flat_length (sz := sz) (fun d hd => by
        obtain ⟨r, _, rfl⟩ := List.mem_map.1 hd
        exact hc r), List.length_map, hll]
    have hcell : ∀ (k : Nat) (d : D), (flat (l.map encf))[k]? = some d → a.spot = none ∧ ∃ v, w.cell? ⟨a.block, a.off + k, none⟩ = some v ∧ RD w (fun _ => False) v d ∧ d.one = true := fun k d hk => by
      have hk1 : k < len * sz := by rw [← hfl]; exact (List.getElem?_eq_some_iff.1 hk).1
      have hi : k / sz < len := Nat.div_lt_of_lt_mul (by rwa [Nat.mul_comm])
      have hm : k % sz < sz := Nat.mod_lt _ h0
      have hkk : k / sz * sz + k % sz = k := by rw [Nat.mul_comm]; exact Nat.div_add_mod k sz
      have hj : (l.map encf)[k / sz]? = some (encf (f (k / sz) hi)) := by rw [List.getElem?_map, hli _ hi]; rfl
      have h2 := flat_get (sz := sz) (fun d hd => by
        obtain ⟨r, _, rfl⟩ := List.mem_map.1 hd
        exact hc r) hj hm
      rw [hkk, hk] at h2
      obtain ⟨cs', h3, h4⟩ := hf2 (k / sz) hi
      obtain ⟨_, h5, h6⟩ := World.cells?_some h3
      have h7 := h6 (k % sz) hm
      have hlt : k % sz < cs'.length := by omega
      rw [List.getElem?_eq_getElem hlt] at h7
      have h8 := h4.2 (k % sz) _ d (List.getElem?_eq_getElem hlt) h2.symm
      have hsp : a.spot = none := hspot (Nat.lt_of_le_of_lt (Nat.zero_le _) hi)
      refine ⟨hsp, _, ?_, h8⟩
      rw [← h7]
      congr 1
      obtain ⟨b, o, s⟩ := a
      simp only at hsp
      subst hsp
      unfold Addr.add
      (repeat' split) <;> simp <;> omega
    refine ⟨l, fun r hr => ?_, by omega, RDs.one ?_ rfl⟩
    · obtain ⟨i, hi⟩ := List.mem_ofFn.1 hr
      rw [← hi]; exact hf1 _ _
    · have hlm : len = (l.map encf).length := by simp [hll]
      rw [hlm]
      refine .sl a cap sz (l.map encf) (fun k => (w.cell? ⟨a.block, a.off + k, none⟩).getD default) (by omega) h0 (fun d hd => ?_) (fun hl => ⟨hspot ?_, fun hx => hx⟩) (fun k d hk => ?_) (fun k d hk => ?_)
      · obtain ⟨r, hr, rfl⟩ := List.mem_map.1 hd
        refine ⟨hc r, fun c hcm => ?_⟩
        obtain ⟨i, hi⟩ := List.mem_ofFn.1 hr
        obtain ⟨cs', _, h4⟩ := hf2 i.1 i.2
        rw [← hi] at hcm
        obtain ⟨j, hj, hjc⟩ := List.getElem_of_mem hcm
        have hlt : j < cs'.length := by rw [h4.1]; exact hj
        exact (h4.2 j _ c (List.getElem?_eq_getElem hlt) (by rw [List.getElem?_eq_getElem hj, hjc])).2
      · rcases Nat.eq_zero_or_pos len with e | e
        · exact absurd (List.length_eq_zero_iff.1 (by omega)) hl
        · exact e
      · obtain ⟨_, v, hv, _⟩ := hcell k d hk
        rw [hv]; rfl
      · obtain ⟨_, v, hv, h1, _⟩ := hcell k d hk
        rw [hv]; exact h1
theorem RDs.join {cs : List Value} {o n m : Nat} {a b : List D} (h : RDs w ((cs.drop o).take n) a) (k : RDs w (cs.drop m) b) (hm : o + n = m) : RDs w (cs.drop o) (a ++ b) := by
  subst hm
  have := RDs.append h k
  rwa [← List.drop_drop, List.take_append_drop] at this
theorem RDs.single {v : Value} {d : D} (h : RDs w [v] [d]) : RD w (fun _ => False) v d := (h.2 0 v d rfl rfl).1
theorem RDs.whole {cs : Array Value} {l : List D} (h : RDs w cs.toList l) : RD w (fun _ => False) (.agg cs) (.agg l) :=
  .agg cs l (by simpa using h.1) fun j v d hj hd => (h.2 j v d (by simpa using hj) hd).1
theorem RDs.last {cs : List Value} {n : Nat} (h : cs.length = n) : RDs w (cs.drop n) [] := by
  rw [List.drop_of_length_le (by omega)]; exact .nil
theorem cellsOf_of {t n : Nat} (h : sizeT P t = some n) : P.cellsOf t = n := by
  unfold sizeT at h
  unfold Program.cellsOf
  rw [h]; rfl
theorem at_field {α : Type} {xs : List α} {n i : Nat} (h : xs.length = n) (hi : i < n) : ∃ y, xs[i]? = some y := ⟨xs[i]'(by omega), by simp⟩
end

/-- A call by data alone. -/
theorem sem_calls {P : Program} {f : FuncId} {ds : List D} {vs : Array Value} {w : World} (h : Sem P f (ds.map .d) (.d (.b true))) (hn : vs.size = ds.length)
    (hr : ∀ (j : Nat) (v : Value) (d : D), vs[j]? = some v → ds[j]? = some d → RD w (fun _ => False) v d) :
    Calls P f vs w fun e w' => e = .returned (.bool true) ∧ Below w.heap.size w w' := by
  refine (h w vs (fun _ => False) [] (fun _ hf => hf.elim) (fun i j b hi => by simp at hi) (fun _ _ hf => hf) ⟨by simpa using hn, List.replicate ds.length [], by simp, by simp, fun j v o q hv ho hq => ?_⟩).mono fun e w' ⟨v, u, os', he, hret, hro, _, _, hfr⟩ => ?_
  · rw [List.getElem?_replicate] at hq
    split at hq
    · cases hq
      rw [List.getElem?_map, Option.map_eq_some_iff] at ho
      obtain ⟨d, hd, rfl⟩ := ho
      exact .d v d ((hr j v d hv hd).mono fun b hb => by
        rcases hb with hb | hb
        · exact hb
        · unfold Blk at hb; simp at hb)
    · cases hq
  · subst he
    have hb : ∀ (ds : List D) (vs : List Value), bxPtrs (ds.map O.d) vs = [] := fun ds => by
      induction ds with
      | nil => intro vs; cases vs <;> rfl
      | cons d ds ih => intro vs; cases vs with
        | nil => rfl
        | cons v vs => exact ih vs
    unfold Ret at hret
    rw [hb] at hret
    simp only at hret
    subst hret
    have hv : u = .bool true := by
      cases hro with
      | d _ _ h => cases h; rfl
    subst hv
    exact ⟨rfl, hfr.os, hfr.tape, hfr.output, hfr.ext.size, fun k hk => hfr.ext.same k hk (by unfold Blk; simp)⟩
end Go.Ev

namespace Go.Ev
open Go.ChangeShapes Go.WideShapes Go.ChangeAt Go.RowKit Go.Proofs
section
variable {H : Type} {enc : TypeId × Value → H} {P : Program} {w : World} {sp : Nat → Bool} {held : Bool}
theorem rdI {t : TypeId} {k : IntKind} (ht : P.underlying t = some (.int k)) {fuel : Nat} {cs : List Value} {x : DataW H × List MemPlace} (h : DataW.trod enc P w 0 sp held fuel t cs = some x) : ∃ n : Int, True ∧ RDs w cs [.i k n] :=
  let ⟨n, _, h⟩ := read_int ht h; ⟨n, trivial, h⟩
theorem rdB {t : TypeId} (ht : P.underlying t = some .bool) {fuel : Nat} {cs : List Value} {x : DataW H × List MemPlace} (h : DataW.trod enc P w 0 sp held fuel t cs = some x) : ∃ n : Bool, True ∧ RDs w cs [.b n] :=
  let ⟨n, h⟩ := read_bool ht h; ⟨n, trivial, h⟩
theorem rdS {t : TypeId} (ht : P.underlying t = some .string) {fuel : Nat} {cs : List Value} {x : DataW H × List MemPlace} (h : DataW.trod enc P w 0 sp held fuel t cs = some x) : ∃ n : ByteArray, True ∧ RDs w cs [.s n] :=
  let ⟨n, _, h⟩ := read_string ht h; ⟨n, trivial, h⟩
theorem rdL {t e : TypeId} {α : Type} {encf : α → D} {sz : Nat} (ht : P.underlying t = some (.slice e)) (hsz : P.cellsOf e = sz) (h0 : 0 < sz) (hc : ∀ r, (encf r).cells.length = sz)
    (he : ∀ (fuel : Nat) (cs : List Value) (x : DataW H × List MemPlace), DataW.trod enc P w 0 sp held fuel e cs = some x → ∃ r, True ∧ RDs w cs (encf r).cells)
    {fuel : Nat} {cs : List Value} {x : DataW H × List MemPlace} (h : DataW.trod enc P w 0 sp held fuel t cs = some x) : ∃ l : List α, True ∧ RDs w cs [.sl sz (l.map encf)] :=
  let ⟨l, _, _, h⟩ := read_slice (Ok := fun _ => True) ht hsz h0 hc he h; ⟨l, trivial, h⟩

theorem read_Change {fuel : Nat} {cs : List Value} {x : DataW H × List MemPlace} (h : DataW.trod enc Try.prog w 0 sp held fuel 49 cs = some x) : ∃ r : Change, True ∧ RDs w cs (encChange r).cells := by
  obtain ⟨xs, n, _, _, hl, hx, hf⟩ := DataW.trod_struct Try.underlying49 h
  rw [cellsOf_of Ty.sz49] at hl
  obtain ⟨y0, hy0⟩ := at_field hx (i := 0) (by decide)
  have f0 : DataW.trod enc Try.prog w 0 sp held n 9 ((cs.drop 0).take (Try.prog.cellsOf 9)) = xs[0]? := hf 0 _ rfl
  rw [cellsOf_of Ty.sz9, hy0] at f0
  obtain ⟨a0, _, d0⟩ := rdS Try.underlying9 f0
  obtain ⟨y1, hy1⟩ := at_field hx (i := 1) (by decide)
  have f1 : DataW.trod enc Try.prog w 0 sp held n 3 ((cs.drop 1).take (Try.prog.cellsOf 3)) = xs[1]? := hf 1 _ rfl
  rw [cellsOf_of Ty.sz3, hy1] at f1
  obtain ⟨a1, _, d1⟩ := rdI (k := .i64) Try.underlying3 f1
  obtain ⟨y2, hy2⟩ := at_field hx (i := 2) (by decide)
  have f2 : DataW.trod enc Try.prog w 0 sp held n 3 ((cs.drop 2).take (Try.prog.cellsOf 3)) = xs[2]? := hf 2 _ rfl
  rw [cellsOf_of Ty.sz3, hy2] at f2
  obtain ⟨a2, _, d2⟩ := rdI (k := .i64) Try.underlying3 f2
  obtain ⟨y3, hy3⟩ := at_field hx (i := 3) (by decide)
  have f3 : DataW.trod enc Try.prog w 0 sp held n 9 ((cs.drop 3).take (Try.prog.cellsOf 9)) = xs[3]? := hf 3 _ rfl
  rw [cellsOf_of Ty.sz9, hy3] at f3
  obtain ⟨a3, _, d3⟩ := rdS Try.underlying9 f3
  obtain ⟨y4, hy4⟩ := at_field hx (i := 4) (by decide)
  have f4 : DataW.trod enc Try.prog w 0 sp held n 9 ((cs.drop 4).take (Try.prog.cellsOf 9)) = xs[4]? := hf 4 _ rfl
  rw [cellsOf_of Ty.sz9, hy4] at f4
  obtain ⟨a4, _, d4⟩ := rdS Try.underlying9 f4
  exact ⟨⟨a0, a1, a2, a3, a4⟩, trivial, (RDs.join d0 (RDs.join d1 (RDs.join d2 (RDs.join d3 (RDs.join d4 (RDs.last hl) rfl) rfl) rfl) rfl) rfl)⟩
theorem read_Entry {fuel : Nat} {cs : List Value} {x : DataW H × List MemPlace} (h : DataW.trod enc Try.prog w 0 sp held fuel 51 cs = some x) : ∃ r : Entry, True ∧ RDs w cs (encEntry r).cells := by
  obtain ⟨xs, n, _, _, hl, hx, hf⟩ := DataW.trod_struct Try.underlying51 h
  rw [cellsOf_of Ty.sz51] at hl
  obtain ⟨y0, hy0⟩ := at_field hx (i := 0) (by decide)
  have f0 : DataW.trod enc Try.prog w 0 sp held n 3 ((cs.drop 0).take (Try.prog.cellsOf 3)) = xs[0]? := hf 0 _ rfl
  rw [cellsOf_of Ty.sz3, hy0] at f0
  obtain ⟨a0, _, d0⟩ := rdI (k := .i64) Try.underlying3 f0
  obtain ⟨y1, hy1⟩ := at_field hx (i := 1) (by decide)
  have f1 : DataW.trod enc Try.prog w 0 sp held n 3 ((cs.drop 1).take (Try.prog.cellsOf 3)) = xs[1]? := hf 1 _ rfl
  rw [cellsOf_of Ty.sz3, hy1] at f1
  obtain ⟨a1, _, d1⟩ := rdI (k := .i64) Try.underlying3 f1
  obtain ⟨y2, hy2⟩ := at_field hx (i := 2) (by decide)
  have f2 : DataW.trod enc Try.prog w 0 sp held n 3 ((cs.drop 2).take (Try.prog.cellsOf 3)) = xs[2]? := hf 2 _ rfl
  rw [cellsOf_of Ty.sz3, hy2] at f2
  obtain ⟨a2, _, d2⟩ := rdI (k := .i64) Try.underlying3 f2
  obtain ⟨y3, hy3⟩ := at_field hx (i := 3) (by decide)
  have f3 : DataW.trod enc Try.prog w 0 sp held n 49 ((cs.drop 3).take (Try.prog.cellsOf 49)) = xs[3]? := hf 3 _ rfl
  rw [cellsOf_of Ty.sz49, hy3] at f3
  obtain ⟨a3, _, d3⟩ := read_Change f3
  exact ⟨⟨a0, a1, a2, a3⟩, trivial, (RDs.join d0 (RDs.join d1 (RDs.join d2 (RDs.join d3 (RDs.last hl) rfl) rfl) rfl) rfl)⟩
end
end Go.Ev
