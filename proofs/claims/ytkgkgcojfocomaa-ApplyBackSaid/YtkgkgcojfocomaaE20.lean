/- Tools and contracts under the laws of this seat: DxT, DevRead, DevReadT35. -/
import Derived.Test.YtkgkgcojfocomaaE09
import Derived.Test.YtkgkgcojfocomaaE10
import Derived.Test.YtkgkgcojfocomaaE11
import Derived.Test.YtkgkgcojfocomaaE13
import Derived.Test.YtkgkgcojfocomaaE14
import Derived.Test.YtkgkgcojfocomaaE15
import Derived.Test.YtkgkgcojfocomaaE16
import Derived.Test.YtkgkgcojfocomaaE17
import Derived.Test.YtkgkgcojfocomaaE18
import Derived.Test.YtkgkgcojfocomaaE19
import Derived.Test.YtkgkgcojfocomaaE02
import Derived.ProofKit
import Derived.ChangeArms
import Derived.Test.YtkgkgcojfocomaaE03
import Derived.Test.YtkgkgcojfocomaaE05
set_option linter.unusedVariables false
set_option linter.unusedSimpArgs false
namespace Go.Ev
open Go.Proofs Ty
set_option maxRecDepth 10000
set_option maxHeartbeats 4000000
set_option linter.unusedSimpArgs false
set_option linter.unusedVariables false
theorem en34 : Enters Try.prog 34 := ⟨_, Try.func34, rfl, rfl⟩
theorem so34 (args : List O) (p : Prop) (r : O) (h : e34 args = some (p, r)) (hp : p) : Sem Try.prog 34 args r := by
  unfold e34 at h
  split at h
  · cases h; exact con34 (cok_of (TabOk.nil _) follows) _ _ _
  · cases h
theorem tok34 : TabOk Try.prog tab34 := TabOk.add ((TabOk.nil _)) en34 so34
theorem en65 : Enters Try.prog 65 := ⟨_, Try.func65, rfl, rfl⟩
theorem so65 (args : List O) (p : Prop) (r : O) (h : e65 args = some (p, r)) (hp : p) : Sem Try.prog 65 args r := by
  unfold e65 at h
  split at h
  · cases h; exact con65 (cok_of tok34 follows) _ _ _
  · cases h
theorem tok65 : TabOk Try.prog tab65 := TabOk.add (tok34) en65 so65
theorem en47 : Enters Try.prog 47 := ⟨_, Try.func47, rfl, rfl⟩
theorem so47 (args : List O) (p : Prop) (r : O) (h : e47 args = some (p, r)) (hp : p) : Sem Try.prog 47 args r := by
  unfold e47 at h
  split at h
  · cases h; exact con47 (cok_of tok65 follows) _
  · cases h
theorem tok47 : TabOk Try.prog tab47 := TabOk.add (tok65) en47 so47
theorem en52 : Enters Try.prog 52 := ⟨_, Try.func52, rfl, rfl⟩
theorem so52 (args : List O) (p : Prop) (r : O) (h : e52 args = some (p, r)) (hp : p) : Sem Try.prog 52 args r := by
  unfold e52 at h
  split at h
  · cases h; exact con52 (cok_of tok47 follows) _
  · cases h
theorem tok52 : TabOk Try.prog tab52 := TabOk.add (tok47) en52 so52
theorem en53 : Enters Try.prog 53 := ⟨_, Try.func53, rfl, rfl⟩
theorem so53 (args : List O) (p : Prop) (r : O) (h : e53 args = some (p, r)) (hp : p) : Sem Try.prog 53 args r := by
  unfold e53 at h
  split at h
  · cases h; exact con53 (cok_of tok52 follows) _
  · cases h
theorem tok53 : TabOk Try.prog tab53 := TabOk.add (tok52) en53 so53
theorem en33 : Enters Try.prog 33 := ⟨_, Try.func33, rfl, rfl⟩
theorem so33 (args : List O) (p : Prop) (r : O) (h : e33 args = some (p, r)) (hp : p) : Sem Try.prog 33 args r := by
  unfold e33 at h
  split at h
  · cases h; exact con33 (cok_of tok53 follows) _
  · cases h
theorem tok33 : TabOk Try.prog tab33 := TabOk.add (tok53) en33 so33
theorem en66 : Enters Try.prog 66 := ⟨_, Try.func66, rfl, rfl⟩
theorem so66 (args : List O) (p : Prop) (r : O) (h : e66 args = some (p, r)) (hp : p) : Sem Try.prog 66 args r := by
  unfold e66 at h
  split at h
  · cases h; exact con66 (cok_of tok33 follows) _
  · cases h
theorem tok66 : TabOk Try.prog tab66 := TabOk.add (tok33) en66 so66
theorem en49 : Enters Try.prog 49 := ⟨_, Try.func49, rfl, rfl⟩
theorem so49 (args : List O) (p : Prop) (r : O) (h : e49 args = some (p, r)) (hp : p) : Sem Try.prog 49 args r := by
  unfold e49 at h
  split at h
  · split at h
    · rename_i h_c
      cases h; exact (con49 (cok_of tok66 follows) _).le ⟨decChange_le h_c, trivial⟩ (ole_refl _)
    · cases h
  · cases h
theorem tok49 : TabOk Try.prog tab49 := TabOk.add (tok66) en49 so49
theorem en48 : Enters Try.prog 48 := ⟨_, Try.func48, rfl, rfl⟩
theorem so48 (args : List O) (p : Prop) (r : O) (h : e48 args = some (p, r)) (hp : p) : Sem Try.prog 48 args r := by
  unfold e48 at h
  split at h
  · split at h
    · rename_i h_e
      cases h; exact (con48 (cok_of tok49 follows) _).le ⟨decEntry_le h_e, trivial⟩ (ole_refl _)
    · cases h
  · cases h
theorem tok48 : TabOk Try.prog tab48 := TabOk.add (tok49) en48 so48
theorem en28 : Enters Try.prog 28 := ⟨_, Try.func28, rfl, rfl⟩
theorem so28 (args : List O) (p : Prop) (r : O) (h : e28 args = some (p, r)) (hp : p) : Sem Try.prog 28 args r := by
  unfold e28 at h
  split at h
  · split at h
    · rename_i h_e
      cases h; exact (con28 (cok_of tok48 follows) _).le ⟨decEntry_le h_e, trivial⟩ (ole_refl _)
    · cases h
  · cases h
theorem tok28 : TabOk Try.prog tab28 := TabOk.add (tok48) en28 so28
theorem en44 : Enters Try.prog 44 := ⟨_, Try.func44, rfl, rfl⟩
theorem so44 (args : List O) (p : Prop) (r : O) (h : e44 args = some (p, r)) (hp : p) : Sem Try.prog 44 args r := by
  unfold e44 at h
  split at h
  · split at h
    · rename_i h_e
      cases h; exact (con44 (cok_of tok28 follows) _).le ⟨decEntry_le h_e, trivial⟩ (ole_refl _)
    · cases h
  · cases h
theorem tok44 : TabOk Try.prog tab44 := TabOk.add (tok28) en44 so44
theorem en8 : Enters Try.prog 8 := ⟨_, Try.func8, rfl, rfl⟩
theorem so8 (args : List O) (p : Prop) (r : O) (h : e8 args = some (p, r)) (hp : p) : Sem Try.prog 8 args r := by
  unfold e8 at h
  split at h
  · split at h
    · rename_i h_l
      cases h; exact (con8 (cok_of tok44 follows) _).le ⟨decL_le decEntry_le h_l, trivial⟩ (ole_refl _)
    · cases h
  · cases h
theorem tok8 : TabOk Try.prog tab8 := TabOk.add (tok44) en8 so8
theorem en51 : Enters Try.prog 51 := ⟨_, Try.func51, rfl, rfl⟩
theorem so51 (args : List O) (p : Prop) (r : O) (h : e51 args = some (p, r)) (hp : p) : Sem Try.prog 51 args r := by
  unfold e51 at h
  split at h
  · split at h
    · rename_i h_l
      cases h; exact (con51 (cok_of tok8 follows) _ _ hp).le ⟨decL_le decEntry_le h_l, dle_refl _, trivial⟩ (ole_refl _)
    · cases h
  · cases h
theorem tok51 : TabOk Try.prog tab51 := TabOk.add (tok8) en51 so51
theorem en30 : Enters Try.prog 30 := ⟨_, Try.func30, rfl, rfl⟩
theorem so30 (args : List O) (p : Prop) (r : O) (h : e30 args = some (p, r)) (hp : p) : Sem Try.prog 30 args r := by
  unfold e30 at h
  split at h
  · split at h
    · rename_i h_l
      cases h; exact (con30 (cok_of tok51 follows) _ _ hp).le ⟨decL_le decEntry_le h_l, dle_refl _, trivial⟩ (ole_refl _)
    · cases h
  · cases h
theorem tok30 : TabOk Try.prog tab30 := TabOk.add (tok51) en30 so30
theorem en50 : Enters Try.prog 50 := ⟨_, Try.func50, rfl, rfl⟩
theorem so50 (args : List O) (p : Prop) (r : O) (h : e50 args = some (p, r)) (hp : p) : Sem Try.prog 50 args r := by
  unfold e50 at h
  split at h
  · split at h
    · rename_i h_l
      cases h; exact (con50 (cok_of tok30 follows) _ _ hp).le ⟨decL_le decEntry_le h_l, dle_refl _, trivial⟩ (ole_refl _)
    · cases h
  · cases h
theorem tok50 : TabOk Try.prog tab50 := TabOk.add (tok30) en50 so50
theorem en29 : Enters Try.prog 29 := ⟨_, Try.func29, rfl, rfl⟩
theorem so29 (args : List O) (p : Prop) (r : O) (h : e29 args = some (p, r)) (hp : p) : Sem Try.prog 29 args r := by
  unfold e29 at h
  split at h
  · split at h
    · rename_i h_l h_e
      cases h; exact (con29 (cok_of tok50 follows) _ _ hp).le ⟨decL_le decEntry_le h_l, decEntry_le h_e, trivial⟩ (ole_refl _)
    · cases h
  · cases h
theorem tok29 : TabOk Try.prog tab29 := TabOk.add (tok50) en29 so29
theorem en12 : Enters Try.prog 12 := ⟨_, Try.func12, rfl, rfl⟩
theorem so12 (args : List O) (p : Prop) (r : O) (h : e12 args = some (p, r)) (hp : p) : Sem Try.prog 12 args r := by
  unfold e12 at h
  split at h
  · split at h
    · rename_i h_l
      cases h; exact (con12 (cok_of tok29 follows) _ hp).le ⟨decL_le decEntry_le h_l, trivial⟩ (ole_refl _)
    · cases h
  · cases h
theorem tok12 : TabOk Try.prog tab12 := TabOk.add (tok29) en12 so12
theorem en32 : Enters Try.prog 32 := ⟨_, Try.func32, rfl, rfl⟩
theorem so32 (args : List O) (p : Prop) (r : O) (h : e32 args = some (p, r)) (hp : p) : Sem Try.prog 32 args r := by
  unfold e32 at h
  split at h
  · split at h
    · rename_i h_l
      cases h; exact (con32 (cok_of tok12 follows) _ hp).le ⟨decL_le decEntry_le h_l, trivial⟩ (ole_refl _)
    · cases h
  · cases h
theorem tok32 : TabOk Try.prog tab32 := TabOk.add (tok12) en32 so32
theorem en25 : Enters Try.prog 25 := ⟨_, Try.func25, rfl, rfl⟩
theorem so25 (args : List O) (p : Prop) (r : O) (h : e25 args = some (p, r)) (hp : p) : Sem Try.prog 25 args r := by
  unfold e25 at h
  split at h
  · split at h
    · rename_i h_l
      cases h; exact (con25 (cok_of tok32 follows) _ hp).le ⟨decL_le decEntry_le h_l, trivial⟩ (ole_refl _)
    · cases h
  · cases h
theorem tok25 : TabOk Try.prog tab25 := TabOk.add (tok32) en25 so25
theorem en9 : Enters Try.prog 9 := ⟨_, Try.func9, rfl, rfl⟩
theorem so9 (args : List O) (p : Prop) (r : O) (h : e9 args = some (p, r)) (hp : p) : Sem Try.prog 9 args r := by
  unfold e9 at h
  split at h
  · split at h
    · rename_i h_l
      cases h; exact (con9 (cok_of tok25 follows) _ hp).le ⟨decL_le decEntry_le h_l, trivial⟩ (ole_refl _)
    · cases h
  · cases h
theorem tok9 : TabOk Try.prog tab9 := TabOk.add (tok25) en9 so9
theorem en10 : Enters Try.prog 10 := ⟨_, Try.func10, rfl, rfl⟩
theorem so10 (args : List O) (p : Prop) (r : O) (h : e10 args = some (p, r)) (hp : p) : Sem Try.prog 10 args r := by
  unfold e10 at h
  split at h
  · split at h
    · rename_i h_l
      cases h; exact (con10 (cok_of tok9 follows) _ hp).le ⟨decL_le decEntry_le h_l, trivial⟩ (ole_refl _)
    · cases h
  · cases h
theorem tok10 : TabOk Try.prog tab10 := TabOk.add (tok9) en10 so10
theorem en11 : Enters Try.prog 11 := ⟨_, Try.func11, rfl, rfl⟩
theorem so11 (args : List O) (p : Prop) (r : O) (h : e11 args = some (p, r)) (hp : p) : Sem Try.prog 11 args r := by
  unfold e11 at h
  split at h
  · split at h
    · rename_i h_l
      cases h; exact (con11 (cok_of tok10 follows) _ hp).le ⟨decL_le decEntry_le h_l, trivial⟩ (ole_refl _)
    · cases h
  · cases h
theorem tok11 : TabOk Try.prog tab11 := TabOk.add (tok10) en11 so11
theorem en13 : Enters Try.prog 13 := ⟨_, Try.func13, rfl, rfl⟩
theorem so13 (args : List O) (p : Prop) (r : O) (h : e13 args = some (p, r)) (hp : p) : Sem Try.prog 13 args r := by
  unfold e13 at h
  split at h
  · split at h
    · rename_i h_a h_b
      cases h; exact (con13 (cok_of tok11 follows) _ _ hp).le ⟨decL_le decAUnit_le h_a, decL_le decAUnit_le h_b, trivial⟩ (ole_refl _)
    · cases h
  · cases h
theorem tok13 : TabOk Try.prog tab13 := TabOk.add (tok11) en13 so13
theorem en17 : Enters Try.prog 17 := ⟨_, Try.func17, rfl, rfl⟩
theorem so17 (args : List O) (p : Prop) (r : O) (h : e17 args = some (p, r)) (hp : p) : Sem Try.prog 17 args r := by
  unfold e17 at h
  split at h
  · split at h
    · rename_i h_a h_b
      cases h; exact (con17 (cok_of tok13 follows) _ _ hp).le ⟨decL_le decS_le h_a, decL_le decS_le h_b, trivial⟩ (ole_refl _)
    · cases h
  · cases h
theorem tok17 : TabOk Try.prog tab17 := TabOk.add (tok13) en17 so17
theorem en14 : Enters Try.prog 14 := ⟨_, Try.func14, rfl, rfl⟩
theorem so14 (args : List O) (p : Prop) (r : O) (h : e14 args = some (p, r)) (hp : p) : Sem Try.prog 14 args r := by
  unfold e14 at h
  split at h
  · split at h
    · rename_i h_l
      cases h; exact (con14 (cok_of tok17 follows) _ hp).le ⟨decL_le decEntry_le h_l, trivial⟩ (ole_refl _)
    · cases h
  · cases h
theorem tok14 : TabOk Try.prog tab14 := TabOk.add (tok17) en14 so14
theorem en31 : Enters Try.prog 31 := ⟨_, Try.func31, rfl, rfl⟩
theorem so31 (args : List O) (p : Prop) (r : O) (h : e31 args = some (p, r)) (hp : p) : Sem Try.prog 31 args r := by
  unfold e31 at h
  split at h
  · cases h; exact con31 (cok_of tok14 follows) _
  · cases h
theorem tok31 : TabOk Try.prog tab31 := TabOk.add (tok14) en31 so31
theorem en15 : Enters Try.prog 15 := ⟨_, Try.func15, rfl, rfl⟩
theorem so15 (args : List O) (p : Prop) (r : O) (h : e15 args = some (p, r)) (hp : p) : Sem Try.prog 15 args r := by
  unfold e15 at h
  split at h
  · split at h
    · rename_i h_l
      cases h; exact (con15 (cok_of tok31 follows) _ _ _ hp).le ⟨decL_le decEntry_le h_l, dle_refl _, dle_refl _, trivial⟩ (ole_refl _)
    · cases h
  · cases h
theorem tok15 : TabOk Try.prog tab15 := TabOk.add (tok31) en15 so15
theorem en16 : Enters Try.prog 16 := ⟨_, Try.func16, rfl, rfl⟩
theorem so16 (args : List O) (p : Prop) (r : O) (h : e16 args = some (p, r)) (hp : p) : Sem Try.prog 16 args r := by
  unfold e16 at h
  split at h
  · split at h
    · rename_i h_l
      cases h; exact (con16 (cok_of tok15 follows) _ _ _ hp).le ⟨decL_le decEntry_le h_l, dle_refl _, dle_refl _, trivial⟩ (ole_refl _)
    · cases h
  · cases h
theorem tok16 : TabOk Try.prog tab16 := TabOk.add (tok15) en16 so16
theorem en7 : Enters Try.prog 7 := ⟨_, Try.func7, rfl, rfl⟩
theorem so7 (args : List O) (p : Prop) (r : O) (h : e7 args = some (p, r)) (hp : p) : Sem Try.prog 7 args r := by
  unfold e7 at h
  split at h
  · cases h; exact con7 (cok_of tok16 follows) 
  · cases h
theorem tok7 : TabOk Try.prog tab7 := TabOk.add (tok16) en7 so7
theorem en3 : Enters Try.prog 3 := ⟨_, Try.func3, rfl, rfl⟩
theorem so3 (args : List O) (p : Prop) (r : O) (h : e3 args = some (p, r)) (hp : p) : Sem Try.prog 3 args r := by
  unfold e3 at h
  split at h
  · split at h
    · rename_i h_l
      cases h; exact (con3 (cok_of tok7 follows) _).le ⟨decL_le decEntry_le h_l, trivial⟩ (ole_refl _)
    · cases h
  · cases h
theorem tok3 : TabOk Try.prog tab3 := TabOk.add (tok7) en3 so3
theorem en4 : Enters Try.prog 4 := ⟨_, Try.func4, rfl, rfl⟩
theorem so4 (args : List O) (p : Prop) (r : O) (h : e4 args = some (p, r)) (hp : p) : Sem Try.prog 4 args r := by
  unfold e4 at h
  split at h
  · split at h
    · rename_i h_l
      cases h; exact (con4 (cok_of tok3 follows) _ _ _).le ⟨decL_le decEntry_le h_l, dle_refl _, dle_refl _, trivial⟩ (ole_refl _)
    · cases h
  · cases h
theorem tok4 : TabOk Try.prog tab4 := TabOk.add (tok3) en4 so4
theorem en111 : Enters Try.prog 111 := ⟨_, Try.func111, rfl, rfl⟩
theorem so111 (args : List O) (p : Prop) (r : O) (h : e111 args = some (p, r)) (hp : p) : Sem Try.prog 111 args r := by
  unfold e111 at h
  split at h
  · cases h; exact con111 (cok_of tok4 follows) _ _ _
  · cases h
theorem tok111 : TabOk Try.prog tab111 := TabOk.add (tok4) en111 so111
theorem en113 : Enters Try.prog 113 := ⟨_, Try.func113, rfl, rfl⟩
theorem so113 (args : List O) (p : Prop) (r : O) (h : e113 args = some (p, r)) (hp : p) : Sem Try.prog 113 args r := by
  unfold e113 at h
  split at h
  · cases h; exact con113 (cok_of tok111 follows) _ _
  · cases h
theorem tok113 : TabOk Try.prog tab113 := TabOk.add (tok111) en113 so113
theorem en112 : Enters Try.prog 112 := ⟨_, Try.func112, rfl, rfl⟩
theorem so112 (args : List O) (p : Prop) (r : O) (h : e112 args = some (p, r)) (hp : p) : Sem Try.prog 112 args r := by
  unfold e112 at h
  split at h
  · split at h
    · rename_i h_l
      cases h; exact (con112 (cok_of tok113 follows) _ hp).le ⟨decL_le decI_le h_l, trivial⟩ (ole_refl _)
    · cases h
  · cases h
theorem tok112 : TabOk Try.prog tab112 := TabOk.add (tok113) en112 so112
theorem en92 : Enters Try.prog 92 := ⟨_, Try.func92, rfl, rfl⟩
theorem so92 (args : List O) (p : Prop) (r : O) (h : e92 args = some (p, r)) (hp : p) : Sem Try.prog 92 args r := by
  unfold e92 at h
  split at h
  · cases h; exact con92 (cok_of tok112 follows) _ _
  · cases h
theorem tok92 : TabOk Try.prog tab92 := TabOk.add (tok112) en92 so92
theorem en90 : Enters Try.prog 90 := ⟨_, Try.func90, rfl, rfl⟩
theorem so90 (args : List O) (p : Prop) (r : O) (h : e90 args = some (p, r)) (hp : p) : Sem Try.prog 90 args r := by
  unfold e90 at h
  split at h
  · split at h
    · rename_i h_l
      cases h; exact (con90 (cok_of tok92 follows) _ hp).le ⟨decL_le decI_le h_l, trivial⟩ (ole_refl _)
    · cases h
  · cases h
theorem tok90 : TabOk Try.prog tab90 := TabOk.add (tok92) en90 so90
theorem en100 : Enters Try.prog 100 := ⟨_, Try.func100, rfl, rfl⟩
theorem so100 (args : List O) (p : Prop) (r : O) (h : e100 args = some (p, r)) (hp : p) : Sem Try.prog 100 args r := by
  unfold e100 at h
  split at h
  · cases h; exact con100 (cok_of tok90 follows) _
  · cases h
theorem tok100 : TabOk Try.prog tab100 := TabOk.add (tok90) en100 so100
theorem en108 : Enters Try.prog 108 := ⟨_, Try.func108, rfl, rfl⟩
theorem so108 (args : List O) (p : Prop) (r : O) (h : e108 args = some (p, r)) (hp : p) : Sem Try.prog 108 args r := by
  unfold e108 at h
  split at h
  · split at h
    · rename_i h_t
      cases h; exact (con108 (cok_of tok100 follows) _).le ⟨decDType_le h_t, trivial⟩ (ole_refl _)
    · cases h
  · cases h
theorem tok108 : TabOk Try.prog tab108 := TabOk.add (tok100) en108 so108
theorem en114 : Enters Try.prog 114 := ⟨_, Try.func114, rfl, rfl⟩
theorem so114 (args : List O) (p : Prop) (r : O) (h : e114 args = some (p, r)) (hp : p) : Sem Try.prog 114 args r := by
  unfold e114 at h
  split at h
  · split at h
    · rename_i h_t
      cases h; exact (con114 (cok_of tok108 follows) _ hp).le ⟨decDType_le h_t, trivial⟩ (ole_refl _)
    · cases h
  · cases h
theorem tok114 : TabOk Try.prog tab114 := TabOk.add (tok108) en114 so114
theorem en109 : Enters Try.prog 109 := ⟨_, Try.func109, rfl, rfl⟩
theorem so109 (args : List O) (p : Prop) (r : O) (h : e109 args = some (p, r)) (hp : p) : Sem Try.prog 109 args r := by
  unfold e109 at h
  split at h
  · split at h
    · rename_i h_t
      cases h; exact (con109 (cok_of tok114 follows) _).le ⟨decDType_le h_t, trivial⟩ (ole_refl _)
    · cases h
  · cases h
theorem tok109 : TabOk Try.prog tab109 := TabOk.add (tok114) en109 so109
theorem en118 : Enters Try.prog 118 := ⟨_, Try.func118, rfl, rfl⟩
theorem so118 (args : List O) (p : Prop) (r : O) (h : e118 args = some (p, r)) (hp : p) : Sem Try.prog 118 args r := by
  unfold e118 at h
  split at h
  · cases h; exact con118 (cok_of tok109 follows) _
  · cases h
theorem tok118 : TabOk Try.prog tab118 := TabOk.add (tok109) en118 so118
theorem en116 : Enters Try.prog 116 := ⟨_, Try.func116, rfl, rfl⟩
theorem so116 (args : List O) (p : Prop) (r : O) (h : e116 args = some (p, r)) (hp : p) : Sem Try.prog 116 args r := by
  unfold e116 at h
  split at h
  · split at h
    · rename_i h_t h_v
      cases h; exact (con116 (cok_of tok118 follows) _ _).le ⟨decDType_le h_t, decVal_le h_v, trivial⟩ (ole_refl _)
    · cases h
  · cases h
theorem tok116 : TabOk Try.prog tab116 := TabOk.add (tok118) en116 so116
theorem en115 : Enters Try.prog 115 := ⟨_, Try.func115, rfl, rfl⟩
theorem so115 (args : List O) (p : Prop) (r : O) (h : e115 args = some (p, r)) (hp : p) : Sem Try.prog 115 args r := by
  unfold e115 at h
  split at h
  · cases h; exact con115 (cok_of tok116 follows) _ hp
  · cases h
theorem tok115 : TabOk Try.prog tab115 := TabOk.add (tok116) en115 so115
theorem en119 : Enters Try.prog 119 := ⟨_, Try.func119, rfl, rfl⟩
theorem so119 (args : List O) (p : Prop) (r : O) (h : e119 args = some (p, r)) (hp : p) : Sem Try.prog 119 args r := by
  unfold e119 at h
  split at h
  · split at h
    · rename_i h_t
      cases h; exact (con119 (cok_of tok115 follows) _ _ hp).le ⟨decDType_le h_t, dle_refl _, trivial⟩ (ole_refl _)
    · cases h
  · cases h
theorem tok119 : TabOk Try.prog tab119 := TabOk.add (tok115) en119 so119
theorem en117 : Enters Try.prog 117 := ⟨_, Try.func117, rfl, rfl⟩
theorem so117 (args : List O) (p : Prop) (r : O) (h : e117 args = some (p, r)) (hp : p) : Sem Try.prog 117 args r := by
  unfold e117 at h
  split at h
  · split at h
    · rename_i h_t
      cases h; exact (con117 (cok_of tok119 follows) _ _ hp).le ⟨decDType_le h_t, dle_refl _, trivial⟩ (ole_refl _)
    · cases h
  · cases h
theorem tok117 : TabOk Try.prog tab117 := TabOk.add (tok119) en117 so117
theorem en110 : Enters Try.prog 110 := ⟨_, Try.func110, rfl, rfl⟩
theorem so110 (args : List O) (p : Prop) (r : O) (h : e110 args = some (p, r)) (hp : p) : Sem Try.prog 110 args r := by
  unfold e110 at h
  split at h
  · split at h
    · rename_i h_t
      cases h; exact (con110 (cok_of tok117 follows) _ _).le ⟨decDType_le h_t, dle_refl _, trivial⟩ (ole_refl _)
    · cases h
  · cases h
theorem tok110 : TabOk Try.prog tab110 := TabOk.add (tok117) en110 so110
theorem en105 : Enters Try.prog 105 := ⟨_, Try.func105, rfl, rfl⟩
theorem so105 (args : List O) (p : Prop) (r : O) (h : e105 args = some (p, r)) (hp : p) : Sem Try.prog 105 args r := by
  unfold e105 at h
  split at h
  · split at h
    · rename_i h_x
      cases h; exact (con105 (cok_of tok110 follows) _).le ⟨decField_le h_x, trivial⟩ (ole_refl _)
    · cases h
  · cases h
theorem tok105 : TabOk Try.prog tab105 := TabOk.add (tok110) en105 so105
theorem en102 : Enters Try.prog 102 := ⟨_, Try.func102, rfl, rfl⟩
theorem so102 (args : List O) (p : Prop) (r : O) (h : e102 args = some (p, r)) (hp : p) : Sem Try.prog 102 args r := by
  unfold e102 at h
  split at h
  · split at h
    · rename_i h_f
      cases h; exact (con102 (cok_of tok105 follows) _ _ hp).le ⟨decFmt_le h_f, dle_refl _, trivial⟩ (ole_refl _)
    · cases h
  · cases h
theorem tok102 : TabOk Try.prog tab102 := TabOk.add (tok105) en102 so102
theorem en106 : Enters Try.prog 106 := ⟨_, Try.func106, rfl, rfl⟩
theorem so106 (args : List O) (p : Prop) (r : O) (h : e106 args = some (p, r)) (hp : p) : Sem Try.prog 106 args r := by
  unfold e106 at h
  split at h
  · split at h
    · rename_i h_f
      cases h; exact (con106 (cok_of tok102 follows) _ hp).le ⟨decFmt_le h_f, trivial⟩ (ole_refl _)
    · cases h
  · cases h
theorem tok106 : TabOk Try.prog tab106 := TabOk.add (tok102) en106 so106
theorem en104 : Enters Try.prog 104 := ⟨_, Try.func104, rfl, rfl⟩
theorem so104 (args : List O) (p : Prop) (r : O) (h : e104 args = some (p, r)) (hp : p) : Sem Try.prog 104 args r := by
  unfold e104 at h
  split at h
  · split at h
    · rename_i h_f
      cases h; exact (con104 (cok_of tok106 follows) _ hp).le ⟨decFmt_le h_f, trivial⟩ (ole_refl _)
    · cases h
  · cases h
theorem tok104 : TabOk Try.prog tab104 := TabOk.add (tok106) en104 so104
theorem en101 : Enters Try.prog 101 := ⟨_, Try.func101, rfl, rfl⟩
theorem so101 (args : List O) (p : Prop) (r : O) (h : e101 args = some (p, r)) (hp : p) : Sem Try.prog 101 args r := by
  unfold e101 at h
  split at h
  · split at h
    · rename_i h_f
      cases h; exact (con101 (cok_of tok104 follows) _ hp).le ⟨decFmt_le h_f, trivial⟩ (ole_refl _)
    · cases h
  · cases h
theorem tok101 : TabOk Try.prog tab101 := TabOk.add (tok104) en101 so101
theorem en98 : Enters Try.prog 98 := ⟨_, Try.func98, rfl, rfl⟩
theorem so98 (args : List O) (p : Prop) (r : O) (h : e98 args = some (p, r)) (hp : p) : Sem Try.prog 98 args r := by
  unfold e98 at h
  split at h
  · split at h
    · rename_i h_f
      cases h; exact (con98 (cok_of tok101 follows) _ hp).le ⟨decFile_le h_f, trivial⟩ (ole_refl _)
    · cases h
  · cases h
theorem tok98 : TabOk Try.prog tab98 := TabOk.add (tok101) en98 so98
theorem en91 : Enters Try.prog 91 := ⟨_, Try.func91, rfl, rfl⟩
theorem so91 (args : List O) (p : Prop) (r : O) (h : e91 args = some (p, r)) (hp : p) : Sem Try.prog 91 args r := by
  unfold e91 at h
  split at h
  · split at h
    · rename_i h_f
      cases h; exact (con91 (cok_of tok98 follows) _ hp).le ⟨decFile_le h_f, trivial⟩ (ole_refl _)
    · cases h
  · cases h
theorem tok91 : TabOk Try.prog tab91 := TabOk.add (tok98) en91 so91
theorem en107 : Enters Try.prog 107 := ⟨_, Try.func107, rfl, rfl⟩
theorem so107 (args : List O) (p : Prop) (r : O) (h : e107 args = some (p, r)) (hp : p) : Sem Try.prog 107 args r := by
  unfold e107 at h
  split at h
  · split at h
    · rename_i h_f
      cases h; exact (con107 (cok_of tok91 follows) _ _ hp).le ⟨decFmt_le h_f, dle_refl _, trivial⟩ (ole_refl _)
    · cases h
  · cases h
theorem tok107 : TabOk Try.prog tab107 := TabOk.add (tok91) en107 so107
theorem en103 : Enters Try.prog 103 := ⟨_, Try.func103, rfl, rfl⟩
theorem so103 (args : List O) (p : Prop) (r : O) (h : e103 args = some (p, r)) (hp : p) : Sem Try.prog 103 args r := by
  unfold e103 at h
  split at h
  · split at h
    · rename_i h_f
      cases h; exact (con103 (cok_of tok107 follows) _ _ hp).le ⟨decFmt_le h_f, dle_refl _, trivial⟩ (ole_refl _)
    · cases h
  · cases h
theorem tok103 : TabOk Try.prog tab103 := TabOk.add (tok107) en103 so103
theorem en99 : Enters Try.prog 99 := ⟨_, Try.func99, rfl, rfl⟩
theorem so99 (args : List O) (p : Prop) (r : O) (h : e99 args = some (p, r)) (hp : p) : Sem Try.prog 99 args r := by
  unfold e99 at h
  split at h
  · split at h
    · rename_i h_f
      cases h; exact (con99 (cok_of tok103 follows) _ _ hp).le ⟨decFmt_le h_f, dle_refl _, trivial⟩ (ole_refl _)
    · cases h
  · cases h
theorem tok99 : TabOk Try.prog tab99 := TabOk.add (tok103) en99 so99
theorem en93 : Enters Try.prog 93 := ⟨_, Try.func93, rfl, rfl⟩
theorem so93 (args : List O) (p : Prop) (r : O) (h : e93 args = some (p, r)) (hp : p) : Sem Try.prog 93 args r := by
  unfold e93 at h
  split at h
  · split at h
    · rename_i h_f
      cases h; exact (con93 (cok_of tok99 follows) _ _ hp).le ⟨decFmt_le h_f, dle_refl _, trivial⟩ (ole_refl _)
    · cases h
  · cases h
theorem tok93 : TabOk Try.prog tab93 := TabOk.add (tok99) en93 so93
theorem en77 : Enters Try.prog 77 := ⟨_, Try.func77, rfl, rfl⟩
theorem so77 (args : List O) (p : Prop) (r : O) (h : e77 args = some (p, r)) (hp : p) : Sem Try.prog 77 args r := by
  unfold e77 at h
  split at h
  · split at h
    · rename_i h_t
      cases h; exact (con77 (cok_of tok93 follows) _ hp).le ⟨decTable_le h_t, trivial⟩ (ole_refl _)
    · cases h
  · cases h
theorem tok77 : TabOk Try.prog tab77 := TabOk.add (tok93) en77 so77
theorem en94 : Enters Try.prog 94 := ⟨_, Try.func94, rfl, rfl⟩
theorem so94 (args : List O) (p : Prop) (r : O) (h : e94 args = some (p, r)) (hp : p) : Sem Try.prog 94 args r := by
  unfold e94 at h
  split at h
  · split at h
    · rename_i h_t
      cases h; exact (con94 (cok_of tok77 follows) _ hp).le ⟨decTable_le h_t, trivial⟩ (ole_refl _)
    · cases h
  · cases h
theorem tok94 : TabOk Try.prog tab94 := TabOk.add (tok77) en94 so94
theorem en56 : Enters Try.prog 56 := ⟨_, Try.func56, rfl, rfl⟩
theorem so56 (args : List O) (p : Prop) (r : O) (h : e56 args = some (p, r)) (hp : p) : Sem Try.prog 56 args r := by
  unfold e56 at h
  split at h
  · split at h
    · rename_i h_l
      cases h; exact (con56 (cok_of tok94 follows) _ hp).le ⟨decL_le decField_le h_l, trivial⟩ (ole_refl _)
    · cases h
  · cases h
theorem tok56 : TabOk Try.prog tab56 := TabOk.add (tok94) en56 so56
theorem en57 : Enters Try.prog 57 := ⟨_, Try.func57, rfl, rfl⟩
theorem so57 (args : List O) (p : Prop) (r : O) (h : e57 args = some (p, r)) (hp : p) : Sem Try.prog 57 args r := by
  unfold e57 at h
  split at h
  · split at h
    · rename_i h_l
      cases h; exact (con57 (cok_of tok56 follows) _ hp).le ⟨decL_le decKField_le h_l, trivial⟩ (ole_refl _)
    · cases h
  · cases h
theorem tok57 : TabOk Try.prog tab57 := TabOk.add (tok56) en57 so57
theorem en58 : Enters Try.prog 58 := ⟨_, Try.func58, rfl, rfl⟩
theorem so58 (args : List O) (p : Prop) (r : O) (h : e58 args = some (p, r)) (hp : p) : Sem Try.prog 58 args r := by
  unfold e58 at h
  split at h
  · split at h
    · rename_i h_l
      cases h; exact (con58 (cok_of tok57 follows) _ hp).le ⟨decL_le decRec_le h_l, trivial⟩ (ole_refl _)
    · cases h
  · cases h
theorem tok58 : TabOk Try.prog tab58 := TabOk.add (tok57) en58 so58
theorem en95 : Enters Try.prog 95 := ⟨_, Try.func95, rfl, rfl⟩
theorem so95 (args : List O) (p : Prop) (r : O) (h : e95 args = some (p, r)) (hp : p) : Sem Try.prog 95 args r := by
  unfold e95 at h
  split at h
  · split at h
    · rename_i h_t h_c
      cases h; exact (con95 (cok_of tok58 follows) _ _ hp).le ⟨decTable_le h_t, decChange_le h_c, trivial⟩ (ole_refl _)
    · cases h
  · cases h
theorem tok95 : TabOk Try.prog tab95 := TabOk.add (tok58) en95 so95
theorem en80 : Enters Try.prog 80 := ⟨_, Try.func80, rfl, rfl⟩
theorem so80 (args : List O) (p : Prop) (r : O) (h : e80 args = some (p, r)) (hp : p) : Sem Try.prog 80 args r := by
  unfold e80 at h
  split at h
  · split at h
    · rename_i h_t h_c
      cases h; exact (con80 (cok_of tok95 follows) _ _ hp).le ⟨decTable_le h_t, decChange_le h_c, trivial⟩ (ole_refl _)
    · cases h
  · cases h
theorem tok80 : TabOk Try.prog tab80 := TabOk.add (tok95) en80 so80
theorem en81 : Enters Try.prog 81 := ⟨_, Try.func81, rfl, rfl⟩
theorem so81 (args : List O) (p : Prop) (r : O) (h : e81 args = some (p, r)) (hp : p) : Sem Try.prog 81 args r := by
  unfold e81 at h
  split at h
  · split at h
    · rename_i h_t h_r
      cases h; exact (con81 (cok_of tok80 follows) _ _ _ hp).le ⟨decTable_le h_t, dle_refl _, decRec_le h_r, trivial⟩ (ole_refl _)
    · cases h
  · cases h
theorem tok81 : TabOk Try.prog tab81 := TabOk.add (tok80) en81 so81
theorem en60 : Enters Try.prog 60 := ⟨_, Try.func60, rfl, rfl⟩
theorem so60 (args : List O) (p : Prop) (r : O) (h : e60 args = some (p, r)) (hp : p) : Sem Try.prog 60 args r := by
  unfold e60 at h
  split at h
  · split at h
    · rename_i h_t h_c
      cases h; exact (con60 (cok_of tok81 follows) _ _ hp).le ⟨decTable_le h_t, decChange_le h_c, trivial⟩ (ole_refl _)
    · cases h
  · cases h
theorem tok60 : TabOk Try.prog tab60 := TabOk.add (tok81) en60 so60
theorem en61 : Enters Try.prog 61 := ⟨_, Try.func61, rfl, rfl⟩
theorem so61 (args : List O) (p : Prop) (r : O) (h : e61 args = some (p, r)) (hp : p) : Sem Try.prog 61 args r := by
  unfold e61 at h
  split at h
  · split at h
    · rename_i h_c
      cases h; exact (con61 (cok_of tok60 follows) _).le ⟨decChange_le h_c, trivial⟩ (ole_refl _)
    · cases h
  · cases h
theorem tok61 : TabOk Try.prog tab61 := TabOk.add (tok60) en61 so61
theorem en79 : Enters Try.prog 79 := ⟨_, Try.func79, rfl, rfl⟩
theorem so79 (args : List O) (p : Prop) (r : O) (h : e79 args = some (p, r)) (hp : p) : Sem Try.prog 79 args r := by
  unfold e79 at h
  split at h
  · split at h
    · rename_i h_t
      cases h; exact (con79 (cok_of tok61 follows) _ _).le ⟨decTable_le h_t, dle_refl _, trivial⟩ (ole_refl _)
    · cases h
  · cases h
theorem tok79 : TabOk Try.prog tab79 := TabOk.add (tok61) en79 so79
theorem en78 : Enters Try.prog 78 := ⟨_, Try.func78, rfl, rfl⟩
theorem so78 (args : List O) (p : Prop) (r : O) (h : e78 args = some (p, r)) (hp : p) : Sem Try.prog 78 args r := by
  unfold e78 at h
  split at h
  · split at h
    · rename_i h_l
      cases h; exact (con78 (cok_of tok79 follows) _ _ hp).le ⟨decL_le decTable_le h_l, dle_refl _, trivial⟩ (ole_refl _)
    · cases h
  · cases h
theorem tok78 : TabOk Try.prog tab78 := TabOk.add (tok79) en78 so78
theorem en59 : Enters Try.prog 59 := ⟨_, Try.func59, rfl, rfl⟩
theorem so59 (args : List O) (p : Prop) (r : O) (h : e59 args = some (p, r)) (hp : p) : Sem Try.prog 59 args r := by
  unfold e59 at h
  split at h
  · split at h
    · rename_i h_l
      cases h; exact (con59 (cok_of tok78 follows) _ _ hp).le ⟨decL_le decTable_le h_l, dle_refl _, trivial⟩ (ole_refl _)
    · cases h
  · cases h
theorem tok59 : TabOk Try.prog tab59 := TabOk.add (tok78) en59 so59
theorem en55 : Enters Try.prog 55 := ⟨_, Try.func55, rfl, rfl⟩
theorem so55 (args : List O) (p : Prop) (r : O) (h : e55 args = some (p, r)) (hp : p) : Sem Try.prog 55 args r := by
  unfold e55 at h
  split at h
  · split at h
    · rename_i h_l
      cases h; exact (con55 (cok_of tok59 follows) _ hp).le ⟨decL_le decTable_le h_l, trivial⟩ (ole_refl _)
    · cases h
  · cases h
theorem tok55 : TabOk Try.prog tab55 := TabOk.add (tok59) en55 so55
theorem en39 : Enters Try.prog 39 := ⟨_, Try.func39, rfl, rfl⟩
theorem so39 (args : List O) (p : Prop) (r : O) (h : e39 args = some (p, r)) (hp : p) : Sem Try.prog 39 args r := by
  unfold e39 at h
  split at h
  · split at h
    · rename_i h_x
      cases h; exact (con39 (cok_of tok55 follows) _ _).le ⟨decEntry_le h_x, dle_refl _, trivial⟩ (ole_refl _)
    · cases h
  · cases h
theorem tok39 : TabOk Try.prog tab39 := TabOk.add (tok55) en39 so39
theorem en41 : Enters Try.prog 41 := ⟨_, Try.func41, rfl, rfl⟩
theorem so41 (args : List O) (p : Prop) (r : O) (h : e41 args = some (p, r)) (hp : p) : Sem Try.prog 41 args r := by
  unfold e41 at h
  split at h
  · split at h
    · rename_i h_x
      cases h; exact (con41 (cok_of tok39 follows) _ _).le ⟨decEntry_le h_x, dle_refl _, trivial⟩ (ole_refl _)
    · cases h
  · cases h
theorem tok41 : TabOk Try.prog tab41 := TabOk.add (tok39) en41 so41
theorem en36 : Enters Try.prog 36 := ⟨_, Try.func36, rfl, rfl⟩
theorem so36 (args : List O) (p : Prop) (r : O) (h : e36 args = some (p, r)) (hp : p) : Sem Try.prog 36 args r := by
  unfold e36 at h
  split at h
  · split at h
    · rename_i h_ts h_l
      cases h; exact (con36 (cok_of tok41 follows) _ _ hp).le ⟨decL_le decTable_le h_ts, decL_le decEntry_le h_l, trivial⟩ (ole_refl _)
    · cases h
  · cases h
theorem tok36 : TabOk Try.prog tab36 := TabOk.add (tok41) en36 so36
theorem en38 : Enters Try.prog 38 := ⟨_, Try.func38, rfl, rfl⟩
theorem so38 (args : List O) (p : Prop) (r : O) (h : e38 args = some (p, r)) (hp : p) : Sem Try.prog 38 args r := by
  unfold e38 at h
  split at h
  · split at h
    · rename_i h_l h_w
      cases h; exact (con38 (cok_of tok36 follows) _ _ _ hp).le ⟨decL_le decEntry_le h_l, dle_refl _, decWant_le h_w, trivial⟩ (ole_refl _)
    · cases h
  · cases h
theorem tok38 : TabOk Try.prog tab38 := TabOk.add (tok36) en38 so38
theorem en37 : Enters Try.prog 37 := ⟨_, Try.func37, rfl, rfl⟩
theorem so37 (args : List O) (p : Prop) (r : O) (h : e37 args = some (p, r)) (hp : p) : Sem Try.prog 37 args r := by
  unfold e37 at h
  split at h
  · split at h
    · rename_i h_ts h_cs
      cases h; exact (con37 (cok_of tok38 follows) _ _ hp).le ⟨decL_le decTable_le h_ts, decL_le decChange_le h_cs, trivial⟩ (ole_refl _)
    · cases h
  · cases h
theorem tok37 : TabOk Try.prog tab37 := TabOk.add (tok38) en37 so37
theorem en19 : Enters Try.prog 19 := ⟨_, Try.func19, rfl, rfl⟩
theorem so19 (args : List O) (p : Prop) (r : O) (h : e19 args = some (p, r)) (hp : p) : Sem Try.prog 19 args r := by
  unfold e19 at h
  split at h
  · split at h
    · rename_i h_ts h_l
      cases h; exact (con19 (cok_of tok37 follows) _ _ _ hp).le ⟨decL_le decTable_le h_ts, decL_le decEntry_le h_l, dle_refl _, trivial⟩ (ole_refl _)
    · cases h
  · cases h
theorem tok19 : TabOk Try.prog tab19 := TabOk.add (tok37) en19 so19
theorem en23 : Enters Try.prog 23 := ⟨_, Try.func23, rfl, rfl⟩
theorem so23 (args : List O) (p : Prop) (r : O) (h : e23 args = some (p, r)) (hp : p) : Sem Try.prog 23 args r := by
  unfold e23 at h
  split at h
  · split at h
    · rename_i h_ts h_l
      cases h; exact (con23 (cok_of tok19 follows) _ _ _ hp).le ⟨decL_le decTable_le h_ts, decL_le decEntry_le h_l, dle_refl _, trivial⟩ (ole_refl _)
    · cases h
  · cases h
theorem tok23 : TabOk Try.prog tab23 := TabOk.add (tok19) en23 so23
theorem en82 : Enters Try.prog 82 := ⟨_, Try.func82, rfl, rfl⟩
theorem so82 (args : List O) (p : Prop) (r : O) (h : e82 args = some (p, r)) (hp : p) : Sem Try.prog 82 args r := by
  unfold e82 at h
  split at h
  · split at h
    · rename_i h_f
      cases h; exact (con82 (cok_of tok23 follows) _ hp).le ⟨decFmt_le h_f, trivial⟩ (ole_refl _)
    · cases h
  · cases h
theorem tok82 : TabOk Try.prog tab82 := TabOk.add (tok23) en82 so82
theorem en63 : Enters Try.prog 63 := ⟨_, Try.func63, rfl, rfl⟩
theorem so63 (args : List O) (p : Prop) (r : O) (h : e63 args = some (p, r)) (hp : p) : Sem Try.prog 63 args r := by
  unfold e63 at h
  split at h
  · split at h
    · rename_i h_f
      cases h; exact (con63 (cok_of tok82 follows) _ hp).le ⟨decFile_le h_f, trivial⟩ (ole_refl _)
    · cases h
  · cases h
theorem tok63 : TabOk Try.prog tab63 := TabOk.add (tok82) en63 so63
theorem en40 : Enters Try.prog 40 := ⟨_, Try.func40, rfl, rfl⟩
theorem so40 (args : List O) (p : Prop) (r : O) (h : e40 args = some (p, r)) (hp : p) : Sem Try.prog 40 args r := by
  unfold e40 at h
  split at h
  · split at h
    · rename_i h_t
      cases h; exact (con40 (cok_of tok63 follows) _ hp).le ⟨decTable_le h_t, trivial⟩ (ole_refl _)
    · cases h
  · cases h
theorem tok40 : TabOk Try.prog tab40 := TabOk.add (tok63) en40 so40
theorem en20 : Enters Try.prog 20 := ⟨_, Try.func20, rfl, rfl⟩
theorem so20 (args : List O) (p : Prop) (r : O) (h : e20 args = some (p, r)) (hp : p) : Sem Try.prog 20 args r := by
  unfold e20 at h
  split at h
  · split at h
    · rename_i h_ts
      cases h; exact (con20 (cok_of tok40 follows) _ hp).le ⟨decL_le decTable_le h_ts, trivial⟩ (ole_refl _)
    · cases h
  · cases h
theorem tok20 : TabOk Try.prog tab20 := TabOk.add (tok40) en20 so20
theorem en84 : Enters Try.prog 84 := ⟨_, Try.func84, rfl, rfl⟩
theorem so84 (args : List O) (p : Prop) (r : O) (h : e84 args = some (p, r)) (hp : p) : Sem Try.prog 84 args r := by
  unfold e84 at h
  split at h
  · split at h
    · rename_i h_a h_b
      cases h; exact (con84 (cok_of tok20 follows) _ _ hp).le ⟨decL_le decRec_le h_a, decL_le decRec_le h_b, trivial⟩ (ole_refl _)
    · cases h
  · cases h
theorem tok84 : TabOk Try.prog tab84 := TabOk.add (tok20) en84 so84
theorem en96 : Enters Try.prog 96 := ⟨_, Try.func96, rfl, rfl⟩
theorem so96 (args : List O) (p : Prop) (r : O) (h : e96 args = some (p, r)) (hp : p) : Sem Try.prog 96 args r := by
  unfold e96 at h
  split at h
  · split at h
    · rename_i h_a h_b
      cases h; exact (con96 (cok_of tok84 follows) _ _ hp).le ⟨decFmt_le h_a, decFmt_le h_b, trivial⟩ (ole_refl _)
    · cases h
  · cases h
theorem tok96 : TabOk Try.prog tab96 := TabOk.add (tok84) en96 so96
theorem en83 : Enters Try.prog 83 := ⟨_, Try.func83, rfl, rfl⟩
theorem so83 (args : List O) (p : Prop) (r : O) (h : e83 args = some (p, r)) (hp : p) : Sem Try.prog 83 args r := by
  unfold e83 at h
  split at h
  · split at h
    · rename_i h_a h_b
      cases h; exact (con83 (cok_of tok96 follows) _ _ hp).le ⟨decFile_le h_a, decFile_le h_b, trivial⟩ (ole_refl _)
    · cases h
  · cases h
theorem tok83 : TabOk Try.prog tab83 := TabOk.add (tok96) en83 so83
theorem en64 : Enters Try.prog 64 := ⟨_, Try.func64, rfl, rfl⟩
theorem so64 (args : List O) (p : Prop) (r : O) (h : e64 args = some (p, r)) (hp : p) : Sem Try.prog 64 args r := by
  unfold e64 at h
  split at h
  · split at h
    · rename_i h_a h_b
      cases h; exact (con64 (cok_of tok83 follows) _ _ hp).le ⟨decTable_le h_a, decTable_le h_b, trivial⟩ (ole_refl _)
    · cases h
  · cases h
theorem tok64 : TabOk Try.prog tab64 := TabOk.add (tok83) en64 so64
theorem en54 : Enters Try.prog 54 := ⟨_, Try.func54, rfl, rfl⟩
theorem so54 (args : List O) (p : Prop) (r : O) (h : e54 args = some (p, r)) (hp : p) : Sem Try.prog 54 args r := by
  unfold e54 at h
  split at h
  · split at h
    · rename_i h_f
      cases h; exact (con54 (cok_of tok64 follows) _).le ⟨decFmt_le h_f, trivial⟩ (ole_refl _)
    · cases h
  · cases h
theorem tok54 : TabOk Try.prog tab54 := TabOk.add (tok64) en54 so54
theorem en42 : Enters Try.prog 42 := ⟨_, Try.func42, rfl, rfl⟩
theorem so42 (args : List O) (p : Prop) (r : O) (h : e42 args = some (p, r)) (hp : p) : Sem Try.prog 42 args r := by
  unfold e42 at h
  split at h
  · split at h
    · rename_i h_a h_b
      cases h; exact (con42 (cok_of tok54 follows) _ _ hp).le ⟨decL_le decTable_le h_a, decL_le decTable_le h_b, trivial⟩ (ole_refl _)
    · cases h
  · cases h
theorem tok42 : TabOk Try.prog tab42 := TabOk.add (tok54) en42 so42
theorem en35 : Enters Try.prog 35 := ⟨_, Try.func35, rfl, rfl⟩
theorem so35 (args : List O) (p : Prop) (r : O) (h : e35 args = some (p, r)) (hp : p) : Sem Try.prog 35 args r := by
  unfold e35 at h
  split at h
  · split at h
    · rename_i h_l
      cases h; exact (con35 (cok_of tok42 follows) _).le ⟨decL_le decTable_le h_l, trivial⟩ (ole_refl _)
    · cases h
  · cases h
theorem tok35 : TabOk Try.prog tab35 := TabOk.add (tok42) en35 so35
theorem en18 : Enters Try.prog 18 := ⟨_, Try.func18, rfl, rfl⟩
theorem so18 (args : List O) (p : Prop) (r : O) (h : e18 args = some (p, r)) (hp : p) : Sem Try.prog 18 args r := by
  unfold e18 at h
  split at h
  · split at h
    · rename_i h_ts h_l
      cases h; exact (con18 (cok_of tok35 follows) _ _).le ⟨decL_le decTable_le h_ts, decL_le decEntry_le h_l, trivial⟩ (ole_refl _)
    · cases h
  · cases h
theorem tok18 : TabOk Try.prog tab18 := TabOk.add (tok35) en18 so18
theorem en22 : Enters Try.prog 22 := ⟨_, Try.func22, rfl, rfl⟩
theorem so22 (args : List O) (p : Prop) (r : O) (h : e22 args = some (p, r)) (hp : p) : Sem Try.prog 22 args r := by
  unfold e22 at h
  split at h
  · split at h
    · rename_i h_l
      cases h; exact (con22 (cok_of tok18 follows) _ _ hp).le ⟨decL_le decEntry_le h_l, dle_refl _, trivial⟩ (ole_refl _)
    · cases h
  · cases h
theorem tok22 : TabOk Try.prog tab22 := TabOk.add (tok18) en22 so22
theorem en43 : Enters Try.prog 43 := ⟨_, Try.func43, rfl, rfl⟩
theorem so43 (args : List O) (p : Prop) (r : O) (h : e43 args = some (p, r)) (hp : p) : Sem Try.prog 43 args r := by
  unfold e43 at h
  split at h
  · split at h
    · rename_i h_l
      cases h; exact (con43 (cok_of tok22 follows) _ hp).le ⟨decL_le decTable_le h_l, trivial⟩ (ole_refl _)
    · cases h
  · cases h
theorem tok43 : TabOk Try.prog tab43 := TabOk.add (tok22) en43 so43
theorem en24 : Enters Try.prog 24 := ⟨_, Try.func24, rfl, rfl⟩
theorem so24 (args : List O) (p : Prop) (r : O) (h : e24 args = some (p, r)) (hp : p) : Sem Try.prog 24 args r := by
  unfold e24 at h
  split at h
  · split at h
    · rename_i h_a h_b
      cases h; exact (con24 (cok_of tok43 follows) _ _ hp).le ⟨decL_le decTable_le h_a, decL_le decTable_le h_b, trivial⟩ (ole_refl _)
    · cases h
  · cases h
theorem tok24 : TabOk Try.prog tab24 := TabOk.add (tok43) en24 so24
theorem en21 : Enters Try.prog 21 := ⟨_, Try.func21, rfl, rfl⟩
theorem so21 (args : List O) (p : Prop) (r : O) (h : e21 args = some (p, r)) (hp : p) : Sem Try.prog 21 args r := by
  unfold e21 at h
  split at h
  · split at h
    · rename_i h_ts h_l h_c
      cases h; exact (con21 (cok_of tok24 follows) _ _ _ hp).le ⟨decL_le decTable_le h_ts, decL_le decEntry_le h_l, decChange_le h_c, trivial⟩ (ole_refl _)
    · cases h
  · cases h
theorem tok21 : TabOk Try.prog tab21 := TabOk.add (tok24) en21 so21
theorem en5 : Enters Try.prog 5 := ⟨_, Try.func5, rfl, rfl⟩
theorem so5 (args : List O) (p : Prop) (r : O) (h : e5 args = some (p, r)) (hp : p) : Sem Try.prog 5 args r := by
  unfold e5 at h
  split at h
  · split at h
    · rename_i h_ts h_l
      cases h; exact (con5 (cok_of tok21 follows) _ _).le ⟨decL_le decTable_le h_ts, decL_le decEntry_le h_l, trivial⟩ (ole_refl _)
    · cases h
  · cases h
theorem tok5 : TabOk Try.prog tab5 := TabOk.add (tok21) en5 so5
end Go.Ev

namespace Go.Ev
open Go.ChangeShapes Go.WideShapes Go.ChangeAt Go.RowKit
section
variable {H : Type} {enc : TypeId × Value → H} {P : Program} {w : World} {sp : Nat → Bool} {held : Bool}
def RDs (w : World) (cs : List Value) (ds : List D) : Prop := cs.length = ds.length ∧ ∀ (j : Nat) (v : Value) (d : D), cs[j]? = some v → ds[j]? = some d → RD w (fun _ => False) v d ∧ d.one = true
theorem RDs.nil : RDs w [] [] := ⟨rfl, fun j v d h => by simp at h⟩
theorem RDs.one {v : Value} {d : D} (h : RD w (fun _ => False) v d) (h1 : d.one = true) : RDs w [v] [d] := ⟨rfl, fun j u e hj he => by
  match j with
  | 0 => simp at hj he; subst hj; subst he; exact ⟨h, h1⟩
  | j + 1 => simp at hj⟩
theorem RDs.append {a b : List Value} {x y : List D} (h : RDs w a x) (k : RDs w b y) : RDs w (a ++ b) (x ++ y) := by
  refine ⟨by rw [List.length_append, List.length_append, h.1, k.1], fun j v d hj hd => ?_⟩
  by_cases hl : j < a.length
  · rw [List.getElem?_append_left hl] at hj
    rw [List.getElem?_append_left (by rw [← h.1]; exact hl)] at hd
    exact h.2 j v d hj hd
  · rw [List.getElem?_append_right (by omega)] at hj
    rw [List.getElem?_append_right (by rw [← h.1]; omega)] at hd
    rw [h.1] at hj
    exact k.2 _ v d hj hd
theorem read_int {t : TypeId} {k : IntKind} (ht : P.underlying t = some (.int k)) {fuel : Nat} {cs : List Value} {x : DataW H × List MemPlace} (h : DataW.trod enc P w 0 sp held fuel t cs = some x) :
    ∃ n, (Lit.int k n).wf = true ∧ RDs w cs [.i k n] := by
  obtain ⟨n, rfl, _, hw⟩ := DataW.trod_int ht h
  exact ⟨n, hw, RDs.one (.i k n) rfl⟩
theorem read_bool {t : TypeId} (ht : P.underlying t = some .bool) {fuel : Nat} {cs : List Value} {x : DataW H × List MemPlace} (h : DataW.trod enc P w 0 sp held fuel t cs = some x) :
    ∃ b, RDs w cs [.b b] := by
  obtain ⟨n, rfl, _⟩ := DataW.trod_bool ht h
  exact ⟨n, RDs.one (.b n) rfl⟩
theorem read_string {t : TypeId} (ht : P.underlying t = some .string) {fuel : Nat} {cs : List Value} {x : DataW H × List MemPlace} (h : DataW.trod enc P w 0 sp held fuel t cs = some x) :
    ∃ s : ByteArray, s.size ≤ maxLen ∧ RDs w cs [.s s] := by
  obtain ⟨n, rfl, _, hs⟩ := DataW.trod_string ht h
  exact ⟨n, hs, RDs.one (.s n) rfl⟩
theorem cell_spot {a : Addr} {v : Value} (h : w.cell? a = some v) : a.spot = none := by
  unfold World.cell? at h
  split at h
  · split at h
    · cases h
    · rename_i hs; simpa using hs
  · cases h
theorem read_slice {t e : TypeId} {α : Type} {encf : α → D} {Ok : α → Prop} {sz : Nat} (ht : P.underlying t = some (.slice e)) (hsz : P.cellsOf e = sz) (h0 : 0 < sz) (hc : ∀ r, (encf r).cells.length = sz)
    (he : ∀ (fuel : Nat) (cs : List Value) (x : DataW H × List MemPlace), DataW.trod enc P w 0 sp held fuel e cs = some x → ∃ r, Ok r ∧ RDs w cs (encf r).cells)
    {fuel : Nat} {cs : List Value} {x : DataW H × List MemPlace} (h : DataW.trod enc P w 0 sp held fuel t cs = some x) :
    ∃ l : List α, (∀ r ∈ l, Ok r) ∧ l.length ≤ maxLen ∧ RDs w cs [.sl sz (l.map encf)] := by
  rcases DataW.trod_slice ht h with ⟨rfl, _⟩ | ⟨a, len, cap, elems, rest, n, rfl, rfl, _, _, hlc, hcm, hel, hg, _, _⟩
  · exact ⟨[], by simp, Nat.zero_le _, RDs.one (.sl0 sz) rfl⟩
  · have key : ∀ i, i < len → ∃ r, Ok r ∧ ∃ cs', w.cells? 0 (a.add (i * sz)) sz = some cs' ∧ RDs w cs' (encf r).cells := fun i hi => by
      have h1 := hg i hi
      rw [hsz, List.getElem?_eq_getElem (by omega), Option.bind_eq_some_iff] at h1
      obtain ⟨cs', h2, h3⟩ := h1
      obtain ⟨r, hr, hd⟩ := he _ _ _ h3
      exact ⟨r, hr, cs', h2, hd⟩
    let f : ∀ i, i < len → α := fun i hi => Classical.choose (key i hi)
    have hf1 : ∀ i hi, Ok (f i hi) := fun i hi => (Classical.choose_spec (key i hi)).1
    have hf2 : ∀ i hi, ∃ cs', w.cells? 0 (a.add (i * sz)) sz = some cs' ∧ RDs w cs' (encf (f i hi)).cells := fun i hi => (Classical.choose_spec (key i hi)).2
    clear_value f
    have hspot : 0 < len → a.spot = none := fun hl => by
      obtain ⟨cs', h3, _⟩ := hf2 0 hl
      obtain ⟨_, h5, h6⟩ := World.cells?_some h3
      have h9 := h6 0 h0
      rw [List.getElem?_eq_getElem (by omega)] at h9
      have := cell_spot h9
      simpa [Addr.add] using this
    let l : List α := List.ofFn fun i : Fin len => f i.1 i.2
    have hll : l.length = len := by simp [l]
    have hli : ∀ i (hi : i < len), l[i]? = some (f i hi) := fun i hi => by simp [l, hi]
    have hfl : (flat (l.map encf)).length = len * sz := by
      rw [flat_length (sz := sz) (fun d hd => by
        obtain ⟨r, _, rfl⟩ := List.mem_map.1 hd
        exact hc r), List.length_map, hll]
    have hcell : ∀ (k : Nat) (d : D), (flat (l.map encf))[k]? = some d → a.spot = none ∧ ∃ v, w.cell? ⟨a.block, a.off + k, none⟩ = some v ∧ RD w (fun _ => False) v d ∧ d.one = true := fun k d hk => by
      have hk1 : k < len * sz := by rw [← hfl]; exact (List.getElem?_eq_some_iff.1 hk).1
      have hi : k / sz < len := Nat.div_lt_of_lt_mul (by rwa [Nat.mul_comm])
      have hm : k % sz < sz := Nat.mod_lt _ h0
      have hkk : k / sz * sz + k % sz = k := by rw [Nat.mul_comm]; exact Nat.div_add_mod k sz
      have hj : (l.map encf)[k / sz]? = some (encf (f (k / sz) hi)) := by rw [List.getElem?_map, hli _ hi]; rfl
      have h2 := flat_get (sz := sz) (fun d hd => by
        obtain ⟨r, _, rfl⟩ := List.mem_map.1 hd
        exact hc r) hj hm
      rw [hkk, hk] at h2
      obtain ⟨cs', h3, h4⟩ := hf2 (k / sz) hi
      obtain ⟨_, h5, h6⟩ := World.cells?_some h3
      have h7 := h6 (k % sz) hm
      have hlt : k % sz < cs'.length := by omega
      rw [List.getElem?_eq_getElem hlt] at h7
      have h8 := h4.2 (k % sz) _ d (List.getElem?_eq_getElem hlt) h2.symm
      have hsp : a.spot = none := hspot (Nat.lt_of_le_of_lt (Nat.zero_le _) hi)
      refine ⟨hsp, _, ?_, h8⟩
      rw [← h7]
      congr 1
      obtain ⟨b, o, s⟩ := a
      simp only at hsp
      subst hsp
      unfold Addr.add
      (repeat' split) <;> simp <;> omega
    refine ⟨l, fun r hr => ?_, by omega, RDs.one ?_ rfl⟩
    · obtain ⟨i, hi⟩ := List.mem_ofFn.1 hr
      rw [← hi]; exact hf1 _ _
    · have hlm : len = (l.map encf).length := by simp [hll]
      rw [hlm]
      refine .sl a cap sz (l.map encf) (fun k => (w.cell? ⟨a.block, a.off + k, none⟩).getD default) (by omega) h0 (fun d hd => ?_) (fun hl => ⟨hspot ?_, fun hx => hx⟩) (fun k d hk => ?_) (fun k d hk => ?_)
      · obtain ⟨r, hr, rfl⟩ := List.mem_map.1 hd
        refine ⟨hc r, fun c hcm => ?_⟩
        obtain ⟨i, hi⟩ := List.mem_ofFn.1 hr
        obtain ⟨cs', _, h4⟩ := hf2 i.1 i.2
        rw [← hi] at hcm
        obtain ⟨j, hj, hjc⟩ := List.getElem_of_mem hcm
        have hlt : j < cs'.length := by rw [h4.1]; exact hj
        exact (h4.2 j _ c (List.getElem?_eq_getElem hlt) (by rw [List.getElem?_eq_getElem hj, hjc])).2
      · rcases Nat.eq_zero_or_pos len with e | e
        · exact absurd (List.length_eq_zero_iff.1 (by omega)) hl
        · exact e
      · obtain ⟨_, v, hv, _⟩ := hcell k d hk
        rw [hv]; rfl
      · obtain ⟨_, v, hv, h1, _⟩ := hcell k d hk
        rw [hv]; exact h1
theorem RDs.join {cs : List Value} {o n m : Nat} {a b : List D} (h : RDs w ((cs.drop o).take n) a) (k : RDs w (cs.drop m) b) (hm : o + n = m) : RDs w (cs.drop o) (a ++ b) := by
  subst hm
  have := RDs.append h k
  rwa [← List.drop_drop, List.take_append_drop] at this
theorem RDs.single {v : Value} {d : D} (h : RDs w [v] [d]) : RD w (fun _ => False) v d := (h.2 0 v d rfl rfl).1
theorem RDs.last {cs : List Value} {n : Nat} (h : cs.length = n) : RDs w (cs.drop n) [] := by
  rw [List.drop_of_length_le (by omega)]; exact .nil
theorem cellsOf_of {t n : Nat} (h : sizeT P t = some n) : P.cellsOf t = n := by
  unfold sizeT at h
  unfold Program.cellsOf
  rw [h]; rfl
theorem at_field {α : Type} {xs : List α} {n i : Nat} (h : xs.length = n) (hi : i < n) : ∃ y, xs[i]? = some y := ⟨xs[i]'(by omega), by simp⟩
end
theorem sem_calls {P : Program} {f : FuncId} {ds : List D} {vs : Array Value} {w : World} (h : Sem P f (ds.map .d) (.d (.b true))) (hn : vs.size = ds.length)
    (hr : ∀ (j : Nat) (v : Value) (d : D), vs[j]? = some v → ds[j]? = some d → RD w (fun _ => False) v d) :
    Calls P f vs w fun e w' => e = .returned (.bool true) ∧ Below w.heap.size w w' := by
  refine (h w vs (fun _ => False) [] (fun _ hf => hf.elim) (fun i j b hi => by simp at hi) (fun _ _ hf => hf) ⟨by simpa using hn, List.replicate ds.length [], by simp, by simp, fun j v o q hv ho hq => ?_⟩).mono fun e w' ⟨v, u, os', he, hret, hro, _, _, hfr⟩ => ?_
  · rw [List.getElem?_replicate] at hq
    split at hq
    · cases hq
      rw [List.getElem?_map, Option.map_eq_some_iff] at ho
      obtain ⟨d, hd, rfl⟩ := ho
      exact .d v d ((hr j v d hv hd).mono fun b hb => by
        rcases hb with hb | hb
        · exact hb
        · unfold Blk at hb; simp at hb)
    · cases hq
  · subst he
    have hb : ∀ (ds : List D) (vs : List Value), bxPtrs (ds.map O.d) vs = [] := fun ds => by
      induction ds with
      | nil => intro vs; cases vs <;> rfl
      | cons d ds ih => intro vs; cases vs with
        | nil => rfl
        | cons v vs => exact ih vs
    unfold Ret at hret
    rw [hb] at hret
    simp only at hret
    subst hret
    have hv : u = .bool true := by
      cases hro with
      | d _ _ h => cases h; rfl
    subst hv
    exact ⟨rfl, hfr.os, hfr.tape, hfr.output, hfr.ext.size, fun k hk => hfr.ext.same k hk (by unfold Blk; simp)⟩
end Go.Ev

namespace Go.Ev
open Go.ChangeShapes Go.WideShapes Go.ChangeAt Go.RowKit Go.Proofs
section
variable {H : Type} {enc : TypeId × Value → H} {P : Program} {w : World} {sp : Nat → Bool} {held : Bool}
theorem rdI {t : TypeId} {k : IntKind} (ht : P.underlying t = some (.int k)) {fuel : Nat} {cs : List Value} {x : DataW H × List MemPlace} (h : DataW.trod enc P w 0 sp held fuel t cs = some x) : ∃ n : Int, True ∧ RDs w cs [.i k n] :=
  let ⟨n, _, h⟩ := read_int ht h; ⟨n, trivial, h⟩
theorem rdB {t : TypeId} (ht : P.underlying t = some .bool) {fuel : Nat} {cs : List Value} {x : DataW H × List MemPlace} (h : DataW.trod enc P w 0 sp held fuel t cs = some x) : ∃ n : Bool, True ∧ RDs w cs [.b n] :=
  let ⟨n, h⟩ := read_bool ht h; ⟨n, trivial, h⟩
theorem rdS {t : TypeId} (ht : P.underlying t = some .string) {fuel : Nat} {cs : List Value} {x : DataW H × List MemPlace} (h : DataW.trod enc P w 0 sp held fuel t cs = some x) : ∃ n : ByteArray, True ∧ RDs w cs [.s n] :=
  let ⟨n, _, h⟩ := read_string ht h; ⟨n, trivial, h⟩
theorem rdL {t e : TypeId} {α : Type} {encf : α → D} {sz : Nat} (ht : P.underlying t = some (.slice e)) (hsz : P.cellsOf e = sz) (h0 : 0 < sz) (hc : ∀ r, (encf r).cells.length = sz)
    (he : ∀ (fuel : Nat) (cs : List Value) (x : DataW H × List MemPlace), DataW.trod enc P w 0 sp held fuel e cs = some x → ∃ r, True ∧ RDs w cs (encf r).cells)
    {fuel : Nat} {cs : List Value} {x : DataW H × List MemPlace} (h : DataW.trod enc P w 0 sp held fuel t cs = some x) : ∃ l : List α, True ∧ RDs w cs [.sl sz (l.map encf)] :=
  let ⟨l, _, _, h⟩ := read_slice (Ok := fun _ => True) ht hsz h0 hc he h; ⟨l, trivial, h⟩
theorem read_Change {fuel : Nat} {cs : List Value} {x : DataW H × List MemPlace} (h : DataW.trod enc Try.prog w 0 sp held fuel 49 cs = some x) : ∃ r : Change, True ∧ RDs w cs (encChange r).cells := by
  obtain ⟨xs, n, _, _, hl, hx, hf⟩ := DataW.trod_struct Try.underlying49 h
  rw [cellsOf_of Ty.sz49] at hl
  obtain ⟨y0, hy0⟩ := at_field hx (i := 0) (by decide)
  have f0 : DataW.trod enc Try.prog w 0 sp held n 9 ((cs.drop 0).take (Try.prog.cellsOf 9)) = xs[0]? := hf 0 _ rfl
  rw [cellsOf_of Ty.sz9, hy0] at f0
  obtain ⟨a0, _, d0⟩ := rdS Try.underlying9 f0
  obtain ⟨y1, hy1⟩ := at_field hx (i := 1) (by decide)
  have f1 : DataW.trod enc Try.prog w 0 sp held n 3 ((cs.drop 1).take (Try.prog.cellsOf 3)) = xs[1]? := hf 1 _ rfl
  rw [cellsOf_of Ty.sz3, hy1] at f1
  obtain ⟨a1, _, d1⟩ := rdI (k := .i64) Try.underlying3 f1
  obtain ⟨y2, hy2⟩ := at_field hx (i := 2) (by decide)
  have f2 : DataW.trod enc Try.prog w 0 sp held n 3 ((cs.drop 2).take (Try.prog.cellsOf 3)) = xs[2]? := hf 2 _ rfl
  rw [cellsOf_of Ty.sz3, hy2] at f2
  obtain ⟨a2, _, d2⟩ := rdI (k := .i64) Try.underlying3 f2
  obtain ⟨y3, hy3⟩ := at_field hx (i := 3) (by decide)
  have f3 : DataW.trod enc Try.prog w 0 sp held n 9 ((cs.drop 3).take (Try.prog.cellsOf 9)) = xs[3]? := hf 3 _ rfl
  rw [cellsOf_of Ty.sz9, hy3] at f3
  obtain ⟨a3, _, d3⟩ := rdS Try.underlying9 f3
  obtain ⟨y4, hy4⟩ := at_field hx (i := 4) (by decide)
  have f4 : DataW.trod enc Try.prog w 0 sp held n 9 ((cs.drop 4).take (Try.prog.cellsOf 9)) = xs[4]? := hf 4 _ rfl
  rw [cellsOf_of Ty.sz9, hy4] at f4
  obtain ⟨a4, _, d4⟩ := rdS Try.underlying9 f4
  exact ⟨⟨a0, a1, a2, a3, a4⟩, trivial, (RDs.join d0 (RDs.join d1 (RDs.join d2 (RDs.join d3 (RDs.join d4 (RDs.last hl) rfl) rfl) rfl) rfl) rfl)⟩
theorem read_Entry {fuel : Nat} {cs : List Value} {x : DataW H × List MemPlace} (h : DataW.trod enc Try.prog w 0 sp held fuel 51 cs = some x) : ∃ r : Entry, True ∧ RDs w cs (encEntry r).cells := by
  obtain ⟨xs, n, _, _, hl, hx, hf⟩ := DataW.trod_struct Try.underlying51 h
  rw [cellsOf_of Ty.sz51] at hl
  obtain ⟨y0, hy0⟩ := at_field hx (i := 0) (by decide)
  have f0 : DataW.trod enc Try.prog w 0 sp held n 3 ((cs.drop 0).take (Try.prog.cellsOf 3)) = xs[0]? := hf 0 _ rfl
  rw [cellsOf_of Ty.sz3, hy0] at f0
  obtain ⟨a0, _, d0⟩ := rdI (k := .i64) Try.underlying3 f0
  obtain ⟨y1, hy1⟩ := at_field hx (i := 1) (by decide)
  have f1 : DataW.trod enc Try.prog w 0 sp held n 3 ((cs.drop 1).take (Try.prog.cellsOf 3)) = xs[1]? := hf 1 _ rfl
  rw [cellsOf_of Ty.sz3, hy1] at f1
  obtain ⟨a1, _, d1⟩ := rdI (k := .i64) Try.underlying3 f1
  obtain ⟨y2, hy2⟩ := at_field hx (i := 2) (by decide)
  have f2 : DataW.trod enc Try.prog w 0 sp held n 3 ((cs.drop 2).take (Try.prog.cellsOf 3)) = xs[2]? := hf 2 _ rfl
  rw [cellsOf_of Ty.sz3, hy2] at f2
  obtain ⟨a2, _, d2⟩ := rdI (k := .i64) Try.underlying3 f2
  obtain ⟨y3, hy3⟩ := at_field hx (i := 3) (by decide)
  have f3 : DataW.trod enc Try.prog w 0 sp held n 49 ((cs.drop 3).take (Try.prog.cellsOf 49)) = xs[3]? := hf 3 _ rfl
  rw [cellsOf_of Ty.sz49, hy3] at f3
  obtain ⟨a3, _, d3⟩ := read_Change f3
  exact ⟨⟨a0, a1, a2, a3⟩, trivial, (RDs.join d0 (RDs.join d1 (RDs.join d2 (RDs.join d3 (RDs.last hl) rfl) rfl) rfl) rfl)⟩
theorem read_DType {fuel : Nat} {cs : List Value} {x : DataW H × List MemPlace} (h : DataW.trod enc Try.prog w 0 sp held fuel 103 cs = some x) : ∃ r : DType, True ∧ RDs w cs (encDType r).cells := by
  obtain ⟨xs, n, _, _, hl, hx, hf⟩ := DataW.trod_struct Try.underlying103 h
  rw [cellsOf_of Ty.sz103] at hl
  obtain ⟨y0, hy0⟩ := at_field hx (i := 0) (by decide)
  have f0 : DataW.trod enc Try.prog w 0 sp held n 3 ((cs.drop 0).take (Try.prog.cellsOf 3)) = xs[0]? := hf 0 _ rfl
  rw [cellsOf_of Ty.sz3, hy0] at f0
  obtain ⟨a0, _, d0⟩ := rdI (k := .i64) Try.underlying3 f0
  obtain ⟨y1, hy1⟩ := at_field hx (i := 1) (by decide)
  have f1 : DataW.trod enc Try.prog w 0 sp held n 3 ((cs.drop 1).take (Try.prog.cellsOf 3)) = xs[1]? := hf 1 _ rfl
  rw [cellsOf_of Ty.sz3, hy1] at f1
  obtain ⟨a1, _, d1⟩ := rdI (k := .i64) Try.underlying3 f1
  obtain ⟨y2, hy2⟩ := at_field hx (i := 2) (by decide)
  have f2 : DataW.trod enc Try.prog w 0 sp held n 3 ((cs.drop 2).take (Try.prog.cellsOf 3)) = xs[2]? := hf 2 _ rfl
  rw [cellsOf_of Ty.sz3, hy2] at f2
  obtain ⟨a2, _, d2⟩ := rdI (k := .i64) Try.underlying3 f2
  exact ⟨⟨a0, a1, a2⟩, trivial, (RDs.join d0 (RDs.join d1 (RDs.join d2 (RDs.last hl) rfl) rfl) rfl)⟩
theorem read_Field {fuel : Nat} {cs : List Value} {x : DataW H × List MemPlace} (h : DataW.trod enc Try.prog w 0 sp held fuel 105 cs = some x) : ∃ r : Field, True ∧ RDs w cs (encField r).cells := by
  obtain ⟨xs, n, _, _, hl, hx, hf⟩ := DataW.trod_struct Try.underlying105 h
  rw [cellsOf_of Ty.sz105] at hl
  obtain ⟨y0, hy0⟩ := at_field hx (i := 0) (by decide)
  have f0 : DataW.trod enc Try.prog w 0 sp held n 9 ((cs.drop 0).take (Try.prog.cellsOf 9)) = xs[0]? := hf 0 _ rfl
  rw [cellsOf_of Ty.sz9, hy0] at f0
  obtain ⟨a0, _, d0⟩ := rdS Try.underlying9 f0
  obtain ⟨y1, hy1⟩ := at_field hx (i := 1) (by decide)
  have f1 : DataW.trod enc Try.prog w 0 sp held n 103 ((cs.drop 1).take (Try.prog.cellsOf 103)) = xs[1]? := hf 1 _ rfl
  rw [cellsOf_of Ty.sz103, hy1] at f1
  obtain ⟨a1, _, d1⟩ := read_DType f1
  exact ⟨⟨a0, a1⟩, trivial, (RDs.join d0 (RDs.join d1 (RDs.last hl) rfl) rfl)⟩
theorem read_Fmt {fuel : Nat} {cs : List Value} {x : DataW H × List MemPlace} (h : DataW.trod enc Try.prog w 0 sp held fuel 80 cs = some x) : ∃ r : Fmt, True ∧ RDs w cs (encFmt r).cells := by
  obtain ⟨xs, n, _, _, hl, hx, hf⟩ := DataW.trod_struct Try.underlying80 h
  rw [cellsOf_of Ty.sz80] at hl
  obtain ⟨y0, hy0⟩ := at_field hx (i := 0) (by decide)
  have f0 : DataW.trod enc Try.prog w 0 sp held n 9 ((cs.drop 0).take (Try.prog.cellsOf 9)) = xs[0]? := hf 0 _ rfl
  rw [cellsOf_of Ty.sz9, hy0] at f0
  obtain ⟨a0, _, d0⟩ := rdS Try.underlying9 f0
  obtain ⟨y1, hy1⟩ := at_field hx (i := 1) (by decide)
  have f1 : DataW.trod enc Try.prog w 0 sp held n 78 ((cs.drop 1).take (Try.prog.cellsOf 78)) = xs[1]? := hf 1 _ rfl
  rw [cellsOf_of Ty.sz78, hy1] at f1
  obtain ⟨a1, _, d1⟩ := rdL (sz := 4) Try.underlying78 (cellsOf_of Ty.sz105) (by decide) (fun _ => rfl) (fun _ _ _ h => read_Field h) f1
  exact ⟨⟨a0, a1⟩, trivial, (RDs.join d0 (RDs.join d1 (RDs.last hl) rfl) rfl)⟩
theorem read_KField {fuel : Nat} {cs : List Value} {x : DataW H × List MemPlace} (h : DataW.trod enc Try.prog w 0 sp held fuel 108 cs = some x) : ∃ r : KField, True ∧ RDs w cs (encKField r).cells := by
  obtain ⟨xs, n, _, _, hl, hx, hf⟩ := DataW.trod_struct Try.underlying108 h
  rw [cellsOf_of Ty.sz108] at hl
  obtain ⟨y0, hy0⟩ := at_field hx (i := 0) (by decide)
  have f0 : DataW.trod enc Try.prog w 0 sp held n 9 ((cs.drop 0).take (Try.prog.cellsOf 9)) = xs[0]? := hf 0 _ rfl
  rw [cellsOf_of Ty.sz9, hy0] at f0
  obtain ⟨a0, _, d0⟩ := rdS Try.underlying9 f0
  obtain ⟨y1, hy1⟩ := at_field hx (i := 1) (by decide)
  have f1 : DataW.trod enc Try.prog w 0 sp held n 4 ((cs.drop 1).take (Try.prog.cellsOf 4)) = xs[1]? := hf 1 _ rfl
  rw [cellsOf_of Ty.sz4, hy1] at f1
  obtain ⟨a1, _, d1⟩ := rdB Try.underlying4 f1
  exact ⟨⟨a0, a1⟩, trivial, (RDs.join d0 (RDs.join d1 (RDs.last hl) rfl) rfl)⟩
theorem read_File {fuel : Nat} {cs : List Value} {x : DataW H × List MemPlace} (h : DataW.trod enc Try.prog w 0 sp held fuel 83 cs = some x) : ∃ r : File, True ∧ RDs w cs (encFile r).cells := by
  obtain ⟨xs, n, _, _, hl, hx, hf⟩ := DataW.trod_struct Try.underlying83 h
  rw [cellsOf_of Ty.sz83] at hl
  obtain ⟨y0, hy0⟩ := at_field hx (i := 0) (by decide)
  have f0 : DataW.trod enc Try.prog w 0 sp held n 9 ((cs.drop 0).take (Try.prog.cellsOf 9)) = xs[0]? := hf 0 _ rfl
  rw [cellsOf_of Ty.sz9, hy0] at f0
  obtain ⟨a0, _, d0⟩ := rdS Try.underlying9 f0
  obtain ⟨y1, hy1⟩ := at_field hx (i := 1) (by decide)
  have f1 : DataW.trod enc Try.prog w 0 sp held n 80 ((cs.drop 1).take (Try.prog.cellsOf 80)) = xs[1]? := hf 1 _ rfl
  rw [cellsOf_of Ty.sz80, hy1] at f1
  obtain ⟨a1, _, d1⟩ := read_Fmt f1
  obtain ⟨y2, hy2⟩ := at_field hx (i := 2) (by decide)
  have f2 : DataW.trod enc Try.prog w 0 sp held n 81 ((cs.drop 3).take (Try.prog.cellsOf 81)) = xs[2]? := hf 2 _ rfl
  rw [cellsOf_of Ty.sz81, hy2] at f2
  obtain ⟨a2, _, d2⟩ := rdL (sz := 2) Try.underlying81 (cellsOf_of Ty.sz108) (by decide) (fun _ => rfl) (fun _ _ _ h => read_KField h) f2
  obtain ⟨y3, hy3⟩ := at_field hx (i := 3) (by decide)
  have f3 : DataW.trod enc Try.prog w 0 sp held n 4 ((cs.drop 4).take (Try.prog.cellsOf 4)) = xs[3]? := hf 3 _ rfl
  rw [cellsOf_of Ty.sz4, hy3] at f3
  obtain ⟨a3, _, d3⟩ := rdB Try.underlying4 f3
  exact ⟨⟨a0, a1, a2, a3⟩, trivial, (RDs.join d0 (RDs.join d1 (RDs.join d2 (RDs.join d3 (RDs.last hl) rfl) rfl) rfl) rfl)⟩
theorem read_Rec {fuel : Nat} {cs : List Value} {x : DataW H × List MemPlace} (h : DataW.trod enc Try.prog w 0 sp held fuel 99 cs = some x) : ∃ r : Rec, True ∧ RDs w cs (encRec r).cells := by
  obtain ⟨xs, n, _, _, hl, hx, hf⟩ := DataW.trod_struct Try.underlying99 h
  rw [cellsOf_of Ty.sz99] at hl
  obtain ⟨y0, hy0⟩ := at_field hx (i := 0) (by decide)
  have f0 : DataW.trod enc Try.prog w 0 sp held n 4 ((cs.drop 0).take (Try.prog.cellsOf 4)) = xs[0]? := hf 0 _ rfl
  rw [cellsOf_of Ty.sz4, hy0] at f0
  obtain ⟨a0, _, d0⟩ := rdB Try.underlying4 f0
  obtain ⟨y1, hy1⟩ := at_field hx (i := 1) (by decide)
  have f1 : DataW.trod enc Try.prog w 0 sp held n 9 ((cs.drop 1).take (Try.prog.cellsOf 9)) = xs[1]? := hf 1 _ rfl
  rw [cellsOf_of Ty.sz9, hy1] at f1
  obtain ⟨a1, _, d1⟩ := rdS Try.underlying9 f1
  exact ⟨⟨a0, a1⟩, trivial, (RDs.join d0 (RDs.join d1 (RDs.last hl) rfl) rfl)⟩
theorem read_Table {fuel : Nat} {cs : List Value} {x : DataW H × List MemPlace} (h : DataW.trod enc Try.prog w 0 sp held fuel 86 cs = some x) : ∃ r : Table, True ∧ RDs w cs (encTable r).cells := by
  obtain ⟨xs, n, _, _, hl, hx, hf⟩ := DataW.trod_struct Try.underlying86 h
  rw [cellsOf_of Ty.sz86] at hl
  obtain ⟨y0, hy0⟩ := at_field hx (i := 0) (by decide)
  have f0 : DataW.trod enc Try.prog w 0 sp held n 83 ((cs.drop 0).take (Try.prog.cellsOf 83)) = xs[0]? := hf 0 _ rfl
  rw [cellsOf_of Ty.sz83, hy0] at f0
  obtain ⟨a0, _, d0⟩ := read_File f0
  obtain ⟨y1, hy1⟩ := at_field hx (i := 1) (by decide)
  have f1 : DataW.trod enc Try.prog w 0 sp held n 84 ((cs.drop 5).take (Try.prog.cellsOf 84)) = xs[1]? := hf 1 _ rfl
  rw [cellsOf_of Ty.sz84, hy1] at f1
  obtain ⟨a1, _, d1⟩ := rdL (sz := 2) Try.underlying84 (cellsOf_of Ty.sz99) (by decide) (fun _ => rfl) (fun _ _ _ h => read_Rec h) f1
  exact ⟨⟨a0, a1⟩, trivial, (RDs.join d0 (RDs.join d1 (RDs.last hl) rfl) rfl)⟩
end
end Go.Ev
