/- Tools and contracts under the laws of this seat: DvT, DevRead, DevReadT. -/
import Derived.Test.YtblpebplbdoneaaE03
import Derived.Test.YtblpebplbdoneaaE04
import Derived.Test.YtblpebplbdoneaaE05
import Derived.Test.YtblpebplbdoneaaE06
import Derived.Test.YtblpebplbdoneaaE07
import Derived.Test.YtblpebplbdoneaaE08
import Derived.Test.YtblpebplbdoneaaE09
import Derived.Test.YtblpebplbdoneaaE10
import Derived.Test.YtblpebplbdoneaaE11
import Derived.Test.YtblpebplbdoneaaE02
import Derived.ProofKit
import Derived.ChangeArms
set_option linter.unusedVariables false
set_option linter.unusedSimpArgs false
namespace Go.Ev
open Go.Proofs Ty
set_option maxRecDepth 10000
set_option maxHeartbeats 4000000
set_option linter.unusedSimpArgs false
set_option linter.unusedVariables false
theorem en43 : Enters Try.prog 43 := ⟨_, Try.func43, rfl, rfl⟩
theorem so43 (args : List O) (p : Prop) (r : O) (h : e43 args = some (p, r)) (hp : p) : Sem Try.prog 43 args r := by
  unfold e43 at h
  split at h
  · cases h; exact con43 (cok_of (TabOk.nil _) follows) _ _ _
  · cases h
theorem tok43 : TabOk Try.prog tab43 := TabOk.add ((TabOk.nil _)) en43 so43

theorem en72 : Enters Try.prog 72 := ⟨_, Try.func72, rfl, rfl⟩
theorem so72 (args : List O) (p : Prop) (r : O) (h : e72 args = some (p, r)) (hp : p) : Sem Try.prog 72 args r := by
  unfold e72 at h
  split at h
  · cases h; exact con72 (cok_of tok43 follows) _ _ _
  · cases h
theorem tok72 : TabOk Try.prog tab72 := TabOk.add (tok43) en72 so72

theorem en56 : Enters Try.prog 56 := ⟨_, Try.func56, rfl, rfl⟩
theorem so56 (args : List O) (p : Prop) (r : O) (h : e56 args = some (p, r)) (hp : p) : Sem Try.prog 56 args r := by
  unfold e56 at h
  split at h
  · cases h; exact con56 (cok_of tok72 follows) _
  · cases h
theorem tok56 : TabOk Try.prog tab56 := TabOk.add (tok72) en56 so56

theorem en85 : Enters Try.prog 85 := ⟨_, Try.func85, rfl, rfl⟩
theorem so85 (args : List O) (p : Prop) (r : O) (h : e85 args = some (p, r)) (hp : p) : Sem Try.prog 85 args r := by
  unfold e85 at h
  split at h
  · cases h; exact con85 (cok_of tok56 follows) _
  · cases h
theorem tok85 : TabOk Try.prog tab85 := TabOk.add (tok56) en85 so85

theorem en86 : Enters Try.prog 86 := ⟨_, Try.func86, rfl, rfl⟩
theorem so86 (args : List O) (p : Prop) (r : O) (h : e86 args = some (p, r)) (hp : p) : Sem Try.prog 86 args r := by
  unfold e86 at h
  split at h
  · cases h; exact con86 (cok_of tok85 follows) _
  · cases h
theorem tok86 : TabOk Try.prog tab86 := TabOk.add (tok85) en86 so86

theorem en68 : Enters Try.prog 68 := ⟨_, Try.func68, rfl, rfl⟩
theorem so68 (args : List O) (p : Prop) (r : O) (h : e68 args = some (p, r)) (hp : p) : Sem Try.prog 68 args r := by
  unfold e68 at h
  split at h
  · cases h; exact con68 (cok_of tok86 follows) _
  · cases h
theorem tok68 : TabOk Try.prog tab68 := TabOk.add (tok86) en68 so68

theorem en73 : Enters Try.prog 73 := ⟨_, Try.func73, rfl, rfl⟩
theorem so73 (args : List O) (p : Prop) (r : O) (h : e73 args = some (p, r)) (hp : p) : Sem Try.prog 73 args r := by
  unfold e73 at h
  split at h
  · cases h; exact con73 (cok_of tok68 follows) _
  · cases h
theorem tok73 : TabOk Try.prog tab73 := TabOk.add (tok68) en73 so73

theorem en69 : Enters Try.prog 69 := ⟨_, Try.func69, rfl, rfl⟩
theorem so69 (args : List O) (p : Prop) (r : O) (h : e69 args = some (p, r)) (hp : p) : Sem Try.prog 69 args r := by
  unfold e69 at h
  split at h
  · split at h
    · rename_i h_c
      cases h; exact (con69 (cok_of tok73 follows) _).le ⟨decChange_le h_c, trivial⟩ (ole_refl _)
    · cases h
  · cases h
theorem tok69 : TabOk Try.prog tab69 := TabOk.add (tok73) en69 so69

theorem en67 : Enters Try.prog 67 := ⟨_, Try.func67, rfl, rfl⟩
theorem so67 (args : List O) (p : Prop) (r : O) (h : e67 args = some (p, r)) (hp : p) : Sem Try.prog 67 args r := by
  unfold e67 at h
  split at h
  · split at h
    · rename_i h_e
      cases h; exact (con67 (cok_of tok69 follows) _).le ⟨decEntry_le h_e, trivial⟩ (ole_refl _)
    · cases h
  · cases h
theorem tok67 : TabOk Try.prog tab67 := TabOk.add (tok69) en67 so67

theorem en62 : Enters Try.prog 62 := ⟨_, Try.func62, rfl, rfl⟩
theorem so62 (args : List O) (p : Prop) (r : O) (h : e62 args = some (p, r)) (hp : p) : Sem Try.prog 62 args r := by
  unfold e62 at h
  split at h
  · split at h
    · rename_i h_e
      cases h; exact (con62 (cok_of tok67 follows) _).le ⟨decEntry_le h_e, trivial⟩ (ole_refl _)
    · cases h
  · cases h
theorem tok62 : TabOk Try.prog tab62 := TabOk.add (tok67) en62 so62

theorem en64 : Enters Try.prog 64 := ⟨_, Try.func64, rfl, rfl⟩
theorem so64 (args : List O) (p : Prop) (r : O) (h : e64 args = some (p, r)) (hp : p) : Sem Try.prog 64 args r := by
  unfold e64 at h
  split at h
  · split at h
    · rename_i h_e
      cases h; exact (con64 (cok_of tok62 follows) _).le ⟨decEntry_le h_e, trivial⟩ (ole_refl _)
    · cases h
  · cases h
theorem tok64 : TabOk Try.prog tab64 := TabOk.add (tok62) en64 so64

theorem en35 : Enters Try.prog 35 := ⟨_, Try.func35, rfl, rfl⟩
theorem so35 (args : List O) (p : Prop) (r : O) (h : e35 args = some (p, r)) (hp : p) : Sem Try.prog 35 args r := by
  unfold e35 at h
  split at h
  · split at h
    · rename_i h_l
      cases h; exact (con35 (cok_of tok64 follows) _).le ⟨decL_le decEntry_le h_l, trivial⟩ (ole_refl _)
    · cases h
  · cases h
theorem tok35 : TabOk Try.prog tab35 := TabOk.add (tok64) en35 so35

theorem en71 : Enters Try.prog 71 := ⟨_, Try.func71, rfl, rfl⟩
theorem so71 (args : List O) (p : Prop) (r : O) (h : e71 args = some (p, r)) (hp : p) : Sem Try.prog 71 args r := by
  unfold e71 at h
  split at h
  · split at h
    · rename_i h_l
      cases h; exact (con71 (cok_of tok35 follows) _ _ hp).le ⟨decL_le decEntry_le h_l, dle_refl _, trivial⟩ (ole_refl _)
    · cases h
  · cases h
theorem tok71 : TabOk Try.prog tab71 := TabOk.add (tok35) en71 so71

theorem en87 : Enters Try.prog 87 := ⟨_, Try.func87, rfl, rfl⟩
theorem so87 (args : List O) (p : Prop) (r : O) (h : e87 args = some (p, r)) (hp : p) : Sem Try.prog 87 args r := by
  unfold e87 at h
  split at h
  · split at h
    · rename_i h_l
      cases h; exact (con87 (cok_of tok71 follows) _ _ hp).le ⟨decL_le decEntry_le h_l, dle_refl _, trivial⟩ (ole_refl _)
    · cases h
  · cases h
theorem tok87 : TabOk Try.prog tab87 := TabOk.add (tok71) en87 so87

theorem en70 : Enters Try.prog 70 := ⟨_, Try.func70, rfl, rfl⟩
theorem so70 (args : List O) (p : Prop) (r : O) (h : e70 args = some (p, r)) (hp : p) : Sem Try.prog 70 args r := by
  unfold e70 at h
  split at h
  · split at h
    · rename_i h_l
      cases h; exact (con70 (cok_of tok87 follows) _ _ hp).le ⟨decL_le decEntry_le h_l, dle_refl _, trivial⟩ (ole_refl _)
    · cases h
  · cases h
theorem tok70 : TabOk Try.prog tab70 := TabOk.add (tok87) en70 so70

theorem en63 : Enters Try.prog 63 := ⟨_, Try.func63, rfl, rfl⟩
theorem so63 (args : List O) (p : Prop) (r : O) (h : e63 args = some (p, r)) (hp : p) : Sem Try.prog 63 args r := by
  unfold e63 at h
  split at h
  · split at h
    · rename_i h_l h_e
      cases h; exact (con63 (cok_of tok70 follows) _ _ hp).le ⟨decL_le decEntry_le h_l, decEntry_le h_e, trivial⟩ (ole_refl _)
    · cases h
  · cases h
theorem tok63 : TabOk Try.prog tab63 := TabOk.add (tok70) en63 so63

theorem en57 : Enters Try.prog 57 := ⟨_, Try.func57, rfl, rfl⟩
theorem so57 (args : List O) (p : Prop) (r : O) (h : e57 args = some (p, r)) (hp : p) : Sem Try.prog 57 args r := by
  unfold e57 at h
  split at h
  · split at h
    · rename_i h_l
      cases h; exact (con57 (cok_of tok63 follows) _ hp).le ⟨decL_le decEntry_le h_l, trivial⟩ (ole_refl _)
    · cases h
  · cases h
theorem tok57 : TabOk Try.prog tab57 := TabOk.add (tok63) en57 so57

theorem en41 : Enters Try.prog 41 := ⟨_, Try.func41, rfl, rfl⟩
theorem so41 (args : List O) (p : Prop) (r : O) (h : e41 args = some (p, r)) (hp : p) : Sem Try.prog 41 args r := by
  unfold e41 at h
  split at h
  · split at h
    · rename_i h_l
      cases h; exact (con41 (cok_of tok57 follows) _ hp).le ⟨decL_le decEntry_le h_l, trivial⟩ (ole_refl _)
    · cases h
  · cases h
theorem tok41 : TabOk Try.prog tab41 := TabOk.add (tok57) en41 so41

theorem en27 : Enters Try.prog 27 := ⟨_, Try.func27, rfl, rfl⟩
theorem so27 (args : List O) (p : Prop) (r : O) (h : e27 args = some (p, r)) (hp : p) : Sem Try.prog 27 args r := by
  unfold e27 at h
  split at h
  · split at h
    · rename_i h_a h_b
      cases h; exact (con27 (cok_of tok41 follows) _ _ hp).le ⟨decL_le decEntry_le h_a, decL_le decEntry_le h_b, trivial⟩ (ole_refl _)
    · cases h
  · cases h
theorem tok27 : TabOk Try.prog tab27 := TabOk.add (tok41) en27 so27

theorem en46 : Enters Try.prog 46 := ⟨_, Try.func46, rfl, rfl⟩
theorem so46 (args : List O) (p : Prop) (r : O) (h : e46 args = some (p, r)) (hp : p) : Sem Try.prog 46 args r := by
  unfold e46 at h
  split at h
  · split at h
    · rename_i h_a h_b
      cases h; exact (con46 (cok_of tok27 follows) _ _ hp).le ⟨decL_le decEntry_le h_a, decL_le decEntry_le h_b, trivial⟩ (ole_refl _)
    · cases h
  · cases h
theorem tok46 : TabOk Try.prog tab46 := TabOk.add (tok27) en46 so46

theorem en42 : Enters Try.prog 42 := ⟨_, Try.func42, rfl, rfl⟩
theorem so42 (args : List O) (p : Prop) (r : O) (h : e42 args = some (p, r)) (hp : p) : Sem Try.prog 42 args r := by
  unfold e42 at h
  split at h
  · split at h
    · rename_i h_l h_first
      cases h; exact (con42 (cok_of tok46 follows) _ _ hp).le ⟨decL_le decEntry_le h_l, decL_le decEntry_le h_first, trivial⟩ (ole_refl _)
    · cases h
  · cases h
theorem tok42 : TabOk Try.prog tab42 := TabOk.add (tok46) en42 so42

theorem en58 : Enters Try.prog 58 := ⟨_, Try.func58, rfl, rfl⟩
theorem so58 (args : List O) (p : Prop) (r : O) (h : e58 args = some (p, r)) (hp : p) : Sem Try.prog 58 args r := by
  unfold e58 at h
  split at h
  · split at h
    · rename_i h_l
      cases h; exact (con58 (cok_of tok42 follows) _ hp).le ⟨decL_le decEntry_le h_l, trivial⟩ (ole_refl _)
    · cases h
  · cases h
theorem tok58 : TabOk Try.prog tab58 := TabOk.add (tok42) en58 so58

theorem en45 : Enters Try.prog 45 := ⟨_, Try.func45, rfl, rfl⟩
theorem so45 (args : List O) (p : Prop) (r : O) (h : e45 args = some (p, r)) (hp : p) : Sem Try.prog 45 args r := by
  unfold e45 at h
  split at h
  · split at h
    · rename_i h_l
      cases h; exact (con45 (cok_of tok58 follows) _ hp).le ⟨decL_le decEntry_le h_l, trivial⟩ (ole_refl _)
    · cases h
  · cases h
theorem tok45 : TabOk Try.prog tab45 := TabOk.add (tok58) en45 so45

theorem en21 : Enters Try.prog 21 := ⟨_, Try.func21, rfl, rfl⟩
theorem so21 (args : List O) (p : Prop) (r : O) (h : e21 args = some (p, r)) (hp : p) : Sem Try.prog 21 args r := by
  unfold e21 at h
  split at h
  · split at h
    · rename_i h_x
      cases h; exact (con21 (cok_of tok45 follows) _ hp).le ⟨decRemote_le h_x, trivial⟩ (ole_refl _)
    · cases h
  · cases h
theorem tok21 : TabOk Try.prog tab21 := TabOk.add (tok45) en21 so21

theorem en23 : Enters Try.prog 23 := ⟨_, Try.func23, rfl, rfl⟩
theorem so23 (args : List O) (p : Prop) (r : O) (h : e23 args = some (p, r)) (hp : p) : Sem Try.prog 23 args r := by
  unfold e23 at h
  split at h
  · split at h
    · rename_i h_x
      cases h; exact (con23 (cok_of tok21 follows) _ hp).le ⟨decRemote_le h_x, trivial⟩ (ole_refl _)
    · cases h
  · cases h
theorem tok23 : TabOk Try.prog tab23 := TabOk.add (tok21) en23 so23

theorem en38 : Enters Try.prog 38 := ⟨_, Try.func38, rfl, rfl⟩
theorem so38 (args : List O) (p : Prop) (r : O) (h : e38 args = some (p, r)) (hp : p) : Sem Try.prog 38 args r := by
  unfold e38 at h
  split at h
  · split at h
    · rename_i h_l
      cases h; exact (con38 (cok_of tok23 follows) _ hp).le ⟨decL_le decEntry_le h_l, trivial⟩ (ole_refl _)
    · cases h
  · cases h
theorem tok38 : TabOk Try.prog tab38 := TabOk.add (tok23) en38 so38

theorem en44 : Enters Try.prog 44 := ⟨_, Try.func44, rfl, rfl⟩
theorem so44 (args : List O) (p : Prop) (r : O) (h : e44 args = some (p, r)) (hp : p) : Sem Try.prog 44 args r := by
  unfold e44 at h
  split at h
  · split at h
    · rename_i h_l
      cases h; exact (con44 (cok_of tok38 follows) _ hp).le ⟨decL_le decEntry_le h_l, trivial⟩ (ole_refl _)
    · cases h
  · cases h
theorem tok44 : TabOk Try.prog tab44 := TabOk.add (tok38) en44 so44

theorem en51 : Enters Try.prog 51 := ⟨_, Try.func51, rfl, rfl⟩
theorem so51 (args : List O) (p : Prop) (r : O) (h : e51 args = some (p, r)) (hp : p) : Sem Try.prog 51 args r := by
  unfold e51 at h
  split at h
  · split at h
    · rename_i h_l
      cases h; exact (con51 (cok_of tok44 follows) _ hp).le ⟨decL_le decPacket_le h_l, trivial⟩ (ole_refl _)
    · cases h
  · cases h
theorem tok51 : TabOk Try.prog tab51 := TabOk.add (tok44) en51 so51

theorem en15 : Enters Try.prog 15 := ⟨_, Try.func15, rfl, rfl⟩
theorem so15 (args : List O) (p : Prop) (r : O) (h : e15 args = some (p, r)) (hp : p) : Sem Try.prog 15 args r := by
  unfold e15 at h
  split at h
  · split at h
    · rename_i h_l
      cases h; exact (con15 (cok_of tok51 follows) _ hp).le ⟨decL_le decRAct_le h_l, trivial⟩ (ole_refl _)
    · cases h
  · cases h
theorem tok15 : TabOk Try.prog tab15 := TabOk.add (tok51) en15 so15

theorem en36 : Enters Try.prog 36 := ⟨_, Try.func36, rfl, rfl⟩
theorem so36 (args : List O) (p : Prop) (r : O) (h : e36 args = some (p, r)) (hp : p) : Sem Try.prog 36 args r := by
  unfold e36 at h
  split at h
  · split at h
    · rename_i h_x
      cases h; exact (con36 (cok_of tok15 follows) _ hp).le ⟨decRemote_le h_x, trivial⟩ (ole_refl _)
    · cases h
  · cases h
theorem tok36 : TabOk Try.prog tab36 := TabOk.add (tok15) en36 so36

theorem en14 : Enters Try.prog 14 := ⟨_, Try.func14, rfl, rfl⟩
theorem so14 (args : List O) (p : Prop) (r : O) (h : e14 args = some (p, r)) (hp : p) : Sem Try.prog 14 args r := by
  unfold e14 at h
  split at h
  · split at h
    · rename_i h_x
      cases h; exact (con14 (cok_of tok36 follows) _ hp).le ⟨decRemote_le h_x, trivial⟩ (ole_refl _)
    · cases h
  · cases h
theorem tok14 : TabOk Try.prog tab14 := TabOk.add (tok36) en14 so14

theorem en11 : Enters Try.prog 11 := ⟨_, Try.func11, rfl, rfl⟩
theorem so11 (args : List O) (p : Prop) (r : O) (h : e11 args = some (p, r)) (hp : p) : Sem Try.prog 11 args r := by
  unfold e11 at h
  split at h
  · split at h
    · rename_i h_x
      cases h; exact (con11 (cok_of tok14 follows) _).le ⟨decRemote_le h_x, trivial⟩ (ole_refl _)
    · cases h
  · cases h
theorem tok11 : TabOk Try.prog tab11 := TabOk.add (tok14) en11 so11

theorem en18 : Enters Try.prog 18 := ⟨_, Try.func18, rfl, rfl⟩
theorem so18 (args : List O) (p : Prop) (r : O) (h : e18 args = some (p, r)) (hp : p) : Sem Try.prog 18 args r := by
  unfold e18 at h
  split at h
  · split at h
    · rename_i h_a
      cases h; exact (con18 (cok_of tok11 follows) _).le ⟨decRAct_le h_a, trivial⟩ (ole_refl _)
    · cases h
  · cases h
theorem tok18 : TabOk Try.prog tab18 := TabOk.add (tok11) en18 so18

theorem en12 : Enters Try.prog 12 := ⟨_, Try.func12, rfl, rfl⟩
theorem so12 (args : List O) (p : Prop) (r : O) (h : e12 args = some (p, r)) (hp : p) : Sem Try.prog 12 args r := by
  unfold e12 at h
  split at h
  · split at h
    · rename_i h_l
      cases h; exact (con12 (cok_of tok18 follows) _).le ⟨decL_le decRAct_le h_l, trivial⟩ (ole_refl _)
    · cases h
  · cases h
theorem tok12 : TabOk Try.prog tab12 := TabOk.add (tok18) en12 so12

theorem en61 : Enters Try.prog 61 := ⟨_, Try.func61, rfl, rfl⟩
theorem so61 (args : List O) (p : Prop) (r : O) (h : e61 args = some (p, r)) (hp : p) : Sem Try.prog 61 args r := by
  unfold e61 at h
  split at h
  · split at h
    · rename_i h_x
      cases h; exact (con61 (cok_of tok12 follows) _ hp).le ⟨decRemote_le h_x, trivial⟩ (ole_refl _)
    · cases h
  · cases h
theorem tok61 : TabOk Try.prog tab61 := TabOk.add (tok12) en61 so61

theorem en53 : Enters Try.prog 53 := ⟨_, Try.func53, rfl, rfl⟩
theorem so53 (args : List O) (p : Prop) (r : O) (h : e53 args = some (p, r)) (hp : p) : Sem Try.prog 53 args r := by
  unfold e53 at h
  split at h
  · split at h
    · rename_i s i j _ l hl
      cases h
      obtain ⟨h1, h2, h3, h4⟩ := hp
      subst h4
      obtain ⟨n, rfl⟩ : ∃ n : Nat, i = n := ⟨i.toNat, by omega⟩
      exact (con53 (cok_of tok61 follows) l n ⟨h1, by omega⟩).le ⟨⟨rfl, rfl, decM_le decPacket_le hl⟩, dle_refl _, dle_refl _, trivial⟩ (ole_refl _)
    · cases h
  · cases h
theorem tok53 : TabOk Try.prog tab53 := TabOk.add (tok61) en53 so53

theorem en54 : Enters Try.prog 54 := ⟨_, Try.func54, rfl, rfl⟩
theorem so54 (args : List O) (p : Prop) (r : O) (h : e54 args = some (p, r)) (hp : p) : Sem Try.prog 54 args r := by
  unfold e54 at h
  split at h
  · split at h
    · rename_i h_x h_p
      cases h; exact (con54 (cok_of tok53 follows) _ _ hp).le ⟨decOwnRemote_le h_x, decPacket_le h_p, trivial⟩ (ole_refl _)
    · cases h
  · cases h
theorem tok54 : TabOk Try.prog tab54 := TabOk.add (tok53) en54 so54

theorem en52 : Enters Try.prog 52 := ⟨_, Try.func52, rfl, rfl⟩
theorem so52 (args : List O) (p : Prop) (r : O) (h : e52 args = some (p, r)) (hp : p) : Sem Try.prog 52 args r := by
  unfold e52 at h
  split at h
  · split at h
    · rename_i h_x h_entry
      cases h; exact (con52 (cok_of tok54 follows) _ _ hp).le ⟨decOwnRemote_le h_x, decEntry_le h_entry, trivial⟩ (ole_refl _)
    · cases h
  · cases h
theorem tok52 : TabOk Try.prog tab52 := TabOk.add (tok54) en52 so52

theorem en37 : Enters Try.prog 37 := ⟨_, Try.func37, rfl, rfl⟩
theorem so37 (args : List O) (p : Prop) (r : O) (h : e37 args = some (p, r)) (hp : p) : Sem Try.prog 37 args r := by
  unfold e37 at h
  split at h
  · split at h
    · rename_i h_x h_a
      cases h; exact (con37 (cok_of tok52 follows) _ _ hp).le ⟨decRemote_le h_x, decRAct_le h_a, trivial⟩ (ole_refl _)
    · cases h
  · cases h
theorem tok37 : TabOk Try.prog tab37 := TabOk.add (tok52) en37 so37

theorem en36d : Enters Try.prog 36 := ⟨_, Try.func36, rfl, rfl⟩
theorem so36d (args : List O) (p : Prop) (r : O) (h : e36d args = some (p, r)) (hp : p) : Sem Try.prog 36 args r := by
  unfold e36d at h
  split at h
  · split at h
    · rename_i h_x
      cases h; exact (con36d (cok_of tok37 follows) _ hp).le ⟨decRemote_le h_x, trivial⟩ (ole_refl _)
    · cases h
  · cases h
theorem tok36d : TabOk Try.prog tab36d := TabOk.add (tok37) en36d so36d

theorem en19 : Enters Try.prog 19 := ⟨_, Try.func19, rfl, rfl⟩
theorem so19 (args : List O) (p : Prop) (r : O) (h : e19 args = some (p, r)) (hp : p) : Sem Try.prog 19 args r := by
  unfold e19 at h
  split at h
  · split at h
    · rename_i h_x h_a
      cases h; exact (con19 (cok_of tok36d follows) _ _ hp).le ⟨decRemote_le h_x, decRAct_le h_a, trivial⟩ (ole_refl _)
    · cases h
  · cases h
theorem tok19 : TabOk Try.prog tab19 := TabOk.add (tok36d) en19 so19

theorem en13 : Enters Try.prog 13 := ⟨_, Try.func13, rfl, rfl⟩
theorem so13 (args : List O) (p : Prop) (r : O) (h : e13 args = some (p, r)) (hp : p) : Sem Try.prog 13 args r := by
  unfold e13 at h
  split at h
  · split at h
    · rename_i h_x h_l
      cases h; exact (con13 (cok_of tok19 follows) _ _ hp).le ⟨decRemote_le h_x, decL_le decRAct_le h_l, trivial⟩ (ole_refl _)
    · cases h
  · cases h
theorem tok13 : TabOk Try.prog tab13 := TabOk.add (tok19) en13 so13

theorem en40 : Enters Try.prog 40 := ⟨_, Try.func40, rfl, rfl⟩
theorem so40 (args : List O) (p : Prop) (r : O) (h : e40 args = some (p, r)) (hp : p) : Sem Try.prog 40 args r := by
  unfold e40 at h
  split at h
  · split at h
    · rename_i h_x h_p
      cases h; exact (con40 (cok_of tok13 follows) _ _ hp).le ⟨decOwnRemote_le h_x, decPacket_le h_p, trivial⟩ (ole_refl _)
    · cases h
  · cases h
theorem tok40 : TabOk Try.prog tab40 := TabOk.add (tok13) en40 so40

theorem en55 : Enters Try.prog 55 := ⟨_, Try.func55, rfl, rfl⟩
theorem so55 (args : List O) (p : Prop) (r : O) (h : e55 args = some (p, r)) (hp : p) : Sem Try.prog 55 args r := by
  unfold e55 at h
  split at h
  · split at h
    · rename_i h_x h_e
      cases h; exact (con55 (cok_of tok40 follows) _ _ hp).le ⟨decRemote_le h_x, decEntry_le h_e, trivial⟩ (ole_refl _)
    · cases h
  · cases h
theorem tok55 : TabOk Try.prog tab55 := TabOk.add (tok40) en55 so55

theorem en39 : Enters Try.prog 39 := ⟨_, Try.func39, rfl, rfl⟩
theorem so39 (args : List O) (p : Prop) (r : O) (h : e39 args = some (p, r)) (hp : p) : Sem Try.prog 39 args r := by
  unfold e39 at h
  split at h
  · split at h
    · rename_i h_x h_a
      cases h; exact (con39 (cok_of tok55 follows) _ _ hp).le ⟨decRemote_le h_x, decRAct_le h_a, trivial⟩ (ole_refl _)
    · cases h
  · cases h
theorem tok39 : TabOk Try.prog tab39 := TabOk.add (tok55) en39 so39

theorem en20 : Enters Try.prog 20 := ⟨_, Try.func20, rfl, rfl⟩
theorem so20 (args : List O) (p : Prop) (r : O) (h : e20 args = some (p, r)) (hp : p) : Sem Try.prog 20 args r := by
  unfold e20 at h
  split at h
  · split at h
    · rename_i h_x h_a
      cases h; exact (con20 (cok_of tok39 follows) _ _ hp).le ⟨decRemote_le h_x, decRAct_le h_a, trivial⟩ (ole_refl _)
    · cases h
  · cases h
theorem tok20 : TabOk Try.prog tab20 := TabOk.add (tok39) en20 so20

theorem en14d : Enters Try.prog 14 := ⟨_, Try.func14, rfl, rfl⟩
theorem so14d (args : List O) (p : Prop) (r : O) (h : e14d args = some (p, r)) (hp : p) : Sem Try.prog 14 args r := by
  unfold e14d at h
  split at h
  · split at h
    · rename_i h_x
      cases h; exact (con14d (cok_of tok20 follows) _ hp).le ⟨decRemote_le h_x, trivial⟩ (ole_refl _)
    · cases h
  · cases h
theorem tok14d : TabOk Try.prog tab14d := TabOk.add (tok20) en14d so14d

theorem en34 : Enters Try.prog 34 := ⟨_, Try.func34, rfl, rfl⟩
theorem so34 (args : List O) (p : Prop) (r : O) (h : e34 args = some (p, r)) (hp : p) : Sem Try.prog 34 args r := by
  unfold e34 at h
  split at h
  · split at h
    · rename_i h_x
      cases h; exact (con34 (cok_of tok14d follows) _ hp).le ⟨decRemote_le h_x, trivial⟩ (ole_refl _)
    · cases h
  · cases h
theorem tok34 : TabOk Try.prog tab34 := TabOk.add (tok14d) en34 so34

theorem en16 : Enters Try.prog 16 := ⟨_, Try.func16, rfl, rfl⟩
theorem so16 (args : List O) (p : Prop) (r : O) (h : e16 args = some (p, r)) (hp : p) : Sem Try.prog 16 args r := by
  unfold e16 at h
  split at h
  · split at h
    · rename_i h_x h_l
      cases h; exact (con16 (cok_of tok34 follows) _ _ hp).le ⟨decRemote_le h_x, decL_le decRAct_le h_l, trivial⟩ (ole_refl _)
    · cases h
  · cases h
theorem tok16 : TabOk Try.prog tab16 := TabOk.add (tok34) en16 so16

theorem en17 : Enters Try.prog 17 := ⟨_, Try.func17, rfl, rfl⟩
theorem so17 (args : List O) (p : Prop) (r : O) (h : e17 args = some (p, r)) (hp : p) : Sem Try.prog 17 args r := by
  unfold e17 at h
  split at h
  · split at h
    · rename_i h_a h_b
      cases h; exact (con17 (cok_of tok16 follows) _ _ hp).le ⟨decRemote_le h_a, decRemote_le h_b, trivial⟩ (ole_refl _)
    · cases h
  · cases h
theorem tok17 : TabOk Try.prog tab17 := TabOk.add (tok16) en17 so17

theorem en10 : Enters Try.prog 10 := ⟨_, Try.func10, rfl, rfl⟩
theorem so10 (args : List O) (p : Prop) (r : O) (h : e10 args = some (p, r)) (hp : p) : Sem Try.prog 10 args r := by
  unfold e10 at h
  split at h
  · cases h; exact con10 (cok_of tok17 follows) 
  · cases h
theorem tok10 : TabOk Try.prog tab10 := TabOk.add (tok17) en10 so10

theorem en3 : Enters Try.prog 3 := ⟨_, Try.func3, rfl, rfl⟩
theorem so3 (args : List O) (p : Prop) (r : O) (h : e3 args = some (p, r)) (hp : p) : Sem Try.prog 3 args r := by
  unfold e3 at h
  split at h
  · split at h
    · rename_i h_x h_l
      cases h; exact (con3 (cok_of tok10 follows) _ _).le ⟨decRemote_le h_x, decL_le decRAct_le h_l, trivial⟩ (ole_refl _)
    · cases h
  · cases h
theorem tok3 : TabOk Try.prog tab3 := TabOk.add (tok10) en3 so3

theorem en4 : Enters Try.prog 4 := ⟨_, Try.func4, rfl, rfl⟩
theorem so4 (args : List O) (p : Prop) (r : O) (h : e4 args = some (p, r)) (hp : p) : Sem Try.prog 4 args r := by
  unfold e4 at h
  split at h
  · split at h
    · rename_i h_x h_a
      cases h; exact (con4 (cok_of tok3 follows) _ _).le ⟨decRemote_le h_x, decRAct_le h_a, trivial⟩ (ole_refl _)
    · cases h
  · cases h
theorem tok4 : TabOk Try.prog tab4 := TabOk.add (tok3) en4 so4

theorem en22 : Enters Try.prog 22 := ⟨_, Try.func22, rfl, rfl⟩
theorem so22 (args : List O) (p : Prop) (r : O) (h : e22 args = some (p, r)) (hp : p) : Sem Try.prog 22 args r := by
  unfold e22 at h
  split at h
  · split at h
    · rename_i h_x
      cases h; exact (con22 (cok_of tok4 follows) _ hp).le ⟨decRemote_le h_x, trivial⟩ (ole_refl _)
    · cases h
  · cases h
theorem tok22 : TabOk Try.prog tab22 := TabOk.add (tok4) en22 so22

theorem en5 : Enters Try.prog 5 := ⟨_, Try.func5, rfl, rfl⟩
theorem so5 (args : List O) (p : Prop) (r : O) (h : e5 args = some (p, r)) (hp : p) : Sem Try.prog 5 args r := by
  unfold e5 at h
  split at h
  · split at h
    · rename_i h_x
      cases h; exact (con5 (cok_of tok22 follows) _).le ⟨decRemote_le h_x, trivial⟩ (ole_refl _)
    · cases h
  · cases h
theorem tok5 : TabOk Try.prog tab5 := TabOk.add (tok22) en5 so5

theorem en47 : Enters Try.prog 47 := ⟨_, Try.func47, rfl, rfl⟩
theorem so47 (args : List O) (p : Prop) (r : O) (h : e47 args = some (p, r)) (hp : p) : Sem Try.prog 47 args r := by
  unfold e47 at h
  split at h
  · split at h
    · rename_i h_a h_x h_l
      cases h; exact (con47 (cok_of tok5 follows) _ _ _ hp).le ⟨decRAct_le h_a, decCp_le (g := fun x => (encRemote x).body) decRemote_le h_x, ⟨rfl, ⟨rfl, rfl, decM_le decRAct_le h_l⟩, trivial⟩, trivial⟩ (ole_refl _)
    · cases h
  · cases h
theorem tok47 : TabOk Try.prog tab47 := TabOk.add (tok5) en47 so47

theorem en24 : Enters Try.prog 24 := ⟨_, Try.func24, rfl, rfl⟩
theorem so24 (args : List O) (p : Prop) (r : O) (h : e24 args = some (p, r)) (hp : p) : Sem Try.prog 24 args r := by
  unfold e24 at h
  split at h
  · split at h
    · rename_i h_x
      cases h; exact (con24 (cok_of tok47 follows) _ hp).le ⟨decRemote_le h_x, trivial⟩ (ole_refl _)
    · cases h
  · cases h
theorem tok24 : TabOk Try.prog tab24 := TabOk.add (tok47) en24 so24

theorem en25 : Enters Try.prog 25 := ⟨_, Try.func25, rfl, rfl⟩
theorem so25 (args : List O) (p : Prop) (r : O) (h : e25 args = some (p, r)) (hp : p) : Sem Try.prog 25 args r := by
  unfold e25 at h
  split at h
  · split at h
    · rename_i h_a h_b
      cases h; exact (con25 (cok_of tok24 follows) _ _ hp).le ⟨decL_le decRAct_le h_a, decL_le decRAct_le h_b, trivial⟩ (ole_refl _)
    · cases h
  · cases h
theorem tok25 : TabOk Try.prog tab25 := TabOk.add (tok24) en25 so25

theorem en26 : Enters Try.prog 26 := ⟨_, Try.func26, rfl, rfl⟩
theorem so26 (args : List O) (p : Prop) (r : O) (h : e26 args = some (p, r)) (hp : p) : Sem Try.prog 26 args r := by
  unfold e26 at h
  split at h
  · split at h
    · rename_i h_x
      cases h; exact (con26 (cok_of tok25 follows) _ hp).le ⟨decRemote_le h_x, trivial⟩ (ole_refl _)
    · cases h
  · cases h
theorem tok26 : TabOk Try.prog tab26 := TabOk.add (tok25) en26 so26

theorem en6 : Enters Try.prog 6 := ⟨_, Try.func6, rfl, rfl⟩
theorem so6 (args : List O) (p : Prop) (r : O) (h : e6 args = some (p, r)) (hp : p) : Sem Try.prog 6 args r := by
  unfold e6 at h
  split at h
  · split at h
    · rename_i h_x
      cases h; exact (con6 (cok_of tok26 follows) _).le ⟨decRemote_le h_x, trivial⟩ (ole_refl _)
    · cases h
  · cases h
theorem tok6 : TabOk Try.prog tab6 := TabOk.add (tok26) en6 so6

theorem en59 : Enters Try.prog 59 := ⟨_, Try.func59, rfl, rfl⟩
theorem so59 (args : List O) (p : Prop) (r : O) (h : e59 args = some (p, r)) (hp : p) : Sem Try.prog 59 args r := by
  unfold e59 at h
  split at h
  · cases h; subst hp; exact sort_sem0
  · cases h
theorem tok59 : TabOk Try.prog tab59 := TabOk.add (tok6) en59 so59

theorem en60 : Enters Try.prog 60 := ⟨_, Try.func60, rfl, rfl⟩
theorem so60 (args : List O) (p : Prop) (r : O) (h : e60 args = some (p, r)) (hp : p) : Sem Try.prog 60 args r := by
  unfold e60 at h
  split at h
  · split at h
    · rename_i h_l
      cases h; exact (con60 (cok_of tok59 follows) _ _ hp).le ⟨decL_le decI_le h_l, dle_refl _, trivial⟩ (ole_refl _)
    · cases h
  · cases h
theorem tok60 : TabOk Try.prog tab60 := TabOk.add (tok59) en60 so60

theorem en49 : Enters Try.prog 49 := ⟨_, Try.func49, rfl, rfl⟩
theorem so49 (args : List O) (p : Prop) (r : O) (h : e49 args = some (p, r)) (hp : p) : Sem Try.prog 49 args r := by
  unfold e49 at h
  split at h
  · split at h
    · rename_i h_l
      cases h; exact (con49 (cok_of tok60 follows) _ _ hp).le ⟨decL_le decI_le h_l, dle_refl _, trivial⟩ (ole_refl _)
    · cases h
  · cases h
theorem tok49 : TabOk Try.prog tab49 := TabOk.add (tok60) en49 so49

theorem en31 : Enters Try.prog 31 := ⟨_, Try.func31, rfl, rfl⟩
theorem so31 (args : List O) (p : Prop) (r : O) (h : e31 args = some (p, r)) (hp : p) : Sem Try.prog 31 args r := by
  unfold e31 at h
  split at h
  · split at h
    · rename_i h_a h_b
      cases h; exact (con31 (cok_of tok49 follows) _ _ hp).le ⟨decL_le decI_le h_a, decL_le decI_le h_b, trivial⟩ (ole_refl _)
    · cases h
  · cases h
theorem tok31 : TabOk Try.prog tab31 := TabOk.add (tok49) en31 so31

theorem en48 : Enters Try.prog 48 := ⟨_, Try.func48, rfl, rfl⟩
theorem so48 (args : List O) (p : Prop) (r : O) (h : e48 args = some (p, r)) (hp : p) : Sem Try.prog 48 args r := by
  unfold e48 at h
  split at h
  · split at h
    · rename_i h_l
      cases h; exact (con48 (cok_ti tok31 follows tiOk1 tiOk2) _ hp).le ⟨decL_le decEntry_le h_l, trivial⟩ (ole_refl _)
    · cases h
  · cases h
theorem tok48 : TabOk Try.prog tab48 := TabOk.add (tok31) en48 so48

theorem en50 : Enters Try.prog 50 := ⟨_, Try.func50, rfl, rfl⟩
theorem so50 (args : List O) (p : Prop) (r : O) (h : e50 args = some (p, r)) (hp : p) : Sem Try.prog 50 args r := by
  unfold e50 at h
  split at h
  · split at h
    · rename_i h_l
      cases h; exact (con50 (cok_of tok48 follows) _ _ _ hp).le ⟨decL_le decEntry_le h_l, dle_refl _, dle_refl _, trivial⟩ (ole_refl _)
    · cases h
  · cases h
theorem tok50 : TabOk Try.prog tab50 := TabOk.add (tok48) en50 so50

theorem en32 : Enters Try.prog 32 := ⟨_, Try.func32, rfl, rfl⟩
theorem so32 (args : List O) (p : Prop) (r : O) (h : e32 args = some (p, r)) (hp : p) : Sem Try.prog 32 args r := by
  unfold e32 at h
  split at h
  · split at h
    · rename_i h_x
      cases h; exact (con32 (cok_of tok50 follows) _ hp).le ⟨decRemote_le h_x, trivial⟩ (ole_refl _)
    · cases h
  · cases h
theorem tok32 : TabOk Try.prog tab32 := TabOk.add (tok50) en32 so32

theorem en33 : Enters Try.prog 33 := ⟨_, Try.func33, rfl, rfl⟩
theorem so33 (args : List O) (p : Prop) (r : O) (h : e33 args = some (p, r)) (hp : p) : Sem Try.prog 33 args r := by
  unfold e33 at h
  split at h
  · split at h
    · rename_i h_x
      cases h; exact (con33 (cok_of tok32 follows) _ hp).le ⟨decRemote_le h_x, trivial⟩ (ole_refl _)
    · cases h
  · cases h
theorem tok33 : TabOk Try.prog tab33 := TabOk.add (tok32) en33 so33

theorem en28 : Enters Try.prog 28 := ⟨_, Try.func28, rfl, rfl⟩
theorem so28 (args : List O) (p : Prop) (r : O) (h : e28 args = some (p, r)) (hp : p) : Sem Try.prog 28 args r := by
  unfold e28 at h
  split at h
  · split at h
    · rename_i h_x
      cases h; exact (con28 (cok_of tok33 follows) _ hp).le ⟨decRemote_le h_x, trivial⟩ (ole_refl _)
    · cases h
  · cases h
theorem tok28 : TabOk Try.prog tab28 := TabOk.add (tok33) en28 so28

theorem en30 : Enters Try.prog 30 := ⟨_, Try.func30, rfl, rfl⟩
theorem so30 (args : List O) (p : Prop) (r : O) (h : e30 args = some (p, r)) (hp : p) : Sem Try.prog 30 args r := by
  unfold e30 at h
  split at h
  · split at h
    · rename_i h_x
      cases h; exact (con30 (cok_of tok28 follows) _ hp).le ⟨decRemote_le h_x, trivial⟩ (ole_refl _)
    · cases h
  · cases h
theorem tok30 : TabOk Try.prog tab30 := TabOk.add (tok28) en30 so30

theorem en9 : Enters Try.prog 9 := ⟨_, Try.func9, rfl, rfl⟩
theorem so9 (args : List O) (p : Prop) (r : O) (h : e9 args = some (p, r)) (hp : p) : Sem Try.prog 9 args r := by
  unfold e9 at h
  split at h
  · split at h
    · rename_i h_x
      cases h; exact (con9 (cok_of tok30 follows) _).le ⟨decRemote_le h_x, trivial⟩ (ole_refl _)
    · cases h
  · cases h
theorem tok9 : TabOk Try.prog tab9 := TabOk.add (tok30) en9 so9

theorem en29 : Enters Try.prog 29 := ⟨_, Try.func29, rfl, rfl⟩
theorem so29 (args : List O) (p : Prop) (r : O) (h : e29 args = some (p, r)) (hp : p) : Sem Try.prog 29 args r := by
  unfold e29 at h
  split at h
  · split at h
    · rename_i h_l
      cases h; exact (con29 (cok_of tok9 follows) _ _ hp).le ⟨decL_le decEntry_le h_l, dle_refl _, trivial⟩ (ole_refl _)
    · cases h
  · cases h
theorem tok29 : TabOk Try.prog tab29 := TabOk.add (tok9) en29 so29

theorem en7 : Enters Try.prog 7 := ⟨_, Try.func7, rfl, rfl⟩
theorem so7 (args : List O) (p : Prop) (r : O) (h : e7 args = some (p, r)) (hp : p) : Sem Try.prog 7 args r := by
  unfold e7 at h
  split at h
  · split at h
    · rename_i h_x h_l
      cases h; exact (con7 (cok_of tok29 follows) _ _).le ⟨decRemote_le h_x, decL_le decRAct_le h_l, trivial⟩ (ole_refl _)
    · cases h
  · cases h
theorem tok7 : TabOk Try.prog tab7 := TabOk.add (tok29) en7 so7

theorem en8 : Enters Try.prog 8 := ⟨_, Try.func8, rfl, rfl⟩
theorem so8 (args : List O) (p : Prop) (r : O) (h : e8 args = some (p, r)) (hp : p) : Sem Try.prog 8 args r := by
  unfold e8 at h
  split at h
  · split at h
    · rename_i h_l
      cases h; exact (con8 (cok_of tok7 follows) _).le ⟨decL_le decRAct_le h_l, trivial⟩ (ole_refl _)
    · cases h
  · cases h
theorem tok8 : TabOk Try.prog tab8 := TabOk.add (tok7) en8 so8

end Go.Ev

namespace Go.Ev
open Go.ChangeShapes Go.WideShapes Go.ChangeAt Go.RowKit

/-! ## What comes in from outside reads as typed data -/
section
variable {H : Type} {enc : TypeId × Value → H} {P : Program} {w : World} {sp : Nat → Bool} {held : Bool}

/-- Cells read as data of one cell each. -/
def RDs (w : World) (cs : List Value) (ds : List D) : Prop := cs.length = ds.length ∧ ∀ (j : Nat) (v : Value) (d : D), cs[j]? = some v → ds[j]? = some d → RD w (fun _ => False) v d ∧ d.one = true

theorem RDs.nil : RDs w [] [] := ⟨rfl, fun j v d h => by simp at h⟩
theorem RDs.one {v : Value} {d : D} (h : RD w (fun _ => False) v d) (h1 : d.one = true) : RDs w [v] [d] := ⟨rfl, fun j u e hj he => by
  match j with
  | 0 => simp at hj he; subst hj; subst he; exact ⟨h, h1⟩
  | j + 1 => simp at hj⟩
theorem RDs.append {a b : List Value} {x y : List D} (h : RDs w a x) (k : RDs w b y) : RDs w (a ++ b) (x ++ y) := by
  refine ⟨by rw [List.length_append, List.length_append, h.1, k.1], fun j v d hj hd => ?_⟩
  by_cases hl : j < a.length
  · rw [List.getElem?_append_left hl] at hj
    rw [List.getElem?_append_left (by rw [← h.1]; exact hl)] at hd
    exact h.2 j v d hj hd
  · rw [List.getElem?_append_right (by omega)] at hj
    rw [List.getElem?_append_right (by rw [← h.1]; omega)] at hd
    rw [h.1] at hj
    exact k.2 _ v d hj hd

theorem read_int {t : TypeId} {k : IntKind} (ht : P.underlying t = some (.int k)) {fuel : Nat} {cs : List Value} {x : DataW H × List MemPlace} (h : DataW.trod enc P w 0 sp held fuel t cs = some x) :
    ∃ n, (Lit.int k n).wf = true ∧ RDs w cs [.i k n] := by
  obtain ⟨n, rfl, _, hw⟩ := DataW.trod_int ht h
  exact ⟨n, hw, RDs.one (.i k n) rfl⟩
theorem read_bool {t : TypeId} (ht : P.underlying t = some .bool) {fuel : Nat} {cs : List Value} {x : DataW H × List MemPlace} (h : DataW.trod enc P w 0 sp held fuel t cs = some x) :
    ∃ b, RDs w cs [.b b] := by
  obtain ⟨n, rfl, _⟩ := DataW.trod_bool ht h
  exact ⟨n, RDs.one (.b n) rfl⟩
theorem read_string {t : TypeId} (ht : P.underlying t = some .string) {fuel : Nat} {cs : List Value} {x : DataW H × List MemPlace} (h : DataW.trod enc P w 0 sp held fuel t cs = some x) :
    ∃ s : ByteArray, s.size ≤ maxLen ∧ RDs w cs [.s s] := by
  obtain ⟨n, rfl, _, hs⟩ := DataW.trod_string ht h
  exact ⟨n, hs, RDs.one (.s n) rfl⟩

theorem cell_spot {a : Addr} {v : Value} (h : w.cell? a = some v) : a.spot = none := by
  unfold World.cell? at h
  split at h
  · split at h
    · cases h
    · rename_i hs; simpa using hs
  · cases h

theorem read_slice {t e : TypeId} {α : Type} {encf : α → D} {Ok : α → Prop} {sz : Nat} (ht : P.underlying t = some (.slice e)) (hsz : P.cellsOf e = sz) (h0 : 0 < sz) (hc : ∀ r, (encf r).cells.length = sz)
    (he : ∀ (fuel : Nat) (cs : List Value) (x : DataW H × List MemPlace), DataW.trod enc P w 0 sp held fuel e cs = some x → ∃ r, Ok r ∧ RDs w cs (encf r).cells)
    {fuel : Nat} {cs : List Value} {x : DataW H × List MemPlace} (h : DataW.trod enc P w 0 sp held fuel t cs = some x) :
    ∃ l : List α, (∀ r ∈ l, Ok r) ∧ l.length ≤ maxLen ∧ RDs w cs [.sl sz (l.map encf)] := by
  rcases DataW.trod_slice ht h with ⟨rfl, _⟩ | ⟨a, len, cap, elems, rest, n, rfl, rfl, _, _, hlc, hcm, hel, hg, _, _⟩
  · exact ⟨[], by simp, Nat.zero_le _, RDs.one (.sl0 sz) rfl⟩
  · have key : ∀ i, i < len → ∃ r, Ok r ∧ ∃ cs', w.cells? 0 (a.add (i * sz)) sz = some cs' ∧ RDs w cs' (encf r).cells := fun i hi => by
      have h1 := hg i hi
      rw [hsz, List.getElem?_eq_getElem (by omega), Option.bind_eq_some_iff] at h1
      obtain ⟨cs', h2, h3⟩ := h1
      obtain ⟨r, hr, hd⟩ := he _ _ _ h3
      exact ⟨r, hr, cs', h2, hd⟩
    let f : ∀ i, i < len → α := fun i hi => Classical.choose (key i hi)
    have hf1 : ∀ i hi, Ok (f i hi) := fun i hi => (Classical.choose_spec (key i hi)).1
    have hf2 : ∀ i hi, ∃ cs', w.cells? 0 (a.add (i * sz)) sz = some cs' ∧ RDs w cs' (encf (f i hi)).cells := fun i hi => (Classical.choose_spec (key i hi)).2
    clear_value f
    have hspot : 0 < len → a.spot = none := fun hl => by
      obtain ⟨cs', h3, _⟩ := hf2 0 hl
      obtain ⟨_, h5, h6⟩ := World.cells?_some h3
      have h9 := h6 0 h0
      rw [List.getElem?_eq_getElem (by omega)] at h9
      have := cell_spot h9
      simpa [Addr.add] using this
    let l : List α := List.ofFn fun i : Fin len => f i.1 i.2
    have hll : l.length = len := by simp [l]
    have hli : ∀ i (hi : i < len), l[i]? = some (f i hi) := fun i hi => by simp [l, hi]
    have hfl : (flat (l.map encf)).length = len * sz := by
      rw [flat_length (sz := sz) (fun d hd => by
        obtain ⟨r, _, rfl⟩ := List.mem_map.1 hd
        exact hc r), List.length_map, hll]
    have hcell : ∀ (k : Nat) (d : D), (flat (l.map encf))[k]? = some d → a.spot = none ∧ ∃ v, w.cell? ⟨a.block, a.off + k, none⟩ = some v ∧ RD w (fun _ => False) v d ∧ d.one = true := fun k d hk => by
      have hk1 : k < len * sz := by rw [← hfl]; exact (List.getElem?_eq_some_iff.1 hk).1
      have hi : k / sz < len := Nat.div_lt_of_lt_mul (by rwa [Nat.mul_comm])
      have hm : k % sz < sz := Nat.mod_lt _ h0
      have hkk : k / sz * sz + k % sz = k := by rw [Nat.mul_comm]; exact Nat.div_add_mod k sz
      have hj : (l.map encf)[k / sz]? = some (encf (f (k / sz) hi)) := by rw [List.getElem?_map, hli _ hi]; rfl
      have h2 := flat_get (sz := sz) (fun d hd => by
        obtain ⟨r, _, rfl⟩ := List.mem_map.1 hd
        exact hc r) hj hm
      rw [hkk, hk] at h2
      obtain ⟨cs', h3, h4⟩ := hf2 (k / sz) hi
      obtain ⟨_, h5, h6⟩ := World.cells?_some h3
      have h7 := h6 (k % sz) hm
      have hlt : k % sz < cs'.length := by omega
      rw [List.getElem?_eq_getElem hlt] at h7
      have h8 := h4.2 (k % sz) _ d (List.getElem?_eq_getElem hlt) h2.symm
      have hsp : a.spot = none := hspot (Nat.lt_of_le_of_lt (Nat.zero_le _) hi)
      refine ⟨hsp, _, ?_, h8⟩
      rw [← h7]
      congr 1
      obtain ⟨b, o, s⟩ := a
      simp only at hsp
      subst hsp
      unfold Addr.add
      (repeat' split) <;> simp <;> omega
    refine ⟨l, fun r hr => ?_, by omega, RDs.one ?_ rfl⟩
    · obtain ⟨i, hi⟩ := List.mem_ofFn.1 hr
      rw [← hi]; exact hf1 _ _
    · have hlm : len = (l.map encf).length := by simp [hll]
      rw [hlm]
      refine .sl a cap sz (l.map encf) (fun k => (w.cell? ⟨a.block, a.off + k, none⟩).getD default) (by omega) h0 (fun d hd => ?_) (fun hl => ⟨hspot ?_, fun hx => hx⟩) (fun k d hk => ?_) (fun k d hk => ?_)
      · obtain ⟨r, hr, rfl⟩ := List.mem_map.1 hd
        refine ⟨hc r, fun c hcm => ?_⟩
        obtain ⟨i, hi⟩ := List.mem_ofFn.1 hr
        obtain ⟨cs', _, h4⟩ := hf2 i.1 i.2
        rw [← hi] at hcm
        obtain ⟨j, hj, hjc⟩ := List.getElem_of_mem hcm
        have hlt : j < cs'.length := by rw [h4.1]; exact hj
        exact (h4.2 j _ c (List.getElem?_eq_getElem hlt) (by rw [List.getElem?_eq_getElem hj, hjc])).2
      · rcases Nat.eq_zero_or_pos len with e | e
        · exact absurd (List.length_eq_zero_iff.1 (by omega)) hl
        · exact e
      · obtain ⟨_, v, hv, _⟩ := hcell k d hk
        rw [hv]; rfl
      · obtain ⟨_, v, hv, h1, _⟩ := hcell k d hk
        rw [hv]; exact h1
theorem RDs.join {cs : List Value} {o n m : Nat} {a b : List D} (h : RDs w ((cs.drop o).take n) a) (k : RDs w (cs.drop m) b) (hm : o + n = m) : RDs w (cs.drop o) (a ++ b) := by
  subst hm
  have := RDs.append h k
  rwa [← List.drop_drop, List.take_append_drop] at this
theorem RDs.single {v : Value} {d : D} (h : RDs w [v] [d]) : RD w (fun _ => False) v d := (h.2 0 v d rfl rfl).1
theorem RDs.whole {cs : Array Value} {l : List D} (h : RDs w cs.toList l) : RD w (fun _ => False) (.agg cs) (.agg l) :=
  .agg cs l (by simpa using h.1) fun j v d hj hd => (h.2 j v d (by simpa using hj) hd).1
theorem RDs.last {cs : List Value} {n : Nat} (h : cs.length = n) : RDs w (cs.drop n) [] := by
  rw [List.drop_of_length_le (by omega)]; exact .nil
theorem cellsOf_of {t n : Nat} (h : sizeT P t = some n) : P.cellsOf t = n := by
  unfold sizeT at h
  unfold Program.cellsOf
  rw [h]; rfl
theorem at_field {α : Type} {xs : List α} {n i : Nat} (h : xs.length = n) (hi : i < n) : ∃ y, xs[i]? = some y := ⟨xs[i]'(by omega), by simp⟩
end

/-- A call by data alone. -/
theorem sem_calls {P : Program} {f : FuncId} {ds : List D} {vs : Array Value} {w : World} (h : Sem P f (ds.map .d) (.d (.b true))) (hn : vs.size = ds.length)
    (hr : ∀ (j : Nat) (v : Value) (d : D), vs[j]? = some v → ds[j]? = some d → RD w (fun _ => False) v d) :
    Calls P f vs w fun e w' => e = .returned (.bool true) ∧ Below w.heap.size w w' := by
  refine (h w vs (fun _ => False) [] (fun _ hf => hf.elim) (fun i j b hi => by simp at hi) (fun _ _ hf => hf) ⟨by simpa using hn, List.replicate ds.length [], by simp, by simp, fun j v o q hv ho hq => ?_⟩).mono fun e w' ⟨v, u, os', he, hret, hro, _, _, hfr⟩ => ?_
  · rw [List.getElem?_replicate] at hq
    split at hq
    · cases hq
      rw [List.getElem?_map, Option.map_eq_some_iff] at ho
      obtain ⟨d, hd, rfl⟩ := ho
      exact .d v d ((hr j v d hv hd).mono fun b hb => by
        rcases hb with hb | hb
        · exact hb
        · unfold Blk at hb; simp at hb)
    · cases hq
  · subst he
    have hb : ∀ (ds : List D) (vs : List Value), bxPtrs (ds.map O.d) vs = [] := fun ds => by
      induction ds with
      | nil => intro vs; cases vs <;> rfl
      | cons d ds ih => intro vs; cases vs with
        | nil => rfl
        | cons v vs => exact ih vs
    unfold Ret at hret
    rw [hb] at hret
    simp only at hret
    subst hret
    have hv : u = .bool true := by
      cases hro with
      | d _ _ h => cases h; rfl
    subst hv
    exact ⟨rfl, hfr.os, hfr.tape, hfr.output, hfr.ext.size, fun k hk => hfr.ext.same k hk (by unfold Blk; simp)⟩
end Go.Ev

namespace Go.Ev
open Go.ChangeShapes Go.WideShapes Go.ChangeAt Go.RowKit Go.Proofs
section
variable {H : Type} {enc : TypeId × Value → H} {P : Program} {w : World} {sp : Nat → Bool} {held : Bool}
theorem rdI {t : TypeId} {k : IntKind} (ht : P.underlying t = some (.int k)) {fuel : Nat} {cs : List Value} {x : DataW H × List MemPlace} (h : DataW.trod enc P w 0 sp held fuel t cs = some x) : ∃ n : Int, True ∧ RDs w cs [.i k n] :=
  let ⟨n, _, h⟩ := read_int ht h; ⟨n, trivial, h⟩
theorem rdB {t : TypeId} (ht : P.underlying t = some .bool) {fuel : Nat} {cs : List Value} {x : DataW H × List MemPlace} (h : DataW.trod enc P w 0 sp held fuel t cs = some x) : ∃ n : Bool, True ∧ RDs w cs [.b n] :=
  let ⟨n, h⟩ := read_bool ht h; ⟨n, trivial, h⟩
theorem rdS {t : TypeId} (ht : P.underlying t = some .string) {fuel : Nat} {cs : List Value} {x : DataW H × List MemPlace} (h : DataW.trod enc P w 0 sp held fuel t cs = some x) : ∃ n : ByteArray, True ∧ RDs w cs [.s n] :=
  let ⟨n, _, h⟩ := read_string ht h; ⟨n, trivial, h⟩
theorem rdL {t e : TypeId} {α : Type} {encf : α → D} {sz : Nat} (ht : P.underlying t = some (.slice e)) (hsz : P.cellsOf e = sz) (h0 : 0 < sz) (hc : ∀ r, (encf r).cells.length = sz)
    (he : ∀ (fuel : Nat) (cs : List Value) (x : DataW H × List MemPlace), DataW.trod enc P w 0 sp held fuel e cs = some x → ∃ r, True ∧ RDs w cs (encf r).cells)
    {fuel : Nat} {cs : List Value} {x : DataW H × List MemPlace} (h : DataW.trod enc P w 0 sp held fuel t cs = some x) : ∃ l : List α, True ∧ RDs w cs [.sl sz (l.map encf)] :=
  let ⟨l, _, _, h⟩ := read_slice (Ok := fun _ => True) ht hsz h0 hc he h; ⟨l, trivial, h⟩

theorem read_Change {fuel : Nat} {cs : List Value} {x : DataW H × List MemPlace} (h : DataW.trod enc Try.prog w 0 sp held fuel 40 cs = some x) : ∃ r : Change, True ∧ RDs w cs (encChange r).cells := by
  obtain ⟨xs, n, _, _, hl, hx, hf⟩ := DataW.trod_struct Try.underlying40 h
  rw [cellsOf_of Ty.sz40] at hl
  obtain ⟨y0, hy0⟩ := at_field hx (i := 0) (by decide)
  have f0 : DataW.trod enc Try.prog w 0 sp held n 9 ((cs.drop 0).take (Try.prog.cellsOf 9)) = xs[0]? := hf 0 _ rfl
  rw [cellsOf_of Ty.sz9, hy0] at f0
  obtain ⟨a0, _, d0⟩ := rdS Try.underlying9 f0
  obtain ⟨y1, hy1⟩ := at_field hx (i := 1) (by decide)
  have f1 : DataW.trod enc Try.prog w 0 sp held n 3 ((cs.drop 1).take (Try.prog.cellsOf 3)) = xs[1]? := hf 1 _ rfl
  rw [cellsOf_of Ty.sz3, hy1] at f1
  obtain ⟨a1, _, d1⟩ := rdI (k := .i64) Try.underlying3 f1
  obtain ⟨y2, hy2⟩ := at_field hx (i := 2) (by decide)
  have f2 : DataW.trod enc Try.prog w 0 sp held n 3 ((cs.drop 2).take (Try.prog.cellsOf 3)) = xs[2]? := hf 2 _ rfl
  rw [cellsOf_of Ty.sz3, hy2] at f2
  obtain ⟨a2, _, d2⟩ := rdI (k := .i64) Try.underlying3 f2
  obtain ⟨y3, hy3⟩ := at_field hx (i := 3) (by decide)
  have f3 : DataW.trod enc Try.prog w 0 sp held n 9 ((cs.drop 3).take (Try.prog.cellsOf 9)) = xs[3]? := hf 3 _ rfl
  rw [cellsOf_of Ty.sz9, hy3] at f3
  obtain ⟨a3, _, d3⟩ := rdS Try.underlying9 f3
  obtain ⟨y4, hy4⟩ := at_field hx (i := 4) (by decide)
  have f4 : DataW.trod enc Try.prog w 0 sp held n 9 ((cs.drop 4).take (Try.prog.cellsOf 9)) = xs[4]? := hf 4 _ rfl
  rw [cellsOf_of Ty.sz9, hy4] at f4
  obtain ⟨a4, _, d4⟩ := rdS Try.underlying9 f4
  exact ⟨⟨a0, a1, a2, a3, a4⟩, trivial, (RDs.join d0 (RDs.join d1 (RDs.join d2 (RDs.join d3 (RDs.join d4 (RDs.last hl) rfl) rfl) rfl) rfl) rfl)⟩
theorem read_Entry {fuel : Nat} {cs : List Value} {x : DataW H × List MemPlace} (h : DataW.trod enc Try.prog w 0 sp held fuel 42 cs = some x) : ∃ r : Entry, True ∧ RDs w cs (encEntry r).cells := by
  obtain ⟨xs, n, _, _, hl, hx, hf⟩ := DataW.trod_struct Try.underlying42 h
  rw [cellsOf_of Ty.sz42] at hl
  obtain ⟨y0, hy0⟩ := at_field hx (i := 0) (by decide)
  have f0 : DataW.trod enc Try.prog w 0 sp held n 3 ((cs.drop 0).take (Try.prog.cellsOf 3)) = xs[0]? := hf 0 _ rfl
  rw [cellsOf_of Ty.sz3, hy0] at f0
  obtain ⟨a0, _, d0⟩ := rdI (k := .i64) Try.underlying3 f0
  obtain ⟨y1, hy1⟩ := at_field hx (i := 1) (by decide)
  have f1 : DataW.trod enc Try.prog w 0 sp held n 3 ((cs.drop 1).take (Try.prog.cellsOf 3)) = xs[1]? := hf 1 _ rfl
  rw [cellsOf_of Ty.sz3, hy1] at f1
  obtain ⟨a1, _, d1⟩ := rdI (k := .i64) Try.underlying3 f1
  obtain ⟨y2, hy2⟩ := at_field hx (i := 2) (by decide)
  have f2 : DataW.trod enc Try.prog w 0 sp held n 3 ((cs.drop 2).take (Try.prog.cellsOf 3)) = xs[2]? := hf 2 _ rfl
  rw [cellsOf_of Ty.sz3, hy2] at f2
  obtain ⟨a2, _, d2⟩ := rdI (k := .i64) Try.underlying3 f2
  obtain ⟨y3, hy3⟩ := at_field hx (i := 3) (by decide)
  have f3 : DataW.trod enc Try.prog w 0 sp held n 40 ((cs.drop 3).take (Try.prog.cellsOf 40)) = xs[3]? := hf 3 _ rfl
  rw [cellsOf_of Ty.sz40, hy3] at f3
  obtain ⟨a3, _, d3⟩ := read_Change f3
  exact ⟨⟨a0, a1, a2, a3⟩, trivial, (RDs.join d0 (RDs.join d1 (RDs.join d2 (RDs.join d3 (RDs.last hl) rfl) rfl) rfl) rfl)⟩
theorem read_Packet {fuel : Nat} {cs : List Value} {x : DataW H × List MemPlace} (h : DataW.trod enc Try.prog w 0 sp held fuel 66 cs = some x) : ∃ r : Packet, True ∧ RDs w cs (encPacket r).cells := by
  obtain ⟨xs, n, _, _, hl, hx, hf⟩ := DataW.trod_struct Try.underlying66 h
  rw [cellsOf_of Ty.sz66] at hl
  obtain ⟨y0, hy0⟩ := at_field hx (i := 0) (by decide)
  have f0 : DataW.trod enc Try.prog w 0 sp held n 3 ((cs.drop 0).take (Try.prog.cellsOf 3)) = xs[0]? := hf 0 _ rfl
  rw [cellsOf_of Ty.sz3, hy0] at f0
  obtain ⟨a0, _, d0⟩ := rdI (k := .i64) Try.underlying3 f0
  obtain ⟨y1, hy1⟩ := at_field hx (i := 1) (by decide)
  have f1 : DataW.trod enc Try.prog w 0 sp held n 3 ((cs.drop 1).take (Try.prog.cellsOf 3)) = xs[1]? := hf 1 _ rfl
  rw [cellsOf_of Ty.sz3, hy1] at f1
  obtain ⟨a1, _, d1⟩ := rdI (k := .i64) Try.underlying3 f1
  exact ⟨⟨a0, a1⟩, trivial, (RDs.join d0 (RDs.join d1 (RDs.last hl) rfl) rfl)⟩
theorem read_Remote {fuel : Nat} {cs : List Value} {x : DataW H × List MemPlace} (h : DataW.trod enc Try.prog w 0 sp held fuel 25 cs = some x) : ∃ r : Remote, True ∧ RDs w cs (encRemote r).cells := by
  obtain ⟨xs, n, _, _, hl, hx, hf⟩ := DataW.trod_struct Try.underlying25 h
  rw [cellsOf_of Ty.sz25] at hl
  obtain ⟨y0, hy0⟩ := at_field hx (i := 0) (by decide)
  have f0 : DataW.trod enc Try.prog w 0 sp held n 4 ((cs.drop 0).take (Try.prog.cellsOf 4)) = xs[0]? := hf 0 _ rfl
  rw [cellsOf_of Ty.sz4, hy0] at f0
  obtain ⟨a0, _, d0⟩ := rdB Try.underlying4 f0
  obtain ⟨y1, hy1⟩ := at_field hx (i := 1) (by decide)
  have f1 : DataW.trod enc Try.prog w 0 sp held n 22 ((cs.drop 1).take (Try.prog.cellsOf 22)) = xs[1]? := hf 1 _ rfl
  rw [cellsOf_of Ty.sz22, hy1] at f1
  obtain ⟨a1, _, d1⟩ := rdL (sz := 8) Try.underlying22 (cellsOf_of Ty.sz42) (by decide) (fun _ => rfl) (fun _ _ _ h => read_Entry h) f1
  obtain ⟨y2, hy2⟩ := at_field hx (i := 2) (by decide)
  have f2 : DataW.trod enc Try.prog w 0 sp held n 22 ((cs.drop 2).take (Try.prog.cellsOf 22)) = xs[2]? := hf 2 _ rfl
  rw [cellsOf_of Ty.sz22, hy2] at f2
  obtain ⟨a2, _, d2⟩ := rdL (sz := 8) Try.underlying22 (cellsOf_of Ty.sz42) (by decide) (fun _ => rfl) (fun _ _ _ h => read_Entry h) f2
  obtain ⟨y3, hy3⟩ := at_field hx (i := 3) (by decide)
  have f3 : DataW.trod enc Try.prog w 0 sp held n 3 ((cs.drop 3).take (Try.prog.cellsOf 3)) = xs[3]? := hf 3 _ rfl
  rw [cellsOf_of Ty.sz3, hy3] at f3
  obtain ⟨a3, _, d3⟩ := rdI (k := .i64) Try.underlying3 f3
  obtain ⟨y4, hy4⟩ := at_field hx (i := 4) (by decide)
  have f4 : DataW.trod enc Try.prog w 0 sp held n 3 ((cs.drop 4).take (Try.prog.cellsOf 3)) = xs[4]? := hf 4 _ rfl
  rw [cellsOf_of Ty.sz3, hy4] at f4
  obtain ⟨a4, _, d4⟩ := rdI (k := .i64) Try.underlying3 f4
  obtain ⟨y5, hy5⟩ := at_field hx (i := 5) (by decide)
  have f5 : DataW.trod enc Try.prog w 0 sp held n 23 ((cs.drop 5).take (Try.prog.cellsOf 23)) = xs[5]? := hf 5 _ rfl
  rw [cellsOf_of Ty.sz23, hy5] at f5
  obtain ⟨a5, _, d5⟩ := rdL (sz := 2) Try.underlying23 (cellsOf_of Ty.sz66) (by decide) (fun _ => rfl) (fun _ _ _ h => read_Packet h) f5
  exact ⟨⟨a0, a1, a2, a3, a4, a5⟩, trivial, (RDs.join d0 (RDs.join d1 (RDs.join d2 (RDs.join d3 (RDs.join d4 (RDs.join d5 (RDs.last hl) rfl) rfl) rfl) rfl) rfl) rfl)⟩
theorem read_RAct {fuel : Nat} {cs : List Value} {x : DataW H × List MemPlace} (h : DataW.trod enc Try.prog w 0 sp held fuel 44 cs = some x) : ∃ r : RAct, True ∧ RDs w cs (encRAct r).cells := by
  obtain ⟨xs, n, _, _, hl, hx, hf⟩ := DataW.trod_struct Try.underlying44 h
  rw [cellsOf_of Ty.sz44] at hl
  obtain ⟨y0, hy0⟩ := at_field hx (i := 0) (by decide)
  have f0 : DataW.trod enc Try.prog w 0 sp held n 3 ((cs.drop 0).take (Try.prog.cellsOf 3)) = xs[0]? := hf 0 _ rfl
  rw [cellsOf_of Ty.sz3, hy0] at f0
  obtain ⟨a0, _, d0⟩ := rdI (k := .i64) Try.underlying3 f0
  obtain ⟨y1, hy1⟩ := at_field hx (i := 1) (by decide)
  have f1 : DataW.trod enc Try.prog w 0 sp held n 3 ((cs.drop 1).take (Try.prog.cellsOf 3)) = xs[1]? := hf 1 _ rfl
  rw [cellsOf_of Ty.sz3, hy1] at f1
  obtain ⟨a1, _, d1⟩ := rdI (k := .i64) Try.underlying3 f1
  obtain ⟨y2, hy2⟩ := at_field hx (i := 2) (by decide)
  have f2 : DataW.trod enc Try.prog w 0 sp held n 42 ((cs.drop 2).take (Try.prog.cellsOf 42)) = xs[2]? := hf 2 _ rfl
  rw [cellsOf_of Ty.sz42, hy2] at f2
  obtain ⟨a2, _, d2⟩ := read_Entry f2
  exact ⟨⟨a0, a1, a2⟩, trivial, (RDs.join d0 (RDs.join d1 (RDs.join d2 (RDs.last hl) rfl) rfl) rfl)⟩
end
end Go.Ev
