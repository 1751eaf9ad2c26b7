/- Tools and contracts under the laws of this seat: DyT, DevRead, DevReadT35z. -/
import Derived.Test.YtkgkgcojfocomaaGreatE09
import Derived.Test.YtkgkgcojfocomaaGreatE10
import Derived.Test.YtkgkgcojfocomaaGreatE11
import Derived.Test.YtkgkgcojfocomaaGreatE13
import Derived.Test.YtkgkgcojfocomaaGreatE14
import Derived.Test.YtkgkgcojfocomaaGreatE15
import Derived.Test.YtkgkgcojfocomaaGreatE16
import Derived.Test.YtkgkgcojfocomaaGreatE17
import Derived.Test.YtkgkgcojfocomaaGreatE18
import Derived.Test.YtkgkgcojfocomaaGreatE19
import Derived.Test.YtkgkgcojfocomaaGreatE20
import Derived.Test.YtkgkgcojfocomaaGreatE21
import Derived.Test.YtkgkgcojfocomaaGreatE02
import Derived.ProofKit
import Derived.ChangeArms
import Derived.Test.YtkgkgcojfocomaaGreatE03
import Derived.Test.YtkgkgcojfocomaaGreatE05
set_option linter.unusedVariables false
set_option linter.unusedSimpArgs false
namespace Go.Ev
open Go.Proofs Ty
set_option maxRecDepth 10000
set_option maxHeartbeats 4000000
set_option linter.unusedSimpArgs false
set_option linter.unusedVariables false
theorem tok41 : TabOk Tryz.prog tab41 := TabOk.add (f := 41) (e := e41) ((TabOk.nil _)) ⟨_, Tryz.func41, rfl, rfl⟩ (fun args p r h hp => by
  unfold e41 at h; split at h
  · cases h; exact con41 (cok_of (TabOk.nil _) follows) _ _ _
  · cases h)
theorem tok100 : TabOk Tryz.prog tab100 := TabOk.add (f := 100) (e := e100) (tok41) ⟨_, Tryz.func100, rfl, rfl⟩ (fun args p r h hp => by
  unfold e100 at h; split at h
  · cases h; exact con100 (cok_of tok41 follows) _ _ _
  · cases h)
theorem tok76 : TabOk Tryz.prog tab76 := TabOk.add (f := 76) (e := e76) (tok100) ⟨_, Tryz.func76, rfl, rfl⟩ (fun args p r h hp => by
  unfold e76 at h; split at h
  · cases h; exact con76 (cok_of tok100 follows) _
  · cases h)
theorem tok81 : TabOk Tryz.prog tab81 := TabOk.add (f := 81) (e := e81) (tok76) ⟨_, Tryz.func81, rfl, rfl⟩ (fun args p r h hp => by
  unfold e81 at h; split at h
  · cases h; exact con81 (cok_of tok76 follows) _
  · cases h)
theorem tok82 : TabOk Tryz.prog tab82 := TabOk.add (f := 82) (e := e82) (tok81) ⟨_, Tryz.func82, rfl, rfl⟩ (fun args p r h hp => by
  unfold e82 at h; split at h
  · cases h; exact con82 (cok_of tok81 follows) _
  · cases h)
theorem tok51 : TabOk Tryz.prog tab51 := TabOk.add (f := 51) (e := e51) (tok82) ⟨_, Tryz.func51, rfl, rfl⟩ (fun args p r h hp => by
  unfold e51 at h; split at h
  · cases h; exact con51 (cok_of tok82 follows) _
  · cases h)
theorem tok101 : TabOk Tryz.prog tab101 := TabOk.add (f := 101) (e := e101) (tok51) ⟨_, Tryz.func101, rfl, rfl⟩ (fun args p r h hp => by
  unfold e101 at h; split at h
  · cases h; exact con101 (cok_of tok51 follows) _
  · cases h)
theorem tok128 : TabOk Tryz.prog tab128 := TabOk.add (f := 128) (e := e128) (tok101) ⟨_, Tryz.func128, rfl, rfl⟩ (fun args p r h hp => by
  unfold e128 at h; split at h
  · split at h
    · rename_i h_c; cases h; exact (con128 (cok_of tok101 follows) _).le ⟨decChange_le h_c, trivial⟩ (ole_refl _)
    · cases h
  · cases h)
theorem tok127 : TabOk Tryz.prog tab127 := TabOk.add (f := 127) (e := e127) (tok128) ⟨_, Tryz.func127, rfl, rfl⟩ (fun args p r h hp => by
  unfold e127 at h; split at h
  · split at h
    · rename_i h_e; cases h; exact (con127 (cok_of tok128 follows) _).le ⟨decEntry_le h_e, trivial⟩ (ole_refl _)
    · cases h
  · cases h)
theorem tok102 : TabOk Tryz.prog tab102 := TabOk.add (f := 102) (e := e102) (tok127) ⟨_, Tryz.func102, rfl, rfl⟩ (fun args p r h hp => by
  unfold e102 at h; split at h
  · split at h
    · rename_i h_e; cases h; exact (con102 (cok_of tok127 follows) _).le ⟨decEntry_le h_e, trivial⟩ (ole_refl _)
    · cases h
  · cases h)
theorem tok79 : TabOk Tryz.prog tab79 := TabOk.add (f := 79) (e := e79) (tok102) ⟨_, Tryz.func79, rfl, rfl⟩ (fun args p r h hp => by
  unfold e79 at h; split at h
  · split at h
    · rename_i h_e; cases h; exact (con79 (cok_of tok102 follows) _).le ⟨decEntry_le h_e, trivial⟩ (ole_refl _)
    · cases h
  · cases h)
theorem tok33 : TabOk Tryz.prog tab33 := TabOk.add (f := 33) (e := e33) (tok79) ⟨_, Tryz.func33, rfl, rfl⟩ (fun args p r h hp => by
  unfold e33 at h; split at h
  · split at h
    · rename_i h_l; cases h; exact (con33 (cok_of tok79 follows) _).le ⟨decL_le decEntry_le h_l, trivial⟩ (ole_refl _)
    · cases h
  · cases h)
theorem tok86 : TabOk Tryz.prog tab86 := TabOk.add (f := 86) (e := e86) (tok33) ⟨_, Tryz.func86, rfl, rfl⟩ (fun args p r h hp => by
  unfold e86 at h; split at h
  · split at h
    · rename_i h_l; cases h; exact (con86 (cok_of tok33 follows) _ _ hp).le ⟨decL_le decEntry_le h_l, dle_refl _, trivial⟩ (ole_refl _)
    · cases h
  · cases h)
theorem tok87 : TabOk Tryz.prog tab87 := TabOk.add (f := 87) (e := e87) (tok86) ⟨_, Tryz.func87, rfl, rfl⟩ (fun args p r h hp => by
  unfold e87 at h; split at h
  · split at h
    · rename_i h_l; cases h; exact (con87 (cok_of tok86 follows) _ _ hp).le ⟨decL_le decEntry_le h_l, dle_refl _, trivial⟩ (ole_refl _)
    · cases h
  · cases h)
theorem tok57 : TabOk Tryz.prog tab57 := TabOk.add (f := 57) (e := e57) (tok87) ⟨_, Tryz.func57, rfl, rfl⟩ (fun args p r h hp => by
  unfold e57 at h; split at h
  · split at h
    · rename_i h_l; cases h; exact (con57 (cok_of tok87 follows) _ _ hp).le ⟨decL_le decEntry_le h_l, dle_refl _, trivial⟩ (ole_refl _)
    · cases h
  · cases h)
theorem tok103 : TabOk Tryz.prog tab103 := TabOk.add (f := 103) (e := e103) (tok57) ⟨_, Tryz.func103, rfl, rfl⟩ (fun args p r h hp => by
  unfold e103 at h; split at h
  · split at h
    · rename_i h_l h_e; cases h; exact (con103 (cok_of tok57 follows) _ _ hp).le ⟨decL_le decEntry_le h_l, decEntry_le h_e, trivial⟩ (ole_refl _)
    · cases h
  · cases h)
theorem tok80 : TabOk Tryz.prog tab80 := TabOk.add (f := 80) (e := e80) (tok103) ⟨_, Tryz.func80, rfl, rfl⟩ (fun args p r h hp => by
  unfold e80 at h; split at h
  · split at h
    · rename_i h_l; cases h; exact (con80 (cok_of tok103 follows) _ hp).le ⟨decL_le decEntry_le h_l, trivial⟩ (ole_refl _)
    · cases h
  · cases h)
theorem tok50 : TabOk Tryz.prog tab50 := TabOk.add (f := 50) (e := e50) (tok80) ⟨_, Tryz.func50, rfl, rfl⟩ (fun args p r h hp => by
  unfold e50 at h; split at h
  · split at h
    · rename_i h_l; cases h; exact (con50 (cok_of tok80 follows) _ hp).le ⟨decL_le decEntry_le h_l, trivial⟩ (ole_refl _)
    · cases h
  · cases h)
theorem tok61 : TabOk Tryz.prog tab61 := TabOk.add (f := 61) (e := e61) (tok50) ⟨_, Tryz.func61, rfl, rfl⟩ (fun args p r h hp => by
  unfold e61 at h; split at h
  · split at h
    · rename_i h_l; cases h; exact (con61 (cok_of tok50 follows) _ hp).le ⟨decL_le decEntry_le h_l, trivial⟩ (ole_refl _)
    · cases h
  · cases h)
theorem tok46 : TabOk Tryz.prog tab46 := TabOk.add (f := 46) (e := e46) (tok61) ⟨_, Tryz.func46, rfl, rfl⟩ (fun args p r h hp => by
  unfold e46 at h; split at h
  · split at h
    · rename_i h_l; cases h; exact (con46 (cok_of tok61 follows) _ hp).le ⟨decL_le decEntry_le h_l, trivial⟩ (ole_refl _)
    · cases h
  · cases h)
theorem tok12 : TabOk Tryz.prog tab12 := TabOk.add (f := 12) (e := e12) (tok46) ⟨_, Tryz.func12, rfl, rfl⟩ (fun args p r h hp => by
  unfold e12 at h; split at h
  · split at h
    · rename_i h_l; cases h; exact (con12 (cok_of tok46 follows) _ hp).le ⟨decL_le decEntry_le h_l, trivial⟩ (ole_refl _)
    · cases h
  · cases h)
theorem tok28 : TabOk Tryz.prog tab28 := TabOk.add (f := 28) (e := e28) (tok12) ⟨_, Tryz.func28, rfl, rfl⟩ (fun args p r h hp => by
  unfold e28 at h; split at h
  · split at h
    · rename_i h_l; cases h; exact (con28 (cok_of tok12 follows) _ hp).le ⟨decL_le decEntry_le h_l, trivial⟩ (ole_refl _)
    · cases h
  · cases h)
theorem tok30 : TabOk Tryz.prog tab30 := TabOk.add (f := 30) (e := e30) (tok28) ⟨_, Tryz.func30, rfl, rfl⟩ (fun args p r h hp => by
  unfold e30 at h; split at h
  · split at h
    · rename_i h_a h_b; cases h; exact (con30 (cok_of tok28 follows) _ _ hp).le ⟨decL_le decAUnit_le h_a, decL_le decAUnit_le h_b, trivial⟩ (ole_refl _)
    · cases h
  · cases h)
theorem tok31 : TabOk Tryz.prog tab31 := TabOk.add (f := 31) (e := e31) (tok30) ⟨_, Tryz.func31, rfl, rfl⟩ (fun args p r h hp => by
  unfold e31 at h; split at h
  · split at h
    · rename_i h_a h_b; cases h; exact (con31 (cok_of tok30 follows) _ _ hp).le ⟨decL_le decS_le h_a, decL_le decS_le h_b, trivial⟩ (ole_refl _)
    · cases h
  · cases h)
theorem tok47 : TabOk Tryz.prog tab47 := TabOk.add (f := 47) (e := e47) (tok31) ⟨_, Tryz.func47, rfl, rfl⟩ (fun args p r h hp => by
  unfold e47 at h; split at h
  · cases h; exact con47 (cok_of tok31 follows) _
  · cases h)
theorem tok29 : TabOk Tryz.prog tab29 := TabOk.add (f := 29) (e := e29) (tok47) ⟨_, Tryz.func29, rfl, rfl⟩ (fun args p r h hp => by
  unfold e29 at h; split at h
  · split at h
    · rename_i h_l; cases h; exact (con29 (cok_of tok47 follows) _ _ _ hp).le ⟨decL_le decEntry_le h_l, dle_refl _, dle_refl _, trivial⟩ (ole_refl _)
    · cases h
  · cases h)
theorem tok8 : TabOk Tryz.prog tab8 := TabOk.add (f := 8) (e := e8) (tok29) ⟨_, Tryz.func8, rfl, rfl⟩ (fun args p r h hp => by
  unfold e8 at h; split at h
  · cases h; exact con8 (cok_of tok29 follows) 
  · cases h)
theorem tok185 : TabOk Tryz.prog tab185 := TabOk.add (f := 185) (e := e185) (tok8) ⟨_, Tryz.func185, rfl, rfl⟩ (fun args p r h hp => by
  unfold e185 at h; split at h
  · cases h; exact con185 (cok_of tok8 follows) _ _ _
  · cases h)
theorem tok187 : TabOk Tryz.prog tab187 := TabOk.add (f := 187) (e := e187) (tok185) ⟨_, Tryz.func187, rfl, rfl⟩ (fun args p r h hp => by
  unfold e187 at h; split at h
  · cases h; exact con187 (cok_of tok185 follows) _ _
  · cases h)
theorem tok186 : TabOk Tryz.prog tab186 := TabOk.add (f := 186) (e := e186) (tok187) ⟨_, Tryz.func186, rfl, rfl⟩ (fun args p r h hp => by
  unfold e186 at h; split at h
  · split at h
    · rename_i h_l; cases h; exact (con186 (cok_of tok187 follows) _ hp).le ⟨decL_le decI_le h_l, trivial⟩ (ole_refl _)
    · cases h
  · cases h)
theorem tok119 : TabOk Tryz.prog tab119 := TabOk.add (f := 119) (e := e119) (tok186) ⟨_, Tryz.func119, rfl, rfl⟩ (fun args p r h hp => by
  unfold e119 at h; split at h
  · cases h; exact con119 (cok_of tok186 follows) _ _
  · cases h)
theorem tok117 : TabOk Tryz.prog tab117 := TabOk.add (f := 117) (e := e117) (tok119) ⟨_, Tryz.func117, rfl, rfl⟩ (fun args p r h hp => by
  unfold e117 at h; split at h
  · split at h
    · rename_i h_l; cases h; exact (con117 (cok_of tok119 follows) _ hp).le ⟨decL_le decI_le h_l, trivial⟩ (ole_refl _)
    · cases h
  · cases h)
theorem tok152 : TabOk Tryz.prog tab152 := TabOk.add (f := 152) (e := e152) (tok117) ⟨_, Tryz.func152, rfl, rfl⟩ (fun args p r h hp => by
  unfold e152 at h; split at h
  · cases h; exact con152 (cok_of tok117 follows) _
  · cases h)
theorem tok172 : TabOk Tryz.prog tab172 := TabOk.add (f := 172) (e := e172) (tok152) ⟨_, Tryz.func172, rfl, rfl⟩ (fun args p r h hp => by
  unfold e172 at h; split at h
  · split at h
    · rename_i h_t; cases h; exact (con172 (cok_of tok152 follows) _).le ⟨decDType_le h_t, trivial⟩ (ole_refl _)
    · cases h
  · cases h)
theorem tok188 : TabOk Tryz.prog tab188 := TabOk.add (f := 188) (e := e188) (tok172) ⟨_, Tryz.func188, rfl, rfl⟩ (fun args p r h hp => by
  unfold e188 at h; split at h
  · split at h
    · rename_i h_t; cases h; exact (con188 (cok_of tok172 follows) _ hp).le ⟨decDType_le h_t, trivial⟩ (ole_refl _)
    · cases h
  · cases h)
theorem tok173 : TabOk Tryz.prog tab173 := TabOk.add (f := 173) (e := e173) (tok188) ⟨_, Tryz.func173, rfl, rfl⟩ (fun args p r h hp => by
  unfold e173 at h; split at h
  · split at h
    · rename_i h_t; cases h; exact (con173 (cok_of tok188 follows) _).le ⟨decDType_le h_t, trivial⟩ (ole_refl _)
    · cases h
  · cases h)
theorem tok197 : TabOk Tryz.prog tab197 := TabOk.add (f := 197) (e := e197) (tok173) ⟨_, Tryz.func197, rfl, rfl⟩ (fun args p r h hp => by
  unfold e197 at h; split at h
  · cases h; exact con197 (cok_of tok173 follows) _
  · cases h)
theorem tok190 : TabOk Tryz.prog tab190 := TabOk.add (f := 190) (e := e190) (tok197) ⟨_, Tryz.func190, rfl, rfl⟩ (fun args p r h hp => by
  unfold e190 at h; split at h
  · split at h
    · rename_i h_t h_v; cases h; exact (con190 (cok_of tok197 follows) _ _).le ⟨decDType_le h_t, decVal_le h_v, trivial⟩ (ole_refl _)
    · cases h
  · cases h)
theorem tok189 : TabOk Tryz.prog tab189 := TabOk.add (f := 189) (e := e189) (tok190) ⟨_, Tryz.func189, rfl, rfl⟩ (fun args p r h hp => by
  unfold e189 at h; split at h
  · cases h; exact con189 (cok_of tok190 follows) _ hp
  · cases h)
theorem tok198 : TabOk Tryz.prog tab198 := TabOk.add (f := 198) (e := e198) (tok189) ⟨_, Tryz.func198, rfl, rfl⟩ (fun args p r h hp => by
  unfold e198 at h; split at h
  · split at h
    · rename_i h_t; cases h; exact (con198 (cok_of tok189 follows) _ _ hp).le ⟨decDType_le h_t, dle_refl _, trivial⟩ (ole_refl _)
    · cases h
  · cases h)
theorem tok191 : TabOk Tryz.prog tab191 := TabOk.add (f := 191) (e := e191) (tok198) ⟨_, Tryz.func191, rfl, rfl⟩ (fun args p r h hp => by
  unfold e191 at h; split at h
  · split at h
    · rename_i h_t; cases h; exact (con191 (cok_of tok198 follows) _ _ hp).le ⟨decDType_le h_t, dle_refl _, trivial⟩ (ole_refl _)
    · cases h
  · cases h)
theorem tok174 : TabOk Tryz.prog tab174 := TabOk.add (f := 174) (e := e174) (tok191) ⟨_, Tryz.func174, rfl, rfl⟩ (fun args p r h hp => by
  unfold e174 at h; split at h
  · split at h
    · rename_i h_t; cases h; exact (con174 (cok_of tok191 follows) _ _).le ⟨decDType_le h_t, dle_refl _, trivial⟩ (ole_refl _)
    · cases h
  · cases h)
theorem tok163 : TabOk Tryz.prog tab163 := TabOk.add (f := 163) (e := e163) (tok174) ⟨_, Tryz.func163, rfl, rfl⟩ (fun args p r h hp => by
  unfold e163 at h; split at h
  · split at h
    · rename_i h_x; cases h; exact (con163 (cok_of tok174 follows) _).le ⟨decField_le h_x, trivial⟩ (ole_refl _)
    · cases h
  · cases h)
theorem tok154 : TabOk Tryz.prog tab154 := TabOk.add (f := 154) (e := e154) (tok163) ⟨_, Tryz.func154, rfl, rfl⟩ (fun args p r h hp => by
  unfold e154 at h; split at h
  · split at h
    · rename_i h_f; cases h; exact (con154 (cok_of tok163 follows) _ _ hp).le ⟨decFmt_le h_f, dle_refl _, trivial⟩ (ole_refl _)
    · cases h
  · cases h)
theorem tok164 : TabOk Tryz.prog tab164 := TabOk.add (f := 164) (e := e164) (tok154) ⟨_, Tryz.func164, rfl, rfl⟩ (fun args p r h hp => by
  unfold e164 at h; split at h
  · split at h
    · rename_i h_f; cases h; exact (con164 (cok_of tok154 follows) _ hp).le ⟨decFmt_le h_f, trivial⟩ (ole_refl _)
    · cases h
  · cases h)
theorem tok162 : TabOk Tryz.prog tab162 := TabOk.add (f := 162) (e := e162) (tok164) ⟨_, Tryz.func162, rfl, rfl⟩ (fun args p r h hp => by
  unfold e162 at h; split at h
  · split at h
    · rename_i h_f; cases h; exact (con162 (cok_of tok164 follows) _ hp).le ⟨decFmt_le h_f, trivial⟩ (ole_refl _)
    · cases h
  · cases h)
theorem tok153 : TabOk Tryz.prog tab153 := TabOk.add (f := 153) (e := e153) (tok162) ⟨_, Tryz.func153, rfl, rfl⟩ (fun args p r h hp => by
  unfold e153 at h; split at h
  · split at h
    · rename_i h_f; cases h; exact (con153 (cok_of tok162 follows) _ hp).le ⟨decFmt_le h_f, trivial⟩ (ole_refl _)
    · cases h
  · cases h)
theorem tok136 : TabOk Tryz.prog tab136 := TabOk.add (f := 136) (e := e136) (tok153) ⟨_, Tryz.func136, rfl, rfl⟩ (fun args p r h hp => by
  unfold e136 at h; split at h
  · split at h
    · rename_i h_f; cases h; exact (con136 (cok_of tok153 follows) _ hp).le ⟨decFile_le h_f, trivial⟩ (ole_refl _)
    · cases h
  · cases h)
theorem tok118 : TabOk Tryz.prog tab118 := TabOk.add (f := 118) (e := e118) (tok136) ⟨_, Tryz.func118, rfl, rfl⟩ (fun args p r h hp => by
  unfold e118 at h; split at h
  · split at h
    · rename_i h_f; cases h; exact (con118 (cok_of tok136 follows) _ hp).le ⟨decFile_le h_f, trivial⟩ (ole_refl _)
    · cases h
  · cases h)
theorem tok165 : TabOk Tryz.prog tab165 := TabOk.add (f := 165) (e := e165) (tok118) ⟨_, Tryz.func165, rfl, rfl⟩ (fun args p r h hp => by
  unfold e165 at h; split at h
  · split at h
    · rename_i h_f; cases h; exact (con165 (cok_of tok118 follows) _ _ hp).le ⟨decFmt_le h_f, dle_refl _, trivial⟩ (ole_refl _)
    · cases h
  · cases h)
theorem tok155 : TabOk Tryz.prog tab155 := TabOk.add (f := 155) (e := e155) (tok165) ⟨_, Tryz.func155, rfl, rfl⟩ (fun args p r h hp => by
  unfold e155 at h; split at h
  · split at h
    · rename_i h_f; cases h; exact (con155 (cok_of tok165 follows) _ _ hp).le ⟨decFmt_le h_f, dle_refl _, trivial⟩ (ole_refl _)
    · cases h
  · cases h)
theorem tok137 : TabOk Tryz.prog tab137 := TabOk.add (f := 137) (e := e137) (tok155) ⟨_, Tryz.func137, rfl, rfl⟩ (fun args p r h hp => by
  unfold e137 at h; split at h
  · split at h
    · rename_i h_f; cases h; exact (con137 (cok_of tok155 follows) _ _ hp).le ⟨decFmt_le h_f, dle_refl _, trivial⟩ (ole_refl _)
    · cases h
  · cases h)
theorem tok120 : TabOk Tryz.prog tab120 := TabOk.add (f := 120) (e := e120) (tok137) ⟨_, Tryz.func120, rfl, rfl⟩ (fun args p r h hp => by
  unfold e120 at h; split at h
  · split at h
    · rename_i h_f; cases h; exact (con120 (cok_of tok137 follows) _ _ hp).le ⟨decFmt_le h_f, dle_refl _, trivial⟩ (ole_refl _)
    · cases h
  · cases h)
theorem tok90 : TabOk Tryz.prog tab90 := TabOk.add (f := 90) (e := e90) (tok120) ⟨_, Tryz.func90, rfl, rfl⟩ (fun args p r h hp => by
  unfold e90 at h; split at h
  · split at h
    · rename_i h_t; cases h; exact (con90 (cok_of tok120 follows) _ hp).le ⟨decTable_le h_t, trivial⟩ (ole_refl _)
    · cases h
  · cases h)
theorem tok121 : TabOk Tryz.prog tab121 := TabOk.add (f := 121) (e := e121) (tok90) ⟨_, Tryz.func121, rfl, rfl⟩ (fun args p r h hp => by
  unfold e121 at h; split at h
  · split at h
    · rename_i h_t; cases h; exact (con121 (cok_of tok90 follows) _ hp).le ⟨decTable_le h_t, trivial⟩ (ole_refl _)
    · cases h
  · cases h)
theorem tok66 : TabOk Tryz.prog tab66 := TabOk.add (f := 66) (e := e66) (tok121) ⟨_, Tryz.func66, rfl, rfl⟩ (fun args p r h hp => by
  unfold e66 at h; split at h
  · split at h
    · rename_i h_l; cases h; exact (con66 (cok_of tok121 follows) _ hp).le ⟨decL_le decField_le h_l, trivial⟩ (ole_refl _)
    · cases h
  · cases h)
theorem tok67 : TabOk Tryz.prog tab67 := TabOk.add (f := 67) (e := e67) (tok66) ⟨_, Tryz.func67, rfl, rfl⟩ (fun args p r h hp => by
  unfold e67 at h; split at h
  · split at h
    · rename_i h_l; cases h; exact (con67 (cok_of tok66 follows) _ hp).le ⟨decL_le decKField_le h_l, trivial⟩ (ole_refl _)
    · cases h
  · cases h)
theorem tok68 : TabOk Tryz.prog tab68 := TabOk.add (f := 68) (e := e68) (tok67) ⟨_, Tryz.func68, rfl, rfl⟩ (fun args p r h hp => by
  unfold e68 at h; split at h
  · split at h
    · rename_i h_l; cases h; exact (con68 (cok_of tok67 follows) _ hp).le ⟨decL_le decRec_le h_l, trivial⟩ (ole_refl _)
    · cases h
  · cases h)
theorem tok122 : TabOk Tryz.prog tab122 := TabOk.add (f := 122) (e := e122) (tok68) ⟨_, Tryz.func122, rfl, rfl⟩ (fun args p r h hp => by
  unfold e122 at h; split at h
  · split at h
    · rename_i h_t h_c; cases h; exact (con122 (cok_of tok68 follows) _ _ hp).le ⟨decTable_le h_t, decChange_le h_c, trivial⟩ (ole_refl _)
    · cases h
  · cases h)
theorem tok93 : TabOk Tryz.prog tab93 := TabOk.add (f := 93) (e := e93) (tok122) ⟨_, Tryz.func93, rfl, rfl⟩ (fun args p r h hp => by
  unfold e93 at h; split at h
  · split at h
    · rename_i h_t h_c; cases h; exact (con93 (cok_of tok122 follows) _ _ hp).le ⟨decTable_le h_t, decChange_le h_c, trivial⟩ (ole_refl _)
    · cases h
  · cases h)
theorem tok94 : TabOk Tryz.prog tab94 := TabOk.add (f := 94) (e := e94) (tok93) ⟨_, Tryz.func94, rfl, rfl⟩ (fun args p r h hp => by
  unfold e94 at h; split at h
  · split at h
    · rename_i h_t h_r; cases h; exact (con94 (cok_of tok93 follows) _ _ _ hp).le ⟨decTable_le h_t, dle_refl _, decRec_le h_r, trivial⟩ (ole_refl _)
    · cases h
  · cases h)
theorem tok70 : TabOk Tryz.prog tab70 := TabOk.add (f := 70) (e := e70) (tok94) ⟨_, Tryz.func70, rfl, rfl⟩ (fun args p r h hp => by
  unfold e70 at h; split at h
  · split at h
    · rename_i h_t h_c; cases h; exact (con70 (cok_of tok94 follows) _ _ hp).le ⟨decTable_le h_t, decChange_le h_c, trivial⟩ (ole_refl _)
    · cases h
  · cases h)
theorem tok71 : TabOk Tryz.prog tab71 := TabOk.add (f := 71) (e := e71) (tok70) ⟨_, Tryz.func71, rfl, rfl⟩ (fun args p r h hp => by
  unfold e71 at h; split at h
  · split at h
    · rename_i h_c; cases h; exact (con71 (cok_of tok70 follows) _).le ⟨decChange_le h_c, trivial⟩ (ole_refl _)
    · cases h
  · cases h)
theorem tok92 : TabOk Tryz.prog tab92 := TabOk.add (f := 92) (e := e92) (tok71) ⟨_, Tryz.func92, rfl, rfl⟩ (fun args p r h hp => by
  unfold e92 at h; split at h
  · split at h
    · rename_i h_t; cases h; exact (con92 (cok_of tok71 follows) _ _).le ⟨decTable_le h_t, dle_refl _, trivial⟩ (ole_refl _)
    · cases h
  · cases h)
theorem tok91 : TabOk Tryz.prog tab91 := TabOk.add (f := 91) (e := e91) (tok92) ⟨_, Tryz.func91, rfl, rfl⟩ (fun args p r h hp => by
  unfold e91 at h; split at h
  · split at h
    · rename_i h_l; cases h; exact (con91 (cok_of tok92 follows) _ _ hp).le ⟨decL_le decTable_le h_l, dle_refl _, trivial⟩ (ole_refl _)
    · cases h
  · cases h)
theorem tok69 : TabOk Tryz.prog tab69 := TabOk.add (f := 69) (e := e69) (tok91) ⟨_, Tryz.func69, rfl, rfl⟩ (fun args p r h hp => by
  unfold e69 at h; split at h
  · split at h
    · rename_i h_l; cases h; exact (con69 (cok_of tok91 follows) _ _ hp).le ⟨decL_le decTable_le h_l, dle_refl _, trivial⟩ (ole_refl _)
    · cases h
  · cases h)
theorem tok65 : TabOk Tryz.prog tab65 := TabOk.add (f := 65) (e := e65) (tok69) ⟨_, Tryz.func65, rfl, rfl⟩ (fun args p r h hp => by
  unfold e65 at h; split at h
  · split at h
    · rename_i h_l; cases h; exact (con65 (cok_of tok69 follows) _ hp).le ⟨decL_le decTable_le h_l, trivial⟩ (ole_refl _)
    · cases h
  · cases h)
theorem tok37 : TabOk Tryz.prog tab37 := TabOk.add (f := 37) (e := e37) (tok65) ⟨_, Tryz.func37, rfl, rfl⟩ (fun args p r h hp => by
  unfold e37 at h; split at h
  · split at h
    · rename_i h_x; cases h; exact (con37 (cok_of tok65 follows) _ _).le ⟨decEntry_le h_x, dle_refl _, trivial⟩ (ole_refl _)
    · cases h
  · cases h)
theorem tok44 : TabOk Tryz.prog tab44 := TabOk.add (f := 44) (e := e44) (tok37) ⟨_, Tryz.func44, rfl, rfl⟩ (fun args p r h hp => by
  unfold e44 at h; split at h
  · split at h
    · rename_i h_x; cases h; exact (con44 (cok_of tok37 follows) _ _).le ⟨decEntry_le h_x, dle_refl _, trivial⟩ (ole_refl _)
    · cases h
  · cases h)
theorem tok34 : TabOk Tryz.prog tab34 := TabOk.add (f := 34) (e := e34) (tok44) ⟨_, Tryz.func34, rfl, rfl⟩ (fun args p r h hp => by
  unfold e34 at h; split at h
  · split at h
    · rename_i h_ts h_l; cases h; exact (con34 (cok_of tok44 follows) _ _ hp).le ⟨decL_le decTable_le h_ts, decL_le decEntry_le h_l, trivial⟩ (ole_refl _)
    · cases h
  · cases h)
theorem tok36 : TabOk Tryz.prog tab36 := TabOk.add (f := 36) (e := e36) (tok34) ⟨_, Tryz.func36, rfl, rfl⟩ (fun args p r h hp => by
  unfold e36 at h; split at h
  · split at h
    · rename_i h_l h_w; cases h; exact (con36 (cok_of tok34 follows) _ _ _ hp).le ⟨decL_le decEntry_le h_l, dle_refl _, decWant_le h_w, trivial⟩ (ole_refl _)
    · cases h
  · cases h)
theorem tok35 : TabOk Tryz.prog tab35 := TabOk.add (f := 35) (e := e35) (tok36) ⟨_, Tryz.func35, rfl, rfl⟩ (fun args p r h hp => by
  unfold e35 at h; split at h
  · split at h
    · rename_i h_ts h_cs; cases h; exact (con35 (cok_of tok36 follows) _ _ hp).le ⟨decL_le decTable_le h_ts, decL_le decChange_le h_cs, trivial⟩ (ole_refl _)
    · cases h
  · cases h)
theorem tok10 : TabOk Tryz.prog tab10 := TabOk.add (f := 10) (e := e10) (tok35) ⟨_, Tryz.func10, rfl, rfl⟩ (fun args p r h hp => by
  unfold e10 at h; split at h
  · split at h
    · rename_i h_ts h_l; cases h; exact (con10 (cok_of tok35 follows) _ _ _ hp).le ⟨decL_le decTable_le h_ts, decL_le decEntry_le h_l, dle_refl _, trivial⟩ (ole_refl _)
    · cases h
  · cases h)
theorem tok15 : TabOk Tryz.prog tab15 := TabOk.add (f := 15) (e := e15) (tok10) ⟨_, Tryz.func15, rfl, rfl⟩ (fun args p r h hp => by
  unfold e15 at h; split at h
  · split at h
    · rename_i h_ts h_l; cases h; exact (con15 (cok_of tok10 follows) _ _ _ hp).le ⟨decL_le decTable_le h_ts, decL_le decEntry_le h_l, dle_refl _, trivial⟩ (ole_refl _)
    · cases h
  · cases h)
theorem tok95 : TabOk Tryz.prog tab95 := TabOk.add (f := 95) (e := e95) (tok15) ⟨_, Tryz.func95, rfl, rfl⟩ (fun args p r h hp => by
  unfold e95 at h; split at h
  · split at h
    · rename_i h_f; cases h; exact (con95 (cok_of tok15 follows) _ hp).le ⟨decFmt_le h_f, trivial⟩ (ole_refl _)
    · cases h
  · cases h)
theorem tok73 : TabOk Tryz.prog tab73 := TabOk.add (f := 73) (e := e73) (tok95) ⟨_, Tryz.func73, rfl, rfl⟩ (fun args p r h hp => by
  unfold e73 at h; split at h
  · split at h
    · rename_i h_f; cases h; exact (con73 (cok_of tok95 follows) _ hp).le ⟨decFile_le h_f, trivial⟩ (ole_refl _)
    · cases h
  · cases h)
theorem tok38 : TabOk Tryz.prog tab38 := TabOk.add (f := 38) (e := e38) (tok73) ⟨_, Tryz.func38, rfl, rfl⟩ (fun args p r h hp => by
  unfold e38 at h; split at h
  · split at h
    · rename_i h_t; cases h; exact (con38 (cok_of tok73 follows) _ hp).le ⟨decTable_le h_t, trivial⟩ (ole_refl _)
    · cases h
  · cases h)
theorem tok11 : TabOk Tryz.prog tab11 := TabOk.add (f := 11) (e := e11) (tok38) ⟨_, Tryz.func11, rfl, rfl⟩ (fun args p r h hp => by
  unfold e11 at h; split at h
  · split at h
    · rename_i h_ts; cases h; exact (con11 (cok_of tok38 follows) _ hp).le ⟨decL_le decTable_le h_ts, trivial⟩ (ole_refl _)
    · cases h
  · cases h)
theorem tok99 : TabOk Tryz.prog tab99 := TabOk.add (f := 99) (e := e99) (tok11) ⟨_, Tryz.func99, rfl, rfl⟩ (fun args p r h hp => by
  unfold e99 at h; split at h
  · split at h
    · rename_i h_a h_b; cases h; exact (con99 (cok_of tok11 follows) _ _ hp).le ⟨decL_le decRec_le h_a, decL_le decRec_le h_b, trivial⟩ (ole_refl _)
    · cases h
  · cases h)
theorem tok126 : TabOk Tryz.prog tab126 := TabOk.add (f := 126) (e := e126) (tok99) ⟨_, Tryz.func126, rfl, rfl⟩ (fun args p r h hp => by
  unfold e126 at h; split at h
  · split at h
    · rename_i h_a h_b; cases h; exact (con126 (cok_of tok99 follows) _ _ hp).le ⟨decFmt_le h_a, decFmt_le h_b, trivial⟩ (ole_refl _)
    · cases h
  · cases h)
theorem tok98 : TabOk Tryz.prog tab98 := TabOk.add (f := 98) (e := e98) (tok126) ⟨_, Tryz.func98, rfl, rfl⟩ (fun args p r h hp => by
  unfold e98 at h; split at h
  · split at h
    · rename_i h_a h_b; cases h; exact (con98 (cok_of tok126 follows) _ _ hp).le ⟨decFile_le h_a, decFile_le h_b, trivial⟩ (ole_refl _)
    · cases h
  · cases h)
theorem tok78 : TabOk Tryz.prog tab78 := TabOk.add (f := 78) (e := e78) (tok98) ⟨_, Tryz.func78, rfl, rfl⟩ (fun args p r h hp => by
  unfold e78 at h; split at h
  · split at h
    · rename_i h_a h_b; cases h; exact (con78 (cok_of tok98 follows) _ _ hp).le ⟨decTable_le h_a, decTable_le h_b, trivial⟩ (ole_refl _)
    · cases h
  · cases h)
theorem tok64 : TabOk Tryz.prog tab64 := TabOk.add (f := 64) (e := e64) (tok78) ⟨_, Tryz.func64, rfl, rfl⟩ (fun args p r h hp => by
  unfold e64 at h; split at h
  · split at h
    · rename_i h_f; cases h; exact (con64 (cok_of tok78 follows) _).le ⟨decFmt_le h_f, trivial⟩ (ole_refl _)
    · cases h
  · cases h)
theorem tok43 : TabOk Tryz.prog tab43 := TabOk.add (f := 43) (e := e43) (tok64) ⟨_, Tryz.func43, rfl, rfl⟩ (fun args p r h hp => by
  unfold e43 at h; split at h
  · split at h
    · rename_i h_a h_b; cases h; exact (con43 (cok_of tok64 follows) _ _ hp).le ⟨decL_le decTable_le h_a, decL_le decTable_le h_b, trivial⟩ (ole_refl _)
    · cases h
  · cases h)
theorem tok32 : TabOk Tryz.prog tab32 := TabOk.add (f := 32) (e := e32) (tok43) ⟨_, Tryz.func32, rfl, rfl⟩ (fun args p r h hp => by
  unfold e32 at h; split at h
  · split at h
    · rename_i h_l; cases h; exact (con32 (cok_of tok43 follows) _).le ⟨decL_le decTable_le h_l, trivial⟩ (ole_refl _)
    · cases h
  · cases h)
theorem tok9 : TabOk Tryz.prog tab9 := TabOk.add (f := 9) (e := e9) (tok32) ⟨_, Tryz.func9, rfl, rfl⟩ (fun args p r h hp => by
  unfold e9 at h; split at h
  · split at h
    · rename_i h_ts h_l; cases h; exact (con9 (cok_of tok32 follows) _ _).le ⟨decL_le decTable_le h_ts, decL_le decEntry_le h_l, trivial⟩ (ole_refl _)
    · cases h
  · cases h)
theorem tok60 : TabOk Tryz.prog tab60 := TabOk.add (f := 60) (e := e60) (tok9) ⟨_, Tryz.func60, rfl, rfl⟩ (fun args p r h hp => by
  unfold e60 at h; split at h
  · split at h
    · rename_i h_l; cases h; exact (con60 (cok_of tok9 follows) _ hp).le ⟨decL_le decTable_le h_l, trivial⟩ (ole_refl _)
    · cases h
  · cases h)
theorem tok27 : TabOk Tryz.prog tab27 := TabOk.add (f := 27) (e := e27) (tok60) ⟨_, Tryz.func27, rfl, rfl⟩ (fun args p r h hp => by
  unfold e27 at h; split at h
  · split at h
    · rename_i h_a h_b; cases h; exact (con27 (cok_of tok60 follows) _ _ hp).le ⟨decL_le decTable_le h_a, decL_le decTable_le h_b, trivial⟩ (ole_refl _)
    · cases h
  · cases h)
theorem tok179 : TabOk Tryz.prog tab179 := TabOk.add (f := 179) (e := e179) (tok27) ⟨_, Tryz.func179, rfl, rfl⟩ (fun args p r h hp => by
  unfold e179 at h; split at h
  · split at h
    · rename_i h_t; cases h; exact (con179 (cok_of tok27 follows) _ hp).le ⟨decDType_le h_t, trivial⟩ (ole_refl _)
    · cases h
  · cases h)
theorem tok180 : TabOk Tryz.prog tab180 := TabOk.add (f := 180) (e := e180) (tok179) ⟨_, Tryz.func180, rfl, rfl⟩ (fun args p r h hp => by
  unfold e180 at h; split at h
  · cases h; exact con180 (cok_of tok179 follows) _ _ _ hp
  · cases h)
theorem tok195 : TabOk Tryz.prog tab195 := TabOk.add (f := 195) (e := e195) (tok180) ⟨_, Tryz.func195, rfl, rfl⟩ (fun args p r h hp => by
  unfold e195 at h; split at h
  · cases h; exact con195 (cok_of tok180 follows) _ hp
  · cases h)
theorem tok194 : TabOk Tryz.prog tab194 := TabOk.add (f := 194) (e := e194) (tok195) ⟨_, Tryz.func194, rfl, rfl⟩ (fun args p r h hp => by
  unfold e194 at h; split at h
  · cases h; exact con194 (cok_of tok195 follows) _
  · cases h)
theorem tok196 : TabOk Tryz.prog tab196 := TabOk.add (f := 196) (e := e196) (tok194) ⟨_, Tryz.func196, rfl, rfl⟩ (fun args p r h hp => by
  unfold e196 at h; split at h
  · cases h; exact con196 (cok_of tok194 follows) _ _
  · cases h)
theorem tok178 : TabOk Tryz.prog tab178 := TabOk.add (f := 178) (e := e178) (tok196) ⟨_, Tryz.func178, rfl, rfl⟩ (fun args p r h hp => by
  unfold e178 at h; split at h
  · split at h
    · rename_i h_t; cases h; exact (con178 (cok_of tok196 follows) _).le ⟨decDType_le h_t, trivial⟩ (ole_refl _)
    · cases h
  · cases h)
theorem tok181 : TabOk Tryz.prog tab181 := TabOk.add (f := 181) (e := e181) (tok178) ⟨_, Tryz.func181, rfl, rfl⟩ (fun args p r h hp => by
  unfold e181 at h; split at h
  · split at h
    · rename_i h_t; cases h; exact (con181 (cok_of tok178 follows) _ hp).le ⟨decDType_le h_t, trivial⟩ (ole_refl _)
    · cases h
  · cases h)
theorem tok182 : TabOk Tryz.prog tab182 := TabOk.add (f := 182) (e := e182) (tok181) ⟨_, Tryz.func182, rfl, rfl⟩ (fun args p r h hp => by
  unfold e182 at h; split at h
  · cases h; exact con182 (cok_of tok181 follows) _ hp
  · cases h)
theorem tok183 : TabOk Tryz.prog tab183 := TabOk.add (f := 183) (e := e183) (tok182) ⟨_, Tryz.func183, rfl, rfl⟩ (fun args p r h hp => by
  unfold e183 at h; split at h
  · split at h
    · rename_i h_t; cases h; exact (con183 (cok_of tok182 follows) _ _ hp).le ⟨decDType_le h_t, dle_refl _, trivial⟩ (ole_refl _)
    · cases h
  · cases h)
theorem tok169 : TabOk Tryz.prog tab169 := TabOk.add (f := 169) (e := e169) (tok183) ⟨_, Tryz.func169, rfl, rfl⟩ (fun args p r h hp => by
  unfold e169 at h; split at h
  · split at h
    · rename_i h_t; cases h; exact (con169 (cok_of tok183 follows) _ _).le ⟨decDType_le h_t, dle_refl _, trivial⟩ (ole_refl _)
    · cases h
  · cases h)
theorem tok193 : TabOk Tryz.prog tab193 := TabOk.add (f := 193) (e := e193) (tok169) ⟨_, Tryz.func193, rfl, rfl⟩ (fun args p r h hp => by
  unfold e193 at h; split at h
  · split at h
    · rename_i h_f; cases h; exact (con193 (cok_of tok169 follows) _ _ hp).le ⟨decFmt_le h_f, dle_refl _, trivial⟩ (ole_refl _)
    · cases h
  · cases h)
theorem tok177 : TabOk Tryz.prog tab177 := TabOk.add (f := 177) (e := e177) (tok193) ⟨_, Tryz.func177, rfl, rfl⟩ (fun args p r h hp => by
  unfold e177 at h; split at h
  · split at h
    · rename_i h_f; cases h; exact (con177 (cok_of tok193 follows) _ hp).le ⟨decFmt_le h_f, trivial⟩ (ole_refl _)
    · cases h
  · cases h)
theorem tok192 : TabOk Tryz.prog tab192 := TabOk.add (f := 192) (e := e192) (tok177) ⟨_, Tryz.func192, rfl, rfl⟩ (fun args p r h hp => by
  unfold e192 at h; split at h
  · split at h
    · rename_i h_f; cases h; exact (con192 (cok_of tok177 follows) _ hp).le ⟨decFmt_le h_f, trivial⟩ (ole_refl _)
    · cases h
  · cases h)
theorem tok175 : TabOk Tryz.prog tab175 := TabOk.add (f := 175) (e := e175) (tok192) ⟨_, Tryz.func175, rfl, rfl⟩ (fun args p r h hp => by
  unfold e175 at h; split at h
  · split at h
    · rename_i h_f; cases h; exact (con175 (cok_of tok192 follows) _ hp).le ⟨decFmt_le h_f, trivial⟩ (ole_refl _)
    · cases h
  · cases h)
theorem tok176 : TabOk Tryz.prog tab176 := TabOk.add (f := 176) (e := e176) (tok175) ⟨_, Tryz.func176, rfl, rfl⟩ (fun args p r h hp => by
  unfold e176 at h; split at h
  · split at h
    · rename_i h_f; cases h; exact (con176 (cok_of tok175 follows) _ hp).le ⟨decFile_le h_f, trivial⟩ (ole_refl _)
    · cases h
  · cases h)
theorem tok166 : TabOk Tryz.prog tab166 := TabOk.add (f := 166) (e := e166) (tok176) ⟨_, Tryz.func166, rfl, rfl⟩ (fun args p r h hp => by
  unfold e166 at h; split at h
  · split at h
    · rename_i h_f; cases h; exact (con166 (cok_of tok176 follows) _ hp).le ⟨decFile_le h_f, trivial⟩ (ole_refl _)
    · cases h
  · cases h)
theorem tok156 : TabOk Tryz.prog tab156 := TabOk.add (f := 156) (e := e156) (tok166) ⟨_, Tryz.func156, rfl, rfl⟩ (fun args p r h hp => by
  unfold e156 at h; split at h
  · split at h
    · rename_i h_f; cases h; exact (con156 (cok_of tok166 follows) _ hp).le ⟨decFile_le h_f, trivial⟩ (ole_refl _)
    · cases h
  · cases h)
theorem tok138 : TabOk Tryz.prog tab138 := TabOk.add (f := 138) (e := e138) (tok156) ⟨_, Tryz.func138, rfl, rfl⟩ (fun args p r h hp => by
  unfold e138 at h; split at h
  · split at h
    · rename_i h_f; cases h; exact (con138 (cok_of tok156 follows) _ hp).le ⟨decFile_le h_f, trivial⟩ (ole_refl _)
    · cases h
  · cases h)
theorem tok167 : TabOk Tryz.prog tab167 := TabOk.add (f := 167) (e := e167) (tok138) ⟨_, Tryz.func167, rfl, rfl⟩ (fun args p r h hp => by
  unfold e167 at h; split at h
  · split at h
    · rename_i h_f; cases h; exact (con167 (cok_of tok138 follows) _ hp).le ⟨decFmt_le h_f, trivial⟩ (ole_refl _)
    · cases h
  · cases h)
theorem tok168 : TabOk Tryz.prog tab168 := TabOk.add (f := 168) (e := e168) (tok167) ⟨_, Tryz.func168, rfl, rfl⟩ (fun args p r h hp => by
  unfold e168 at h; split at h
  · split at h
    · rename_i h_f; cases h; exact (con168 (cok_of tok167 follows) _ hp).le ⟨decFmt_le h_f, trivial⟩ (ole_refl _)
    · cases h
  · cases h)
theorem tok184 : TabOk Tryz.prog tab184 := TabOk.add (f := 184) (e := e184) (tok168) ⟨_, Tryz.func184, rfl, rfl⟩ (fun args p r h hp => by
  unfold e184 at h; split at h
  · split at h
    · rename_i h_f; cases h; exact (con184 (cok_of tok168 follows) _ _ hp).le ⟨decFmt_le h_f, dle_refl _, trivial⟩ (ole_refl _)
    · cases h
  · cases h)
theorem tok170 : TabOk Tryz.prog tab170 := TabOk.add (f := 170) (e := e170) (tok184) ⟨_, Tryz.func170, rfl, rfl⟩ (fun args p r h hp => by
  unfold e170 at h; split at h
  · split at h
    · rename_i h_f; cases h; exact (con170 (cok_of tok184 follows) _ _ _ hp).le ⟨decFmt_le h_f, dle_refl _, dle_refl _, trivial⟩ (ole_refl _)
    · cases h
  · cases h)
theorem tok157 : TabOk Tryz.prog tab157 := TabOk.add (f := 157) (e := e157) (tok170) ⟨_, Tryz.func157, rfl, rfl⟩ (fun args p r h hp => by
  unfold e157 at h; split at h
  · split at h
    · rename_i h_f; cases h; exact (con157 (cok_of tok170 follows) _ _ hp).le ⟨decFmt_le h_f, dle_refl _, trivial⟩ (ole_refl _)
    · cases h
  · cases h)
theorem tok139 : TabOk Tryz.prog tab139 := TabOk.add (f := 139) (e := e139) (tok157) ⟨_, Tryz.func139, rfl, rfl⟩ (fun args p r h hp => by
  unfold e139 at h; split at h
  · split at h
    · rename_i h_f; cases h; exact (con139 (cok_of tok157 follows) _ _ hp).le ⟨decFmt_le h_f, dle_refl _, trivial⟩ (ole_refl _)
    · cases h
  · cases h)
theorem tok123 : TabOk Tryz.prog tab123 := TabOk.add (f := 123) (e := e123) (tok139) ⟨_, Tryz.func123, rfl, rfl⟩ (fun args p r h hp => by
  unfold e123 at h; split at h
  · split at h
    · rename_i h_t; cases h; exact (con123 (cok_of tok139 follows) _ hp).le ⟨decTable_le h_t, trivial⟩ (ole_refl _)
    · cases h
  · cases h)
theorem tok96 : TabOk Tryz.prog tab96 := TabOk.add (f := 96) (e := e96) (tok123) ⟨_, Tryz.func96, rfl, rfl⟩ (fun args p r h hp => by
  unfold e96 at h; split at h
  · split at h
    · rename_i h_t; cases h; exact (con96 (cok_of tok123 follows) _ hp).le ⟨decTable_le h_t, trivial⟩ (ole_refl _)
    · cases h
  · cases h)
theorem tok140 : TabOk Tryz.prog tab140 := TabOk.add (f := 140) (e := e140) (tok96) ⟨_, Tryz.func140, rfl, rfl⟩ (fun args p r h hp => by
  unfold e140 at h; split at h
  · split at h
    · rename_i h_t; cases h; exact (con140 (cok_of tok96 follows) _ _ hp).le ⟨decTable_le h_t, dle_refl _, trivial⟩ (ole_refl _)
    · cases h
  · cases h)
theorem tok38o : TabOk Tryz.prog tab38o := TabOk.add (f := 38) (e := e38o) (tok140) ⟨_, Tryz.func38, rfl, rfl⟩ (fun args p r h hp => by
  unfold e38o at h; split at h
  · split at h
    · rename_i h_t; cases h; exact (con38o (cok_of tok140 follows) _ hp).le ⟨decTable_le h_t, trivial⟩ (ole_refl _)
    · cases h
  · cases h)
theorem tok141 : TabOk Tryz.prog tab141 := TabOk.add (f := 141) (e := e141) (tok38o) ⟨_, Tryz.func141, rfl, rfl⟩ (fun args p r h hp => by
  unfold e141 at h; split at h
  · split at h
    · rename_i h_t h_r; cases h; exact (con141 (cok_of tok38o follows) _ _ _ hp).le ⟨decTable_le h_t, dle_refl _, decRec_le h_r, trivial⟩ (ole_refl _)
    · cases h
  · cases h)
theorem tok124 : TabOk Tryz.prog tab124 := TabOk.add (f := 124) (e := e124) (tok141) ⟨_, Tryz.func124, rfl, rfl⟩ (fun args p r h hp => by
  unfold e124 at h; split at h
  · split at h
    · rename_i h_t h_c; cases h; exact (con124 (cok_of tok141 follows) _ _ hp).le ⟨decTable_le h_t, decChange_le h_c, trivial⟩ (ole_refl _)
    · cases h
  · cases h)
theorem tok125 : TabOk Tryz.prog tab125 := TabOk.add (f := 125) (e := e125) (tok124) ⟨_, Tryz.func125, rfl, rfl⟩ (fun args p r h hp => by
  unfold e125 at h; split at h
  · split at h
    · rename_i h_t h_c; cases h; exact (con125 (cok_of tok124 follows) _ _ hp).le ⟨decTable_le h_t, decChange_le h_c, trivial⟩ (ole_refl _)
    · cases h
  · cases h)
theorem tok97 : TabOk Tryz.prog tab97 := TabOk.add (f := 97) (e := e97) (tok125) ⟨_, Tryz.func97, rfl, rfl⟩ (fun args p r h hp => by
  unfold e97 at h; split at h
  · split at h
    · rename_i h_t h_c; cases h; exact (con97 (cok_of tok125 follows) _ _ hp).le ⟨decTable_le h_t, decChange_le h_c, trivial⟩ (ole_refl _)
    · cases h
  · cases h)
theorem tok45 : TabOk Tryz.prog tab45 := TabOk.add (f := 45) (e := e45) (tok97) ⟨_, Tryz.func45, rfl, rfl⟩ (fun args p r h hp => by
  unfold e45 at h; split at h
  · split at h
    · rename_i h_c; cases h; exact (con45 (cok_of tok97 follows) _).le ⟨decChange_le h_c, trivial⟩ (ole_refl _)
    · cases h
  · cases h)
theorem tok77 : TabOk Tryz.prog tab77 := TabOk.add (f := 77) (e := e77) (tok45) ⟨_, Tryz.func77, rfl, rfl⟩ (fun args p r h hp => by
  unfold e77 at h; split at h
  · split at h
    · rename_i h_l; cases h; exact (con77 (cok_of tok45 follows) _ _ hp).le ⟨decL_le decTable_le h_l, dle_refl _, trivial⟩ (ole_refl _)
    · cases h
  · cases h)
theorem tok74 : TabOk Tryz.prog tab74 := TabOk.add (f := 74) (e := e74) (tok77) ⟨_, Tryz.func74, rfl, rfl⟩ (fun args p r h hp => by
  unfold e74 at h; split at h
  · split at h
    · rename_i h_l; cases h; exact (con74 (cok_of tok77 follows) _ hp).le ⟨decL_le decTable_le h_l, trivial⟩ (ole_refl _)
    · cases h
  · cases h)
theorem tok38d : TabOk Tryz.prog tab38d := TabOk.add (f := 38) (e := e38d) (tok74) ⟨_, Tryz.func38, rfl, rfl⟩ (fun args p r h hp => by
  unfold e38d at h; split at h
  · split at h
    · rename_i h_t; cases h; exact (con38d (cok_of tok74 follows) _ hp).le ⟨decTable_le h_t, trivial⟩ (ole_refl _)
    · cases h
  · cases h)
theorem tok75 : TabOk Tryz.prog tab75 := TabOk.add (f := 75) (e := e75) (tok38d) ⟨_, Tryz.func75, rfl, rfl⟩ (fun args p r h hp => by
  unfold e75 at h; split at h
  · split at h
    · rename_i h_x h_c; cases h; exact (con75 (cok_of tok38d follows) _ _ hp).le ⟨decAnsB_le h_x, decChange_le h_c, trivial⟩ (ole_refl _)
    · cases h
  · cases h)
theorem tok42 : TabOk Tryz.prog tab42 := TabOk.add (f := 42) (e := e42) (tok75) ⟨_, Tryz.func42, rfl, rfl⟩ (fun args p r h hp => by
  unfold e42 at h; split at h
  · split at h
    · rename_i h_ts h_cs; cases h; exact (con42 (cok_of tok75 follows) _ _ hp).le ⟨decL_le decTable_le h_ts, decL_le decChange_le h_cs, trivial⟩ (ole_refl _)
    · cases h
  · cases h)
theorem tok39 : TabOk Tryz.prog tab39 := TabOk.add (f := 39) (e := e39) (tok42) ⟨_, Tryz.func39, rfl, rfl⟩ (fun args p r h hp => by
  unfold e39 at h; split at h
  · split at h
    · rename_i h_ts h_l; cases h; exact (con39 (cok_of tok42 follows) _ _ hp).le ⟨decL_le decTable_le h_ts, decL_le decEntry_le h_l, trivial⟩ (ole_refl _)
    · cases h
  · cases h)
theorem tok40 : TabOk Tryz.prog tab40 := TabOk.add (f := 40) (e := e40) (tok39) ⟨_, Tryz.func40, rfl, rfl⟩ (fun args p r h hp => by
  unfold e40 at h; split at h
  · split at h
    · rename_i h_l; cases h; exact (con40 (cok_of tok39 follows) _ hp).le ⟨decL_le decEntry_le h_l, trivial⟩ (ole_refl _)
    · cases h
  · cases h)
theorem tok13 : TabOk Tryz.prog tab13 := TabOk.add (f := 13) (e := e13) (tok40) ⟨_, Tryz.func13, rfl, rfl⟩ (fun args p r h hp => by
  unfold e13 at h; split at h
  · split at h
    · rename_i h_ts h_l; cases h; exact (con13 (cok_of tok40 follows) _ _ _ hp).le ⟨decL_le decTable_le h_ts, decL_le decEntry_le h_l, dle_refl _, trivial⟩ (ole_refl _)
    · cases h
  · cases h)
theorem tok16 : TabOk Tryz.prog tab16 := TabOk.add (f := 16) (e := e16) (tok13) ⟨_, Tryz.func16, rfl, rfl⟩ (fun args p r h hp => by
  unfold e16 at h; split at h
  · split at h
    · rename_i h_ts h_l; cases h; exact (con16 (cok_of tok13 follows) _ _ _ hp).le ⟨decL_le decTable_le h_ts, decL_le decEntry_le h_l, dle_refl _, trivial⟩ (ole_refl _)
    · cases h
  · cases h)
theorem tok14 : TabOk Tryz.prog tab14 := TabOk.add (f := 14) (e := e14) (tok16) ⟨_, Tryz.func14, rfl, rfl⟩ (fun args p r h hp => by
  unfold e14 at h; split at h
  · split at h
    · rename_i h_ts h_x; cases h; exact (con14 (cok_of tok16 follows) _ _ _ hp).le ⟨decL_le decTable_le h_ts, dle_refl _, decAns_le h_x, trivial⟩ (ole_refl _)
    · cases h
  · cases h)
theorem tok3 : TabOk Tryz.prog tab3 := TabOk.add (f := 3) (e := e3) (tok14) ⟨_, Tryz.func3, rfl, rfl⟩ (fun args p r h hp => by
  unfold e3 at h; split at h
  · split at h
    · rename_i h_ts h_l; cases h; exact (con3 (cok_of tok14 follows) _ _ _).le ⟨decL_le decTable_le h_ts, decL_le decEntry_le h_l, dle_refl _, trivial⟩ (ole_refl _)
    · cases h
  · cases h)
end Go.Ev

namespace Go.Ev
open Go.ChangeShapes Go.WideShapes Go.ChangeAt Go.RowKit
section
variable {H : Type} {enc : TypeId × Value → H} {P : Program} {w : World} {sp : Nat → Bool} {held : Bool}
def RDs (w : World) (cs : List Value) (ds : List D) : Prop := cs.length = ds.length ∧ ∀ (j : Nat) (v : Value) (d : D), cs[j]? = some v → ds[j]? = some d → RD w (fun _ => False) v d ∧ d.one = true
theorem RDs.nil : RDs w [] [] := ⟨rfl, fun j v d h => by simp at h⟩
theorem RDs.one {v : Value} {d : D} (h : RD w (fun _ => False) v d) (h1 : d.one = true) : RDs w [v] [d] := ⟨rfl, fun j u e hj he => by
  match j with
  | 0 => simp at hj he; subst hj; subst he; exact ⟨h, h1⟩
  | j + 1 => simp at hj⟩
theorem RDs.append {a b : List Value} {x y : List D} (h : RDs w a x) (k : RDs w b y) : RDs w (a ++ b) (x ++ y) := by
  refine ⟨by rw [List.length_append, List.length_append, h.1, k.1], fun j v d hj hd => ?_⟩
  by_cases hl : j < a.length
  · rw [List.getElem?_append_left hl] at hj
    rw [List.getElem?_append_left (by rw [← h.1]; exact hl)] at hd
    exact h.2 j v d hj hd
  · rw [List.getElem?_append_right (by omega)] at hj
    rw [List.getElem?_append_right (by rw [← h.1]; omega)] at hd
    rw [h.1] at hj
    exact k.2 _ v d hj hd
theorem read_int {t : TypeId} {k : IntKind} (ht : P.underlying t = some (.int k)) {fuel : Nat} {cs : List Value} {x : DataW H × List MemPlace} (h : DataW.trod enc P w 0 sp held fuel t cs = some x) :
    ∃ n, (Lit.int k n).wf = true ∧ RDs w cs [.i k n] := by
  obtain ⟨n, rfl, _, hw⟩ := DataW.trod_int ht h
  exact ⟨n, hw, RDs.one (.i k n) rfl⟩
theorem read_bool {t : TypeId} (ht : P.underlying t = some .bool) {fuel : Nat} {cs : List Value} {x : DataW H × List MemPlace} (h : DataW.trod enc P w 0 sp held fuel t cs = some x) :
    ∃ b, RDs w cs [.b b] := by
  obtain ⟨n, rfl, _⟩ := DataW.trod_bool ht h
  exact ⟨n, RDs.one (.b n) rfl⟩
theorem read_string {t : TypeId} (ht : P.underlying t = some .string) {fuel : Nat} {cs : List Value} {x : DataW H × List MemPlace} (h : DataW.trod enc P w 0 sp held fuel t cs = some x) :
    ∃ s : ByteArray, s.size ≤ maxLen ∧ RDs w cs [.s s] := by
  obtain ⟨n, rfl, _, hs⟩ := DataW.trod_string ht h
  exact ⟨n, hs, RDs.one (.s n) rfl⟩
theorem cell_spot {a : Addr} {v : Value} (h : w.cell? a = some v) : a.spot = none := by
  unfold World.cell? at h
  split at h
  · split at h
    · cases h
    · rename_i hs; simpa using hs
  · cases h
theorem read_slice {t e : TypeId} {α : Type} {encf : α → D} {Ok : α → Prop} {sz : Nat} (ht : P.underlying t = some (.slice e)) (hsz : P.cellsOf e = sz) (h0 : 0 < sz) (hc : ∀ r, (encf r).cells.length = sz)
    (he : ∀ (fuel : Nat) (cs : List Value) (x : DataW H × List MemPlace), DataW.trod enc P w 0 sp held fuel e cs = some x → ∃ r, Ok r ∧ RDs w cs (encf r).cells)
    {fuel : Nat} {cs : List Value} {x : DataW H × List MemPlace} (h : DataW.trod enc P w 0 sp held fuel t cs = some x) :
    ∃ l : List α, (∀ r ∈ l, Ok r) ∧ l.length ≤ maxLen ∧ RDs w cs [.sl sz (l.map encf)] := by
  rcases DataW.trod_slice ht h with ⟨rfl, _⟩ | ⟨a, len, cap, elems, rest, n, rfl, rfl, _, _, hlc, hcm, hel, hg, _, _⟩
  · exact ⟨[], by simp, Nat.zero_le _, RDs.one (.sl0 sz) rfl⟩
  · have key : ∀ i, i < len → ∃ r, Ok r ∧ ∃ cs', w.cells? 0 (a.add (i * sz)) sz = some cs' ∧ RDs w cs' (encf r).cells := fun i hi => by
      have h1 := hg i hi
      rw [hsz, List.getElem?_eq_getElem (by omega), Option.bind_eq_some_iff] at h1
      obtain ⟨cs', h2, h3⟩ := h1
      obtain ⟨r, hr, hd⟩ := he _ _ _ h3
      exact ⟨r, hr, cs', h2, hd⟩
    let f : ∀ i, i < len → α := fun i hi => Classical.choose (key i hi)
    have hf1 : ∀ i hi, Ok (f i hi) := fun i hi => (Classical.choose_spec (key i hi)).1
    have hf2 : ∀ i hi, ∃ cs', w.cells? 0 (a.add (i * sz)) sz = some cs' ∧ RDs w cs' (encf (f i hi)).cells := fun i hi => (Classical.choose_spec (key i hi)).2
    clear_value f
    have hspot : 0 < len → a.spot = none := fun hl => by
      obtain ⟨cs', h3, _⟩ := hf2 0 hl
      obtain ⟨_, h5, h6⟩ := World.cells?_some h3
      have h9 := h6 0 h0
      rw [List.getElem?_eq_getElem (by omega)] at h9
      have := cell_spot h9
      simpa [Addr.add] using this
    let l : List α := List.ofFn fun i : Fin len => f i.1 i.2
    have hll : l.length = len := by simp [l]
    have hli : ∀ i (hi : i < len), l[i]? = some (f i hi) := fun i hi => by simp [l, hi]
    have hfl : (flat (l.map encf)).length = len * sz := by
      rw [flat_length (sz := sz) (fun d hd => by
        obtain ⟨r, _, rfl⟩ := List.mem_map.1 hd
        exact hc r), List.length_map, hll]
    have hcell : ∀ (k : Nat) (d : D), (flat (l.map encf))[k]? = some d → a.spot = none ∧ ∃ v, w.cell? ⟨a.block, a.off + k, none⟩ = some v ∧ RD w (fun _ => False) v d ∧ d.one = true := fun k d hk => by
      have hk1 : k < len * sz := by rw [← hfl]; exact (List.getElem?_eq_some_iff.1 hk).1
      have hi : k / sz < len := Nat.div_lt_of_lt_mul (by rwa [Nat.mul_comm])
      have hm : k % sz < sz := Nat.mod_lt _ h0
      have hkk : k / sz * sz + k % sz = k := by rw [Nat.mul_comm]; exact Nat.div_add_mod k sz
      have hj : (l.map encf)[k / sz]? = some (encf (f (k / sz) hi)) := by rw [List.getElem?_map, hli _ hi]; rfl
      have h2 := flat_get (sz := sz) (fun d hd => by
        obtain ⟨r, _, rfl⟩ := List.mem_map.1 hd
        exact hc r) hj hm
      rw [hkk, hk] at h2
      obtain ⟨cs', h3, h4⟩ := hf2 (k / sz) hi
      obtain ⟨_, h5, h6⟩ := World.cells?_some h3
      have h7 := h6 (k % sz) hm
      have hlt : k % sz < cs'.length := by omega
      rw [List.getElem?_eq_getElem hlt] at h7
      have h8 := h4.2 (k % sz) _ d (List.getElem?_eq_getElem hlt) h2.symm
      have hsp : a.spot = none := hspot (Nat.lt_of_le_of_lt (Nat.zero_le _) hi)
      refine ⟨hsp, _, ?_, h8⟩
      rw [← h7]
      congr 1
      obtain ⟨b, o, s⟩ := a
      simp only at hsp
      subst hsp
      unfold Addr.add
      (repeat' split) <;> simp <;> omega
    refine ⟨l, fun r hr => ?_, by omega, RDs.one ?_ rfl⟩
    · obtain ⟨i, hi⟩ := List.mem_ofFn.1 hr
      rw [← hi]; exact hf1 _ _
    · have hlm : len = (l.map encf).length := by simp [hll]
      rw [hlm]
      refine .sl a cap sz (l.map encf) (fun k => (w.cell? ⟨a.block, a.off + k, none⟩).getD default) (by omega) h0 (fun d hd => ?_) (fun hl => ⟨hspot ?_, fun hx => hx⟩) (fun k d hk => ?_) (fun k d hk => ?_)
      · obtain ⟨r, hr, rfl⟩ := List.mem_map.1 hd
        refine ⟨hc r, fun c hcm => ?_⟩
        obtain ⟨i, hi⟩ := List.mem_ofFn.1 hr
        obtain ⟨cs', _, h4⟩ := hf2 i.1 i.2
        rw [← hi] at hcm
        obtain ⟨j, hj, hjc⟩ := List.getElem_of_mem hcm
        have hlt : j < cs'.length := by rw [h4.1]; exact hj
        exact (h4.2 j _ c (List.getElem?_eq_getElem hlt) (by rw [List.getElem?_eq_getElem hj, hjc])).2
      · rcases Nat.eq_zero_or_pos len with e | e
        · exact absurd (List.length_eq_zero_iff.1 (by omega)) hl
        · exact e
      · obtain ⟨_, v, hv, _⟩ := hcell k d hk
        rw [hv]; rfl
      · obtain ⟨_, v, hv, h1, _⟩ := hcell k d hk
        rw [hv]; exact h1
theorem RDs.join {cs : List Value} {o n m : Nat} {a b : List D} (h : RDs w ((cs.drop o).take n) a) (k : RDs w (cs.drop m) b) (hm : o + n = m) : RDs w (cs.drop o) (a ++ b) := by
  subst hm
  have := RDs.append h k
  rwa [← List.drop_drop, List.take_append_drop] at this
theorem RDs.single {v : Value} {d : D} (h : RDs w [v] [d]) : RD w (fun _ => False) v d := (h.2 0 v d rfl rfl).1
theorem RDs.last {cs : List Value} {n : Nat} (h : cs.length = n) : RDs w (cs.drop n) [] := by
  rw [List.drop_of_length_le (by omega)]; exact .nil
theorem cellsOf_of {t n : Nat} (h : sizeT P t = some n) : P.cellsOf t = n := by
  unfold sizeT at h
  unfold Program.cellsOf
  rw [h]; rfl
theorem at_field {α : Type} {xs : List α} {n i : Nat} (h : xs.length = n) (hi : i < n) : ∃ y, xs[i]? = some y := ⟨xs[i]'(by omega), by simp⟩
end
theorem sem_calls {P : Program} {f : FuncId} {ds : List D} {vs : Array Value} {w : World} (h : Sem P f (ds.map .d) (.d (.b true))) (hn : vs.size = ds.length)
    (hr : ∀ (j : Nat) (v : Value) (d : D), vs[j]? = some v → ds[j]? = some d → RD w (fun _ => False) v d) :
    Calls P f vs w fun e w' => e = .returned (.bool true) ∧ Below w.heap.size w w' := by
  refine (h w vs (fun _ => False) [] (fun _ hf => hf.elim) (fun i j b hi => by simp at hi) (fun _ _ hf => hf) ⟨by simpa using hn, List.replicate ds.length [], by simp, by simp, fun j v o q hv ho hq => ?_⟩).mono fun e w' ⟨v, u, os', he, hret, hro, _, _, hfr⟩ => ?_
  · rw [List.getElem?_replicate] at hq
    split at hq
    · cases hq
      rw [List.getElem?_map, Option.map_eq_some_iff] at ho
      obtain ⟨d, hd, rfl⟩ := ho
      exact .d v d ((hr j v d hv hd).mono fun b hb => by
        rcases hb with hb | hb
        · exact hb
        · unfold Blk at hb; simp at hb)
    · cases hq
  · subst he
    have hb : ∀ (ds : List D) (vs : List Value), bxPtrs (ds.map O.d) vs = [] := fun ds => by
      induction ds with
      | nil => intro vs; cases vs <;> rfl
      | cons d ds ih => intro vs; cases vs with
        | nil => rfl
        | cons v vs => exact ih vs
    unfold Ret at hret
    rw [hb] at hret
    simp only at hret
    subst hret
    have hv : u = .bool true := by
      cases hro with
      | d _ _ h => cases h; rfl
    subst hv
    exact ⟨rfl, hfr.os, hfr.tape, hfr.output, hfr.ext.size, fun k hk => hfr.ext.same k hk (by unfold Blk; simp)⟩
end Go.Ev

namespace Go.Ev
open Go.ChangeShapes Go.WideShapes Go.ChangeAt Go.RowKit Go.Proofs
section
variable {H : Type} {enc : TypeId × Value → H} {P : Program} {w : World} {sp : Nat → Bool} {held : Bool}
theorem rdI {t : TypeId} {k : IntKind} (ht : P.underlying t = some (.int k)) {fuel : Nat} {cs : List Value} {x : DataW H × List MemPlace} (h : DataW.trod enc P w 0 sp held fuel t cs = some x) : ∃ n : Int, True ∧ RDs w cs [.i k n] :=
  let ⟨n, _, h⟩ := read_int ht h; ⟨n, trivial, h⟩
theorem rdB {t : TypeId} (ht : P.underlying t = some .bool) {fuel : Nat} {cs : List Value} {x : DataW H × List MemPlace} (h : DataW.trod enc P w 0 sp held fuel t cs = some x) : ∃ n : Bool, True ∧ RDs w cs [.b n] :=
  let ⟨n, h⟩ := read_bool ht h; ⟨n, trivial, h⟩
theorem rdS {t : TypeId} (ht : P.underlying t = some .string) {fuel : Nat} {cs : List Value} {x : DataW H × List MemPlace} (h : DataW.trod enc P w 0 sp held fuel t cs = some x) : ∃ n : ByteArray, True ∧ RDs w cs [.s n] :=
  let ⟨n, _, h⟩ := read_string ht h; ⟨n, trivial, h⟩
theorem rdL {t e : TypeId} {α : Type} {encf : α → D} {sz : Nat} (ht : P.underlying t = some (.slice e)) (hsz : P.cellsOf e = sz) (h0 : 0 < sz) (hc : ∀ r, (encf r).cells.length = sz)
    (he : ∀ (fuel : Nat) (cs : List Value) (x : DataW H × List MemPlace), DataW.trod enc P w 0 sp held fuel e cs = some x → ∃ r, True ∧ RDs w cs (encf r).cells)
    {fuel : Nat} {cs : List Value} {x : DataW H × List MemPlace} (h : DataW.trod enc P w 0 sp held fuel t cs = some x) : ∃ l : List α, True ∧ RDs w cs [.sl sz (l.map encf)] :=
  let ⟨l, _, _, h⟩ := read_slice (Ok := fun _ => True) ht hsz h0 hc he h; ⟨l, trivial, h⟩
theorem read_Change {fuel : Nat} {cs : List Value} {x : DataW H × List MemPlace} (h : DataW.trod enc Tryz.prog w 0 sp held fuel 48 cs = some x) : ∃ r : Change, True ∧ RDs w cs (encChange r).cells := by
  obtain ⟨xs, n, _, _, hl, hx, hf⟩ := DataW.trod_struct Tryz.underlying48 h
  rw [cellsOf_of Ty.sz48] at hl
  obtain ⟨y0, hy0⟩ := at_field hx (i := 0) (by decide)
  have f0 : DataW.trod enc Tryz.prog w 0 sp held n 9 ((cs.drop 0).take (Tryz.prog.cellsOf 9)) = xs[0]? := hf 0 _ rfl
  rw [cellsOf_of Ty.sz9, hy0] at f0
  obtain ⟨a0, _, d0⟩ := rdS Tryz.underlying9 f0
  obtain ⟨y1, hy1⟩ := at_field hx (i := 1) (by decide)
  have f1 : DataW.trod enc Tryz.prog w 0 sp held n 3 ((cs.drop 1).take (Tryz.prog.cellsOf 3)) = xs[1]? := hf 1 _ rfl
  rw [cellsOf_of Ty.sz3, hy1] at f1
  obtain ⟨a1, _, d1⟩ := rdI (k := .i64) Tryz.underlying3 f1
  obtain ⟨y2, hy2⟩ := at_field hx (i := 2) (by decide)
  have f2 : DataW.trod enc Tryz.prog w 0 sp held n 3 ((cs.drop 2).take (Tryz.prog.cellsOf 3)) = xs[2]? := hf 2 _ rfl
  rw [cellsOf_of Ty.sz3, hy2] at f2
  obtain ⟨a2, _, d2⟩ := rdI (k := .i64) Tryz.underlying3 f2
  obtain ⟨y3, hy3⟩ := at_field hx (i := 3) (by decide)
  have f3 : DataW.trod enc Tryz.prog w 0 sp held n 9 ((cs.drop 3).take (Tryz.prog.cellsOf 9)) = xs[3]? := hf 3 _ rfl
  rw [cellsOf_of Ty.sz9, hy3] at f3
  obtain ⟨a3, _, d3⟩ := rdS Tryz.underlying9 f3
  obtain ⟨y4, hy4⟩ := at_field hx (i := 4) (by decide)
  have f4 : DataW.trod enc Tryz.prog w 0 sp held n 9 ((cs.drop 4).take (Tryz.prog.cellsOf 9)) = xs[4]? := hf 4 _ rfl
  rw [cellsOf_of Ty.sz9, hy4] at f4
  obtain ⟨a4, _, d4⟩ := rdS Tryz.underlying9 f4
  exact ⟨⟨a0, a1, a2, a3, a4⟩, trivial, (RDs.join d0 (RDs.join d1 (RDs.join d2 (RDs.join d3 (RDs.join d4 (RDs.last hl) rfl) rfl) rfl) rfl) rfl)⟩
theorem read_Entry {fuel : Nat} {cs : List Value} {x : DataW H × List MemPlace} (h : DataW.trod enc Tryz.prog w 0 sp held fuel 50 cs = some x) : ∃ r : Entry, True ∧ RDs w cs (encEntry r).cells := by
  obtain ⟨xs, n, _, _, hl, hx, hf⟩ := DataW.trod_struct Tryz.underlying50 h
  rw [cellsOf_of Ty.sz50] at hl
  obtain ⟨y0, hy0⟩ := at_field hx (i := 0) (by decide)
  have f0 : DataW.trod enc Tryz.prog w 0 sp held n 3 ((cs.drop 0).take (Tryz.prog.cellsOf 3)) = xs[0]? := hf 0 _ rfl
  rw [cellsOf_of Ty.sz3, hy0] at f0
  obtain ⟨a0, _, d0⟩ := rdI (k := .i64) Tryz.underlying3 f0
  obtain ⟨y1, hy1⟩ := at_field hx (i := 1) (by decide)
  have f1 : DataW.trod enc Tryz.prog w 0 sp held n 3 ((cs.drop 1).take (Tryz.prog.cellsOf 3)) = xs[1]? := hf 1 _ rfl
  rw [cellsOf_of Ty.sz3, hy1] at f1
  obtain ⟨a1, _, d1⟩ := rdI (k := .i64) Tryz.underlying3 f1
  obtain ⟨y2, hy2⟩ := at_field hx (i := 2) (by decide)
  have f2 : DataW.trod enc Tryz.prog w 0 sp held n 3 ((cs.drop 2).take (Tryz.prog.cellsOf 3)) = xs[2]? := hf 2 _ rfl
  rw [cellsOf_of Ty.sz3, hy2] at f2
  obtain ⟨a2, _, d2⟩ := rdI (k := .i64) Tryz.underlying3 f2
  obtain ⟨y3, hy3⟩ := at_field hx (i := 3) (by decide)
  have f3 : DataW.trod enc Tryz.prog w 0 sp held n 48 ((cs.drop 3).take (Tryz.prog.cellsOf 48)) = xs[3]? := hf 3 _ rfl
  rw [cellsOf_of Ty.sz48, hy3] at f3
  obtain ⟨a3, _, d3⟩ := read_Change f3
  exact ⟨⟨a0, a1, a2, a3⟩, trivial, (RDs.join d0 (RDs.join d1 (RDs.join d2 (RDs.join d3 (RDs.last hl) rfl) rfl) rfl) rfl)⟩
theorem read_DType {fuel : Nat} {cs : List Value} {x : DataW H × List MemPlace} (h : DataW.trod enc Tryz.prog w 0 sp held fuel 108 cs = some x) : ∃ r : DType, True ∧ RDs w cs (encDType r).cells := by
  obtain ⟨xs, n, _, _, hl, hx, hf⟩ := DataW.trod_struct Tryz.underlying108 h
  rw [cellsOf_of Ty.sz108] at hl
  obtain ⟨y0, hy0⟩ := at_field hx (i := 0) (by decide)
  have f0 : DataW.trod enc Tryz.prog w 0 sp held n 3 ((cs.drop 0).take (Tryz.prog.cellsOf 3)) = xs[0]? := hf 0 _ rfl
  rw [cellsOf_of Ty.sz3, hy0] at f0
  obtain ⟨a0, _, d0⟩ := rdI (k := .i64) Tryz.underlying3 f0
  obtain ⟨y1, hy1⟩ := at_field hx (i := 1) (by decide)
  have f1 : DataW.trod enc Tryz.prog w 0 sp held n 3 ((cs.drop 1).take (Tryz.prog.cellsOf 3)) = xs[1]? := hf 1 _ rfl
  rw [cellsOf_of Ty.sz3, hy1] at f1
  obtain ⟨a1, _, d1⟩ := rdI (k := .i64) Tryz.underlying3 f1
  obtain ⟨y2, hy2⟩ := at_field hx (i := 2) (by decide)
  have f2 : DataW.trod enc Tryz.prog w 0 sp held n 3 ((cs.drop 2).take (Tryz.prog.cellsOf 3)) = xs[2]? := hf 2 _ rfl
  rw [cellsOf_of Ty.sz3, hy2] at f2
  obtain ⟨a2, _, d2⟩ := rdI (k := .i64) Tryz.underlying3 f2
  exact ⟨⟨a0, a1, a2⟩, trivial, (RDs.join d0 (RDs.join d1 (RDs.join d2 (RDs.last hl) rfl) rfl) rfl)⟩
theorem read_Field {fuel : Nat} {cs : List Value} {x : DataW H × List MemPlace} (h : DataW.trod enc Tryz.prog w 0 sp held fuel 110 cs = some x) : ∃ r : Field, True ∧ RDs w cs (encField r).cells := by
  obtain ⟨xs, n, _, _, hl, hx, hf⟩ := DataW.trod_struct Tryz.underlying110 h
  rw [cellsOf_of Ty.sz110] at hl
  obtain ⟨y0, hy0⟩ := at_field hx (i := 0) (by decide)
  have f0 : DataW.trod enc Tryz.prog w 0 sp held n 9 ((cs.drop 0).take (Tryz.prog.cellsOf 9)) = xs[0]? := hf 0 _ rfl
  rw [cellsOf_of Ty.sz9, hy0] at f0
  obtain ⟨a0, _, d0⟩ := rdS Tryz.underlying9 f0
  obtain ⟨y1, hy1⟩ := at_field hx (i := 1) (by decide)
  have f1 : DataW.trod enc Tryz.prog w 0 sp held n 108 ((cs.drop 1).take (Tryz.prog.cellsOf 108)) = xs[1]? := hf 1 _ rfl
  rw [cellsOf_of Ty.sz108, hy1] at f1
  obtain ⟨a1, _, d1⟩ := read_DType f1
  exact ⟨⟨a0, a1⟩, trivial, (RDs.join d0 (RDs.join d1 (RDs.last hl) rfl) rfl)⟩
theorem read_Fmt {fuel : Nat} {cs : List Value} {x : DataW H × List MemPlace} (h : DataW.trod enc Tryz.prog w 0 sp held fuel 74 cs = some x) : ∃ r : Fmt, True ∧ RDs w cs (encFmt r).cells := by
  obtain ⟨xs, n, _, _, hl, hx, hf⟩ := DataW.trod_struct Tryz.underlying74 h
  rw [cellsOf_of Ty.sz74] at hl
  obtain ⟨y0, hy0⟩ := at_field hx (i := 0) (by decide)
  have f0 : DataW.trod enc Tryz.prog w 0 sp held n 9 ((cs.drop 0).take (Tryz.prog.cellsOf 9)) = xs[0]? := hf 0 _ rfl
  rw [cellsOf_of Ty.sz9, hy0] at f0
  obtain ⟨a0, _, d0⟩ := rdS Tryz.underlying9 f0
  obtain ⟨y1, hy1⟩ := at_field hx (i := 1) (by decide)
  have f1 : DataW.trod enc Tryz.prog w 0 sp held n 72 ((cs.drop 1).take (Tryz.prog.cellsOf 72)) = xs[1]? := hf 1 _ rfl
  rw [cellsOf_of Ty.sz72, hy1] at f1
  obtain ⟨a1, _, d1⟩ := rdL (sz := 4) Tryz.underlying72 (cellsOf_of Ty.sz110) (by decide) (fun _ => rfl) (fun _ _ _ h => read_Field h) f1
  exact ⟨⟨a0, a1⟩, trivial, (RDs.join d0 (RDs.join d1 (RDs.last hl) rfl) rfl)⟩
theorem read_KField {fuel : Nat} {cs : List Value} {x : DataW H × List MemPlace} (h : DataW.trod enc Tryz.prog w 0 sp held fuel 113 cs = some x) : ∃ r : KField, True ∧ RDs w cs (encKField r).cells := by
  obtain ⟨xs, n, _, _, hl, hx, hf⟩ := DataW.trod_struct Tryz.underlying113 h
  rw [cellsOf_of Ty.sz113] at hl
  obtain ⟨y0, hy0⟩ := at_field hx (i := 0) (by decide)
  have f0 : DataW.trod enc Tryz.prog w 0 sp held n 9 ((cs.drop 0).take (Tryz.prog.cellsOf 9)) = xs[0]? := hf 0 _ rfl
  rw [cellsOf_of Ty.sz9, hy0] at f0
  obtain ⟨a0, _, d0⟩ := rdS Tryz.underlying9 f0
  obtain ⟨y1, hy1⟩ := at_field hx (i := 1) (by decide)
  have f1 : DataW.trod enc Tryz.prog w 0 sp held n 4 ((cs.drop 1).take (Tryz.prog.cellsOf 4)) = xs[1]? := hf 1 _ rfl
  rw [cellsOf_of Ty.sz4, hy1] at f1
  obtain ⟨a1, _, d1⟩ := rdB Tryz.underlying4 f1
  exact ⟨⟨a0, a1⟩, trivial, (RDs.join d0 (RDs.join d1 (RDs.last hl) rfl) rfl)⟩
theorem read_File {fuel : Nat} {cs : List Value} {x : DataW H × List MemPlace} (h : DataW.trod enc Tryz.prog w 0 sp held fuel 77 cs = some x) : ∃ r : File, True ∧ RDs w cs (encFile r).cells := by
  obtain ⟨xs, n, _, _, hl, hx, hf⟩ := DataW.trod_struct Tryz.underlying77 h
  rw [cellsOf_of Ty.sz77] at hl
  obtain ⟨y0, hy0⟩ := at_field hx (i := 0) (by decide)
  have f0 : DataW.trod enc Tryz.prog w 0 sp held n 9 ((cs.drop 0).take (Tryz.prog.cellsOf 9)) = xs[0]? := hf 0 _ rfl
  rw [cellsOf_of Ty.sz9, hy0] at f0
  obtain ⟨a0, _, d0⟩ := rdS Tryz.underlying9 f0
  obtain ⟨y1, hy1⟩ := at_field hx (i := 1) (by decide)
  have f1 : DataW.trod enc Tryz.prog w 0 sp held n 74 ((cs.drop 1).take (Tryz.prog.cellsOf 74)) = xs[1]? := hf 1 _ rfl
  rw [cellsOf_of Ty.sz74, hy1] at f1
  obtain ⟨a1, _, d1⟩ := read_Fmt f1
  obtain ⟨y2, hy2⟩ := at_field hx (i := 2) (by decide)
  have f2 : DataW.trod enc Tryz.prog w 0 sp held n 75 ((cs.drop 3).take (Tryz.prog.cellsOf 75)) = xs[2]? := hf 2 _ rfl
  rw [cellsOf_of Ty.sz75, hy2] at f2
  obtain ⟨a2, _, d2⟩ := rdL (sz := 2) Tryz.underlying75 (cellsOf_of Ty.sz113) (by decide) (fun _ => rfl) (fun _ _ _ h => read_KField h) f2
  obtain ⟨y3, hy3⟩ := at_field hx (i := 3) (by decide)
  have f3 : DataW.trod enc Tryz.prog w 0 sp held n 4 ((cs.drop 4).take (Tryz.prog.cellsOf 4)) = xs[3]? := hf 3 _ rfl
  rw [cellsOf_of Ty.sz4, hy3] at f3
  obtain ⟨a3, _, d3⟩ := rdB Tryz.underlying4 f3
  exact ⟨⟨a0, a1, a2, a3⟩, trivial, (RDs.join d0 (RDs.join d1 (RDs.join d2 (RDs.join d3 (RDs.last hl) rfl) rfl) rfl) rfl)⟩
theorem read_Rec {fuel : Nat} {cs : List Value} {x : DataW H × List MemPlace} (h : DataW.trod enc Tryz.prog w 0 sp held fuel 104 cs = some x) : ∃ r : Rec, True ∧ RDs w cs (encRec r).cells := by
  obtain ⟨xs, n, _, _, hl, hx, hf⟩ := DataW.trod_struct Tryz.underlying104 h
  rw [cellsOf_of Ty.sz104] at hl
  obtain ⟨y0, hy0⟩ := at_field hx (i := 0) (by decide)
  have f0 : DataW.trod enc Tryz.prog w 0 sp held n 4 ((cs.drop 0).take (Tryz.prog.cellsOf 4)) = xs[0]? := hf 0 _ rfl
  rw [cellsOf_of Ty.sz4, hy0] at f0
  obtain ⟨a0, _, d0⟩ := rdB Tryz.underlying4 f0
  obtain ⟨y1, hy1⟩ := at_field hx (i := 1) (by decide)
  have f1 : DataW.trod enc Tryz.prog w 0 sp held n 9 ((cs.drop 1).take (Tryz.prog.cellsOf 9)) = xs[1]? := hf 1 _ rfl
  rw [cellsOf_of Ty.sz9, hy1] at f1
  obtain ⟨a1, _, d1⟩ := rdS Tryz.underlying9 f1
  exact ⟨⟨a0, a1⟩, trivial, (RDs.join d0 (RDs.join d1 (RDs.last hl) rfl) rfl)⟩
theorem read_Table {fuel : Nat} {cs : List Value} {x : DataW H × List MemPlace} (h : DataW.trod enc Tryz.prog w 0 sp held fuel 80 cs = some x) : ∃ r : Table, True ∧ RDs w cs (encTable r).cells := by
  obtain ⟨xs, n, _, _, hl, hx, hf⟩ := DataW.trod_struct Tryz.underlying80 h
  rw [cellsOf_of Ty.sz80] at hl
  obtain ⟨y0, hy0⟩ := at_field hx (i := 0) (by decide)
  have f0 : DataW.trod enc Tryz.prog w 0 sp held n 77 ((cs.drop 0).take (Tryz.prog.cellsOf 77)) = xs[0]? := hf 0 _ rfl
  rw [cellsOf_of Ty.sz77, hy0] at f0
  obtain ⟨a0, _, d0⟩ := read_File f0
  obtain ⟨y1, hy1⟩ := at_field hx (i := 1) (by decide)
  have f1 : DataW.trod enc Tryz.prog w 0 sp held n 78 ((cs.drop 5).take (Tryz.prog.cellsOf 78)) = xs[1]? := hf 1 _ rfl
  rw [cellsOf_of Ty.sz78, hy1] at f1
  obtain ⟨a1, _, d1⟩ := rdL (sz := 2) Tryz.underlying78 (cellsOf_of Ty.sz104) (by decide) (fun _ => rfl) (fun _ _ _ h => read_Rec h) f1
  exact ⟨⟨a0, a1⟩, trivial, (RDs.join d0 (RDs.join d1 (RDs.last hl) rfl) rfl)⟩
end
end Go.Ev
