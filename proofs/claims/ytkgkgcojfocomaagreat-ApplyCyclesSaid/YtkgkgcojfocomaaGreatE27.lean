/- Tools and contracts under the laws of this seat: DyT, DevRead, DevReadT35z. -/
import Derived.Test.YtkgkgcojfocomaaGreatE11
import Derived.Test.YtkgkgcojfocomaaGreatE12
import Derived.Test.YtkgkgcojfocomaaGreatE13
import Derived.Test.YtkgkgcojfocomaaGreatE15
import Derived.Test.YtkgkgcojfocomaaGreatE16
import Derived.Test.YtkgkgcojfocomaaGreatE17
import Derived.Test.YtkgkgcojfocomaaGreatE18
import Derived.Test.YtkgkgcojfocomaaGreatE19
import Derived.Test.YtkgkgcojfocomaaGreatE20
import Derived.Test.YtkgkgcojfocomaaGreatE21
import Derived.Test.YtkgkgcojfocomaaGreatE22
import Derived.Test.YtkgkgcojfocomaaGreatE23
import Derived.Test.YtkgkgcojfocomaaGreatE24
import Derived.Test.YtkgkgcojfocomaaGreatE26
import Derived.Test.YtkgkgcojfocomaaGreatE02
import Derived.ProofKit
import Derived.ChangeArms
import Derived.Test.YtkgkgcojfocomaaGreatE03
import Derived.Test.YtkgkgcojfocomaaGreatE05
set_option linter.unusedVariables false
set_option linter.unusedSimpArgs false
namespace Go.Ev
open Go.Proofs Ty
set_option maxRecDepth 10000
set_option maxHeartbeats 4000000
theorem qbi7 : TabOk Tryz.prog q6l := TabOk.add (f := 41) (e := e41) ((TabOk.nil _)) ⟨_, Tryz.func41, rfl, rfl⟩ (fun args p r h hp => by
  unfold e41 at h; split at h
  · cases h; exact qbxq (q0s (TabOk.nil _) follows) _ _ _
  · cases h)
theorem qbb4 : TabOk Tryz.prog q00b := TabOk.add (f := 100) (e := e100) (qbi7) ⟨_, Tryz.func100, rfl, rfl⟩ (fun args p r h hp => by
  unfold e100 at h; split at h
  · cases h; exact qbr8 (q0s qbi7 follows) _ _ _
  · cases h)
theorem qbi8 : TabOk Tryz.prog q6m := TabOk.add (f := 76) (e := e76) (qbb4) ⟨_, Tryz.func76, rfl, rfl⟩ (fun args p r h hp => by
  unfold e76 at h; split at h
  · cases h; exact qbxr (q0s qbb4 follows) _
  · cases h)
theorem qbi9 : TabOk Tryz.prog q6n := TabOk.add (f := 81) (e := e81) (qbi8) ⟨_, Tryz.func81, rfl, rfl⟩ (fun args p r h hp => by
  unfold e81 at h; split at h
  · cases h; exact qbxs (q0s qbi8 follows) _
  · cases h)
theorem qbja : TabOk Tryz.prog q6o := TabOk.add (f := 82) (e := e82) (qbi9) ⟨_, Tryz.func82, rfl, rfl⟩ (fun args p r h hp => by
  unfold e82 at h; split at h
  · cases h; exact qbxt (q0s qbi9 follows) _
  · cases h)
theorem qbjb : TabOk Tryz.prog q6p := TabOk.add (f := 51) (e := e51) (qbja) ⟨_, Tryz.func51, rfl, rfl⟩ (fun args p r h hp => by
  unfold e51 at h; split at h
  · cases h; exact qbxu (q0s qbja follows) _
  · cases h)
theorem qbb5 : TabOk Tryz.prog q00c := TabOk.add (f := 101) (e := e101) (qbjb) ⟨_, Tryz.func101, rfl, rfl⟩ (fun args p r h hp => by
  unfold e101 at h; split at h
  · cases h; exact qbr9 (q0s qbjb follows) _
  · cases h)
theorem qbb6 : TabOk Tryz.prog q00d := TabOk.add (f := 128) (e := e128) (qbb5) ⟨_, Tryz.func128, rfl, rfl⟩ (fun args p r h hp => by
  unfold e128 at h; split at h
  · split at h
    · rename_i h_c; cases h; exact (qbsa (q0s qbb5 follows) _).le ⟨qe1 h_c, trivial⟩ (q0j _)
    · cases h
  · cases h)
theorem qbb7 : TabOk Tryz.prog q00e := TabOk.add (f := 127) (e := e127) (qbb6) ⟨_, Tryz.func127, rfl, rfl⟩ (fun args p r h hp => by
  unfold e127 at h; split at h
  · split at h
    · rename_i h_e; cases h; exact (qbsb (q0s qbb6 follows) _).le ⟨q03 h_e, trivial⟩ (q0j _)
    · cases h
  · cases h)
theorem qbb8 : TabOk Tryz.prog q00f := TabOk.add (f := 102) (e := e102) (qbb7) ⟨_, Tryz.func102, rfl, rfl⟩ (fun args p r h hp => by
  unfold e102 at h; split at h
  · split at h
    · rename_i h_e; cases h; exact (qbsc (q0s qbb7 follows) _).le ⟨q03 h_e, trivial⟩ (q0j _)
    · cases h
  · cases h)
theorem qbjc : TabOk Tryz.prog q6q := TabOk.add (f := 79) (e := e79) (qbb8) ⟨_, Tryz.func79, rfl, rfl⟩ (fun args p r h hp => by
  unfold e79 at h; split at h
  · split at h
    · rename_i h_e; cases h; exact (qbxv (q0s qbb8 follows) _).le ⟨q03 h_e, trivial⟩ (q0j _)
    · cases h
  · cases h)
theorem qbjd : TabOk Tryz.prog q6r := TabOk.add (f := 33) (e := e33) (qbjc) ⟨_, Tryz.func33, rfl, rfl⟩ (fun args p r h hp => by
  unfold e33 at h; split at h
  · split at h
    · rename_i h_l; cases h; exact (qbxw (q0s qbjc follows) _).le ⟨q0x q03 h_l, trivial⟩ (q0j _)
    · cases h
  · cases h)
theorem qbje : TabOk Tryz.prog q6s := TabOk.add (f := 86) (e := e86) (qbjd) ⟨_, Tryz.func86, rfl, rfl⟩ (fun args p r h hp => by
  unfold e86 at h; split at h
  · split at h
    · rename_i h_l; cases h; exact (qbxx (q0s qbjd follows) _ _ hp).le ⟨q0x q03 h_l, q02 _, trivial⟩ (q0j _)
    · cases h
  · cases h)
theorem qbjf : TabOk Tryz.prog q6t := TabOk.add (f := 87) (e := e87) (qbje) ⟨_, Tryz.func87, rfl, rfl⟩ (fun args p r h hp => by
  unfold e87 at h; split at h
  · split at h
    · rename_i h_l; cases h; exact (qbxy (q0s qbje follows) _ _ hp).le ⟨q0x q03 h_l, q02 _, trivial⟩ (q0j _)
    · cases h
  · cases h)
theorem qbjg : TabOk Tryz.prog q6u := TabOk.add (f := 57) (e := e57) (qbjf) ⟨_, Tryz.func57, rfl, rfl⟩ (fun args p r h hp => by
  unfold e57 at h; split at h
  · split at h
    · rename_i h_l; cases h; exact (qbxz (q0s qbjf follows) _ _ hp).le ⟨q0x q03 h_l, q02 _, trivial⟩ (q0j _)
    · cases h
  · cases h)
theorem qbb9 : TabOk Tryz.prog q00g := TabOk.add (f := 103) (e := e103) (qbjg) ⟨_, Tryz.func103, rfl, rfl⟩ (fun args p r h hp => by
  unfold e103 at h; split at h
  · split at h
    · rename_i h_l h_e; cases h; exact (qbsd (q0s qbjg follows) _ _ hp).le ⟨q0x q03 h_l, q03 h_e, trivial⟩ (q0j _)
    · cases h
  · cases h)
theorem qbjh : TabOk Tryz.prog q6v := TabOk.add (f := 80) (e := e80) (qbb9) ⟨_, Tryz.func80, rfl, rfl⟩ (fun args p r h hp => by
  unfold e80 at h; split at h
  · split at h
    · rename_i h_l; cases h; exact (qbx0 (q0s qbb9 follows) _ hp).le ⟨q0x q03 h_l, trivial⟩ (q0j _)
    · cases h
  · cases h)
theorem qbji : TabOk Tryz.prog q6w := TabOk.add (f := 50) (e := e50) (qbjh) ⟨_, Tryz.func50, rfl, rfl⟩ (fun args p r h hp => by
  unfold e50 at h; split at h
  · split at h
    · rename_i h_l; cases h; exact (qbx1 (q0s qbjh follows) _ hp).le ⟨q0x q03 h_l, trivial⟩ (q0j _)
    · cases h
  · cases h)
theorem qbjj : TabOk Tryz.prog q6x := TabOk.add (f := 61) (e := e61) (qbji) ⟨_, Tryz.func61, rfl, rfl⟩ (fun args p r h hp => by
  unfold e61 at h; split at h
  · split at h
    · rename_i h_l; cases h; exact (qbx2 (q0s qbji follows) _ hp).le ⟨q0x q03 h_l, trivial⟩ (q0j _)
    · cases h
  · cases h)
theorem qbjk : TabOk Tryz.prog q6y := TabOk.add (f := 46) (e := e46) (qbjj) ⟨_, Tryz.func46, rfl, rfl⟩ (fun args p r h hp => by
  unfold e46 at h; split at h
  · split at h
    · rename_i h_l; cases h; exact (qbx3 (q0s qbjj follows) _ hp).le ⟨q0x q03 h_l, trivial⟩ (q0j _)
    · cases h
  · cases h)
theorem qbjl : TabOk Tryz.prog q6z := TabOk.add (f := 12) (e := e12) (qbjk) ⟨_, Tryz.func12, rfl, rfl⟩ (fun args p r h hp => by
  unfold e12 at h; split at h
  · split at h
    · rename_i h_l; cases h; exact (qbx4 (q0s qbjk follows) _ hp).le ⟨q0x q03 h_l, trivial⟩ (q0j _)
    · cases h
  · cases h)
theorem qbjm : TabOk Tryz.prog q60 := TabOk.add (f := 28) (e := e28) (qbjl) ⟨_, Tryz.func28, rfl, rfl⟩ (fun args p r h hp => by
  unfold e28 at h; split at h
  · split at h
    · rename_i h_l; cases h; exact (qbx5 (q0s qbjl follows) _ hp).le ⟨q0x q03 h_l, trivial⟩ (q0j _)
    · cases h
  · cases h)
theorem qbjn : TabOk Tryz.prog q63 := TabOk.add (f := 30) (e := e30) (qbjm) ⟨_, Tryz.func30, rfl, rfl⟩ (fun args p r h hp => by
  unfold e30 at h; split at h
  · split at h
    · rename_i h_a h_b; cases h; exact (qbx6 (q0s qbjm follows) _ _ hp).le ⟨q0x qs3 h_a, q0x qs3 h_b, trivial⟩ (q0j _)
    · cases h
  · cases h)
theorem qbjo : TabOk Tryz.prog q64 := TabOk.add (f := 31) (e := e31) (qbjn) ⟨_, Tryz.func31, rfl, rfl⟩ (fun args p r h hp => by
  unfold e31 at h; split at h
  · split at h
    · rename_i h_a h_b; cases h; exact (qbx7 (q0s qbjn follows) _ _ hp).le ⟨q0x q4w h_a, q0x q4w h_b, trivial⟩ (q0j _)
    · cases h
  · cases h)
theorem qbjp : TabOk Tryz.prog q65 := TabOk.add (f := 47) (e := e47) (qbjo) ⟨_, Tryz.func47, rfl, rfl⟩ (fun args p r h hp => by
  unfold e47 at h; split at h
  · cases h; exact qbx8 (q0s qbjo follows) _
  · cases h)
theorem qbjq : TabOk Tryz.prog q66 := TabOk.add (f := 29) (e := e29) (qbjp) ⟨_, Tryz.func29, rfl, rfl⟩ (fun args p r h hp => by
  unfold e29 at h; split at h
  · split at h
    · rename_i h_l; cases h; exact (qbx9 (q0s qbjp follows) _ _ _ hp).le ⟨q0x q03 h_l, q02 _, q02 _, trivial⟩ (q0j _)
    · cases h
  · cases h)
theorem tok8 : TabOk Tryz.prog tab8 := TabOk.add (f := 8) (e := e8) (qbjq) ⟨_, Tryz.func8, rfl, rfl⟩ (fun args p r h hp => by
  unfold e8 at h; split at h
  · cases h; exact con8 (q0s qbjq follows) 
  · cases h)
theorem qbca : TabOk Tryz.prog q00i := TabOk.add (f := 185) (e := e185) (tok8) ⟨_, Tryz.func185, rfl, rfl⟩ (fun args p r h hp => by
  unfold e185 at h; split at h
  · cases h; exact qbsf (q0s tok8 follows) _ _ _
  · cases h)
theorem qbcb : TabOk Tryz.prog q00j := TabOk.add (f := 187) (e := e187) (qbca) ⟨_, Tryz.func187, rfl, rfl⟩ (fun args p r h hp => by
  unfold e187 at h; split at h
  · cases h; exact qbsg (q0s qbca follows) _ _
  · cases h)
theorem qbcc : TabOk Tryz.prog q00k := TabOk.add (f := 186) (e := e186) (qbcb) ⟨_, Tryz.func186, rfl, rfl⟩ (fun args p r h hp => by
  unfold e186 at h; split at h
  · split at h
    · rename_i h_l; cases h; exact (qbsh (q0s qbcb follows) _ hp).le ⟨q0x qg0 h_l, trivial⟩ (q0j _)
    · cases h
  · cases h)
theorem qbcd : TabOk Tryz.prog q00l := TabOk.add (f := 119) (e := e119) (qbcc) ⟨_, Tryz.func119, rfl, rfl⟩ (fun args p r h hp => by
  unfold e119 at h; split at h
  · cases h; exact qbsi (q0s qbcc follows) _ _
  · cases h)
theorem qbce : TabOk Tryz.prog q00m := TabOk.add (f := 117) (e := e117) (qbcd) ⟨_, Tryz.func117, rfl, rfl⟩ (fun args p r h hp => by
  unfold e117 at h; split at h
  · split at h
    · rename_i h_l; cases h; exact (qbsj (q0s qbcd follows) _ hp).le ⟨q0x qg0 h_l, trivial⟩ (q0j _)
    · cases h
  · cases h)
theorem qbcf : TabOk Tryz.prog q00n := TabOk.add (f := 152) (e := e152) (qbce) ⟨_, Tryz.func152, rfl, rfl⟩ (fun args p r h hp => by
  unfold e152 at h; split at h
  · cases h; exact qbsk (q0s qbce follows) _
  · cases h)
theorem qbcg : TabOk Tryz.prog q00o := TabOk.add (f := 172) (e := e172) (qbcf) ⟨_, Tryz.func172, rfl, rfl⟩ (fun args p r h hp => by
  unfold e172 at h; split at h
  · split at h
    · rename_i h_t; cases h; exact (qbsl (q0s qbcf follows) _).le ⟨qfg h_t, trivial⟩ (q0j _)
    · cases h
  · cases h)
theorem qbch : TabOk Tryz.prog q00p := TabOk.add (f := 188) (e := e188) (qbcg) ⟨_, Tryz.func188, rfl, rfl⟩ (fun args p r h hp => by
  unfold e188 at h; split at h
  · split at h
    · rename_i h_t; cases h; exact (qbsm (q0s qbcg follows) _ hp).le ⟨qfg h_t, trivial⟩ (q0j _)
    · cases h
  · cases h)
theorem qbci : TabOk Tryz.prog q00q := TabOk.add (f := 173) (e := e173) (qbch) ⟨_, Tryz.func173, rfl, rfl⟩ (fun args p r h hp => by
  unfold e173 at h; split at h
  · split at h
    · rename_i h_t; cases h; exact (qbsn (q0s qbch follows) _).le ⟨qfg h_t, trivial⟩ (q0j _)
    · cases h
  · cases h)
theorem qbcj : TabOk Tryz.prog q00r := TabOk.add (f := 197) (e := e197) (qbci) ⟨_, Tryz.func197, rfl, rfl⟩ (fun args p r h hp => by
  unfold e197 at h; split at h
  · cases h; exact qbso (q0s qbci follows) _
  · cases h)
theorem qbck : TabOk Tryz.prog q00s := TabOk.add (f := 190) (e := e190) (qbcj) ⟨_, Tryz.func190, rfl, rfl⟩ (fun args p r h hp => by
  unfold e190 at h; split at h
  · split at h
    · rename_i h_t h_v; cases h; exact (qbsp (q0s qbcj follows) _ _).le ⟨qfg h_t, qbav h_v, trivial⟩ (q0j _)
    · cases h
  · cases h)
theorem qbcl : TabOk Tryz.prog q00t := TabOk.add (f := 189) (e := e189) (qbck) ⟨_, Tryz.func189, rfl, rfl⟩ (fun args p r h hp => by
  unfold e189 at h; split at h
  · cases h; exact qbsq (q0s qbck follows) _ hp
  · cases h)
theorem qbcm : TabOk Tryz.prog q00u := TabOk.add (f := 198) (e := e198) (qbcl) ⟨_, Tryz.func198, rfl, rfl⟩ (fun args p r h hp => by
  unfold e198 at h; split at h
  · split at h
    · rename_i h_t; cases h; exact (qbsr (q0s qbcl follows) _ _ hp).le ⟨qfg h_t, q02 _, trivial⟩ (q0j _)
    · cases h
  · cases h)
theorem qbcn : TabOk Tryz.prog q00v := TabOk.add (f := 191) (e := e191) (qbcm) ⟨_, Tryz.func191, rfl, rfl⟩ (fun args p r h hp => by
  unfold e191 at h; split at h
  · split at h
    · rename_i h_t; cases h; exact (qbss (q0s qbcm follows) _ _ hp).le ⟨qfg h_t, q02 _, trivial⟩ (q0j _)
    · cases h
  · cases h)
theorem qbco : TabOk Tryz.prog q00w := TabOk.add (f := 174) (e := e174) (qbcn) ⟨_, Tryz.func174, rfl, rfl⟩ (fun args p r h hp => by
  unfold e174 at h; split at h
  · split at h
    · rename_i h_t; cases h; exact (qbst (q0s qbcn follows) _ _).le ⟨qfg h_t, q02 _, trivial⟩ (q0j _)
    · cases h
  · cases h)
theorem qbcp : TabOk Tryz.prog q000 := TabOk.add (f := 163) (e := e163) (qbco) ⟨_, Tryz.func163, rfl, rfl⟩ (fun args p r h hp => by
  unfold e163 at h; split at h
  · split at h
    · rename_i h_x; cases h; exact (qbsu (q0s qbco follows) _).le ⟨qkc h_x, trivial⟩ (q0j _)
    · cases h
  · cases h)
theorem qbcq : TabOk Tryz.prog q001 := TabOk.add (f := 154) (e := e154) (qbcp) ⟨_, Tryz.func154, rfl, rfl⟩ (fun args p r h hp => by
  unfold e154 at h; split at h
  · split at h
    · rename_i h_f; cases h; exact (qbsv (q0s qbcp follows) _ _ hp).le ⟨qdx h_f, q02 _, trivial⟩ (q0j _)
    · cases h
  · cases h)
theorem qbcr : TabOk Tryz.prog q002 := TabOk.add (f := 164) (e := e164) (qbcq) ⟨_, Tryz.func164, rfl, rfl⟩ (fun args p r h hp => by
  unfold e164 at h; split at h
  · split at h
    · rename_i h_f; cases h; exact (qbsw (q0s qbcq follows) _ hp).le ⟨qdx h_f, trivial⟩ (q0j _)
    · cases h
  · cases h)
theorem qbcs : TabOk Tryz.prog q003 := TabOk.add (f := 162) (e := e162) (qbcr) ⟨_, Tryz.func162, rfl, rfl⟩ (fun args p r h hp => by
  unfold e162 at h; split at h
  · split at h
    · rename_i h_f; cases h; exact (qbsx (q0s qbcr follows) _ hp).le ⟨qdx h_f, trivial⟩ (q0j _)
    · cases h
  · cases h)
theorem qbct : TabOk Tryz.prog q004 := TabOk.add (f := 153) (e := e153) (qbcs) ⟨_, Tryz.func153, rfl, rfl⟩ (fun args p r h hp => by
  unfold e153 at h; split at h
  · split at h
    · rename_i h_f; cases h; exact (qbsy (q0s qbcs follows) _ hp).le ⟨qdx h_f, trivial⟩ (q0j _)
    · cases h
  · cases h)
theorem qbcu : TabOk Tryz.prog q005 := TabOk.add (f := 136) (e := e136) (qbct) ⟨_, Tryz.func136, rfl, rfl⟩ (fun args p r h hp => by
  unfold e136 at h; split at h
  · split at h
    · rename_i h_f; cases h; exact (qbsz (q0s qbct follows) _ hp).le ⟨qhc h_f, trivial⟩ (q0j _)
    · cases h
  · cases h)
theorem qbcv : TabOk Tryz.prog q006 := TabOk.add (f := 118) (e := e118) (qbcu) ⟨_, Tryz.func118, rfl, rfl⟩ (fun args p r h hp => by
  unfold e118 at h; split at h
  · split at h
    · rename_i h_f; cases h; exact (qbs0 (q0s qbcu follows) _ hp).le ⟨qhc h_f, trivial⟩ (q0j _)
    · cases h
  · cases h)
theorem qbcw : TabOk Tryz.prog q007 := TabOk.add (f := 165) (e := e165) (qbcv) ⟨_, Tryz.func165, rfl, rfl⟩ (fun args p r h hp => by
  unfold e165 at h; split at h
  · split at h
    · rename_i h_f; cases h; exact (qbs1 (q0s qbcv follows) _ _ hp).le ⟨qdx h_f, q02 _, trivial⟩ (q0j _)
    · cases h
  · cases h)
theorem qbcx : TabOk Tryz.prog q008 := TabOk.add (f := 155) (e := e155) (qbcw) ⟨_, Tryz.func155, rfl, rfl⟩ (fun args p r h hp => by
  unfold e155 at h; split at h
  · split at h
    · rename_i h_f; cases h; exact (qbs2 (q0s qbcw follows) _ _ hp).le ⟨qdx h_f, q02 _, trivial⟩ (q0j _)
    · cases h
  · cases h)
theorem qbcy : TabOk Tryz.prog q009 := TabOk.add (f := 137) (e := e137) (qbcx) ⟨_, Tryz.func137, rfl, rfl⟩ (fun args p r h hp => by
  unfold e137 at h; split at h
  · split at h
    · rename_i h_f; cases h; exact (qbs3 (q0s qbcx follows) _ _ hp).le ⟨qdx h_f, q02 _, trivial⟩ (q0j _)
    · cases h
  · cases h)
theorem qbcz : TabOk Tryz.prog q1a := TabOk.add (f := 120) (e := e120) (qbcy) ⟨_, Tryz.func120, rfl, rfl⟩ (fun args p r h hp => by
  unfold e120 at h; split at h
  · split at h
    · rename_i h_f; cases h; exact (qbs4 (q0s qbcy follows) _ _ hp).le ⟨qdx h_f, q02 _, trivial⟩ (q0j _)
    · cases h
  · cases h)
theorem qbjr : TabOk Tryz.prog q7e := TabOk.add (f := 90) (e := e90) (qbcz) ⟨_, Tryz.func90, rfl, rfl⟩ (fun args p r h hp => by
  unfold e90 at h; split at h
  · split at h
    · rename_i h_t; cases h; exact (qbya (q0s qbcz follows) _ hp).le ⟨q01 h_t, trivial⟩ (q0j _)
    · cases h
  · cases h)
theorem qbc0 : TabOk Tryz.prog q1b := TabOk.add (f := 121) (e := e121) (qbjr) ⟨_, Tryz.func121, rfl, rfl⟩ (fun args p r h hp => by
  unfold e121 at h; split at h
  · split at h
    · rename_i h_t; cases h; exact (qbs5 (q0s qbjr follows) _ hp).le ⟨q01 h_t, trivial⟩ (q0j _)
    · cases h
  · cases h)
theorem qbjs : TabOk Tryz.prog q7f := TabOk.add (f := 66) (e := e66) (qbc0) ⟨_, Tryz.func66, rfl, rfl⟩ (fun args p r h hp => by
  unfold e66 at h; split at h
  · split at h
    · rename_i h_l; cases h; exact (qbyb (q0s qbc0 follows) _ hp).le ⟨q0x qkc h_l, trivial⟩ (q0j _)
    · cases h
  · cases h)
theorem qbjt : TabOk Tryz.prog q7g := TabOk.add (f := 67) (e := e67) (qbjs) ⟨_, Tryz.func67, rfl, rfl⟩ (fun args p r h hp => by
  unfold e67 at h; split at h
  · split at h
    · rename_i h_l; cases h; exact (qbyc (q0s qbjs follows) _ hp).le ⟨q0x qny h_l, trivial⟩ (q0j _)
    · cases h
  · cases h)
theorem qbju : TabOk Tryz.prog q7h := TabOk.add (f := 68) (e := e68) (qbjt) ⟨_, Tryz.func68, rfl, rfl⟩ (fun args p r h hp => by
  unfold e68 at h; split at h
  · split at h
    · rename_i h_l; cases h; exact (qbyd (q0s qbjt follows) _ hp).le ⟨q0x qk3 h_l, trivial⟩ (q0j _)
    · cases h
  · cases h)
theorem qbc1 : TabOk Tryz.prog q1e := TabOk.add (f := 122) (e := e122) (qbju) ⟨_, Tryz.func122, rfl, rfl⟩ (fun args p r h hp => by
  unfold e122 at h; split at h
  · split at h
    · rename_i h_t h_c; cases h; exact (qbs6 (q0s qbju follows) _ _ hp).le ⟨q01 h_t, qe1 h_c, trivial⟩ (q0j _)
    · cases h
  · cases h)
theorem qbjv : TabOk Tryz.prog q7i := TabOk.add (f := 93) (e := e93) (qbc1) ⟨_, Tryz.func93, rfl, rfl⟩ (fun args p r h hp => by
  unfold e93 at h; split at h
  · split at h
    · rename_i h_t h_c; cases h; exact (qbye (q0s qbc1 follows) _ _ hp).le ⟨q01 h_t, qe1 h_c, trivial⟩ (q0j _)
    · cases h
  · cases h)
theorem qbjw : TabOk Tryz.prog q7j := TabOk.add (f := 94) (e := e94) (qbjv) ⟨_, Tryz.func94, rfl, rfl⟩ (fun args p r h hp => by
  unfold e94 at h; split at h
  · split at h
    · rename_i h_t h_r; cases h; exact (qbyf (q0s qbjv follows) _ _ _ hp).le ⟨q01 h_t, q02 _, qk3 h_r, trivial⟩ (q0j _)
    · cases h
  · cases h)
theorem qbjx : TabOk Tryz.prog q7k := TabOk.add (f := 70) (e := e70) (qbjw) ⟨_, Tryz.func70, rfl, rfl⟩ (fun args p r h hp => by
  unfold e70 at h; split at h
  · split at h
    · rename_i h_t h_c; cases h; exact (qbyg (q0s qbjw follows) _ _ hp).le ⟨q01 h_t, qe1 h_c, trivial⟩ (q0j _)
    · cases h
  · cases h)
theorem qbjy : TabOk Tryz.prog q7l := TabOk.add (f := 71) (e := e71) (qbjx) ⟨_, Tryz.func71, rfl, rfl⟩ (fun args p r h hp => by
  unfold e71 at h; split at h
  · split at h
    · rename_i h_c; cases h; exact (qbyh (q0s qbjx follows) _).le ⟨qe1 h_c, trivial⟩ (q0j _)
    · cases h
  · cases h)
theorem qbjz : TabOk Tryz.prog q7p := TabOk.add (f := 92) (e := e92) (qbjy) ⟨_, Tryz.func92, rfl, rfl⟩ (fun args p r h hp => by
  unfold e92 at h; split at h
  · split at h
    · rename_i h_t; cases h; exact (qbyi (q0s qbjy follows) _ _).le ⟨q01 h_t, q02 _, trivial⟩ (q0j _)
    · cases h
  · cases h)
theorem qbj0 : TabOk Tryz.prog q7q := TabOk.add (f := 91) (e := e91) (qbjz) ⟨_, Tryz.func91, rfl, rfl⟩ (fun args p r h hp => by
  unfold e91 at h; split at h
  · split at h
    · rename_i h_l; cases h; exact (qbyj (q0s qbjz follows) _ _ hp).le ⟨q0x q01 h_l, q02 _, trivial⟩ (q0j _)
    · cases h
  · cases h)
theorem qbj1 : TabOk Tryz.prog q7r := TabOk.add (f := 69) (e := e69) (qbj0) ⟨_, Tryz.func69, rfl, rfl⟩ (fun args p r h hp => by
  unfold e69 at h; split at h
  · split at h
    · rename_i h_l; cases h; exact (qbyk (q0s qbj0 follows) _ _ hp).le ⟨q0x q01 h_l, q02 _, trivial⟩ (q0j _)
    · cases h
  · cases h)
theorem qbj2 : TabOk Tryz.prog q7s := TabOk.add (f := 65) (e := e65) (qbj1) ⟨_, Tryz.func65, rfl, rfl⟩ (fun args p r h hp => by
  unfold e65 at h; split at h
  · split at h
    · rename_i h_l; cases h; exact (qbyl (q0s qbj1 follows) _ hp).le ⟨q0x q01 h_l, trivial⟩ (q0j _)
    · cases h
  · cases h)
theorem qbj3 : TabOk Tryz.prog q7t := TabOk.add (f := 37) (e := e37) (qbj2) ⟨_, Tryz.func37, rfl, rfl⟩ (fun args p r h hp => by
  unfold e37 at h; split at h
  · split at h
    · rename_i h_x; cases h; exact (qbym (q0s qbj2 follows) _ _).le ⟨q03 h_x, q02 _, trivial⟩ (q0j _)
    · cases h
  · cases h)
theorem qbj4 : TabOk Tryz.prog q7u := TabOk.add (f := 44) (e := e44) (qbj3) ⟨_, Tryz.func44, rfl, rfl⟩ (fun args p r h hp => by
  unfold e44 at h; split at h
  · split at h
    · rename_i h_x; cases h; exact (qbyn (q0s qbj3 follows) _ _).le ⟨q03 h_x, q02 _, trivial⟩ (q0j _)
    · cases h
  · cases h)
theorem qbj5 : TabOk Tryz.prog q7v := TabOk.add (f := 34) (e := e34) (qbj4) ⟨_, Tryz.func34, rfl, rfl⟩ (fun args p r h hp => by
  unfold e34 at h; split at h
  · split at h
    · rename_i h_ts h_l; cases h; exact (qbyo (q0s qbj4 follows) _ _ hp).le ⟨q0x q01 h_ts, q0x q03 h_l, trivial⟩ (q0j _)
    · cases h
  · cases h)
theorem qbj6 : TabOk Tryz.prog q7x := TabOk.add (f := 36) (e := e36) (qbj5) ⟨_, Tryz.func36, rfl, rfl⟩ (fun args p r h hp => by
  unfold e36 at h; split at h
  · split at h
    · rename_i h_l h_w; cases h; exact (qbyq (q0s qbj5 follows) _ _ _ hp).le ⟨q0x q03 h_l, q02 _, q7o h_w, trivial⟩ (q0j _)
    · cases h
  · cases h)
theorem qbj7 : TabOk Tryz.prog q7y := TabOk.add (f := 35) (e := e35) (qbj6) ⟨_, Tryz.func35, rfl, rfl⟩ (fun args p r h hp => by
  unfold e35 at h; split at h
  · split at h
    · rename_i h_ts h_cs; cases h; exact (qbyr (q0s qbj6 follows) _ _ hp).le ⟨q0x q01 h_ts, q0x qe1 h_cs, trivial⟩ (q0j _)
    · cases h
  · cases h)
theorem qbj8 : TabOk Tryz.prog q7z := TabOk.add (f := 10) (e := e10) (qbj7) ⟨_, Tryz.func10, rfl, rfl⟩ (fun args p r h hp => by
  unfold e10 at h; split at h
  · split at h
    · rename_i h_ts h_l; cases h; exact (qbys (q0s qbj7 follows) _ _ _ hp).le ⟨q0x q01 h_ts, q0x q03 h_l, q02 _, trivial⟩ (q0j _)
    · cases h
  · cases h)
theorem qbj9 : TabOk Tryz.prog q70 := TabOk.add (f := 15) (e := e15) (qbj8) ⟨_, Tryz.func15, rfl, rfl⟩ (fun args p r h hp => by
  unfold e15 at h; split at h
  · split at h
    · rename_i h_ts h_l; cases h; exact (qbyt (q0s qbj8 follows) _ _ _ hp).le ⟨q0x q01 h_ts, q0x q03 h_l, q02 _, trivial⟩ (q0j _)
    · cases h
  · cases h)
theorem qbka : TabOk Tryz.prog q71 := TabOk.add (f := 95) (e := e95) (qbj9) ⟨_, Tryz.func95, rfl, rfl⟩ (fun args p r h hp => by
  unfold e95 at h; split at h
  · split at h
    · rename_i h_f; cases h; exact (qbyu (q0s qbj9 follows) _ hp).le ⟨qdx h_f, trivial⟩ (q0j _)
    · cases h
  · cases h)
theorem qbkb : TabOk Tryz.prog q72 := TabOk.add (f := 73) (e := e73) (qbka) ⟨_, Tryz.func73, rfl, rfl⟩ (fun args p r h hp => by
  unfold e73 at h; split at h
  · split at h
    · rename_i h_f; cases h; exact (qbyv (q0s qbka follows) _ hp).le ⟨qhc h_f, trivial⟩ (q0j _)
    · cases h
  · cases h)
theorem qbkc : TabOk Tryz.prog q73 := TabOk.add (f := 38) (e := e38) (qbkb) ⟨_, Tryz.func38, rfl, rfl⟩ (fun args p r h hp => by
  unfold e38 at h; split at h
  · split at h
    · rename_i h_t; cases h; exact (qbyw (q0s qbkb follows) _ hp).le ⟨q01 h_t, trivial⟩ (q0j _)
    · cases h
  · cases h)
theorem qbkd : TabOk Tryz.prog q74 := TabOk.add (f := 11) (e := e11) (qbkc) ⟨_, Tryz.func11, rfl, rfl⟩ (fun args p r h hp => by
  unfold e11 at h; split at h
  · split at h
    · rename_i h_ts; cases h; exact (qbyx (q0s qbkc follows) _ hp).le ⟨q0x q01 h_ts, trivial⟩ (q0j _)
    · cases h
  · cases h)
theorem qbke : TabOk Tryz.prog q75 := TabOk.add (f := 99) (e := e99) (qbkd) ⟨_, Tryz.func99, rfl, rfl⟩ (fun args p r h hp => by
  unfold e99 at h; split at h
  · split at h
    · rename_i h_a h_b; cases h; exact (qbyy (q0s qbkd follows) _ _ hp).le ⟨q0x qk3 h_a, q0x qk3 h_b, trivial⟩ (q0j _)
    · cases h
  · cases h)
theorem qbc2 : TabOk Tryz.prog q1k := TabOk.add (f := 126) (e := e126) (qbke) ⟨_, Tryz.func126, rfl, rfl⟩ (fun args p r h hp => by
  unfold e126 at h; split at h
  · split at h
    · rename_i h_a h_b; cases h; exact (qbs7 (q0s qbke follows) _ _ hp).le ⟨qdx h_a, qdx h_b, trivial⟩ (q0j _)
    · cases h
  · cases h)
theorem qbkf : TabOk Tryz.prog q76 := TabOk.add (f := 98) (e := e98) (qbc2) ⟨_, Tryz.func98, rfl, rfl⟩ (fun args p r h hp => by
  unfold e98 at h; split at h
  · split at h
    · rename_i h_a h_b; cases h; exact (qbyz (q0s qbc2 follows) _ _ hp).le ⟨qhc h_a, qhc h_b, trivial⟩ (q0j _)
    · cases h
  · cases h)
theorem qbkg : TabOk Tryz.prog q77 := TabOk.add (f := 78) (e := e78) (qbkf) ⟨_, Tryz.func78, rfl, rfl⟩ (fun args p r h hp => by
  unfold e78 at h; split at h
  · split at h
    · rename_i h_a h_b; cases h; exact (qby0 (q0s qbkf follows) _ _ hp).le ⟨q01 h_a, q01 h_b, trivial⟩ (q0j _)
    · cases h
  · cases h)
theorem qbkh : TabOk Tryz.prog q78 := TabOk.add (f := 64) (e := e64) (qbkg) ⟨_, Tryz.func64, rfl, rfl⟩ (fun args p r h hp => by
  unfold e64 at h; split at h
  · split at h
    · rename_i h_f; cases h; exact (qby1 (q0s qbkg follows) _).le ⟨qdx h_f, trivial⟩ (q0j _)
    · cases h
  · cases h)
theorem qbki : TabOk Tryz.prog q8a := TabOk.add (f := 43) (e := e43) (qbkh) ⟨_, Tryz.func43, rfl, rfl⟩ (fun args p r h hp => by
  unfold e43 at h; split at h
  · split at h
    · rename_i h_a h_b; cases h; exact (qby2 (q0s qbkh follows) _ _ hp).le ⟨q0x q01 h_a, q0x q01 h_b, trivial⟩ (q0j _)
    · cases h
  · cases h)
theorem qbkj : TabOk Tryz.prog q8b := TabOk.add (f := 32) (e := e32) (qbki) ⟨_, Tryz.func32, rfl, rfl⟩ (fun args p r h hp => by
  unfold e32 at h; split at h
  · split at h
    · rename_i h_l; cases h; exact (qby3 (q0s qbki follows) _).le ⟨q0x q01 h_l, trivial⟩ (q0j _)
    · cases h
  · cases h)
theorem tok9 : TabOk Tryz.prog tab9 := TabOk.add (f := 9) (e := e9) (qbkj) ⟨_, Tryz.func9, rfl, rfl⟩ (fun args p r h hp => by
  unfold e9 at h; split at h
  · split at h
    · rename_i h_ts h_l; cases h; exact (con9 (q0s qbkj follows) _ _).le ⟨q0x q01 h_ts, q0x q03 h_l, trivial⟩ (q0j _)
    · cases h
  · cases h)
theorem qbkk : TabOk Tryz.prog q8e := TabOk.add (f := 60) (e := e60) (tok9) ⟨_, Tryz.func60, rfl, rfl⟩ (fun args p r h hp => by
  unfold e60 at h; split at h
  · split at h
    · rename_i h_l; cases h; exact (qby4 (q0s tok9 follows) _ hp).le ⟨q0x q01 h_l, trivial⟩ (q0j _)
    · cases h
  · cases h)
theorem qbkl : TabOk Tryz.prog q8f := TabOk.add (f := 27) (e := e27) (qbkk) ⟨_, Tryz.func27, rfl, rfl⟩ (fun args p r h hp => by
  unfold e27 at h; split at h
  · split at h
    · rename_i h_a h_b; cases h; exact (qby5 (q0s qbkk follows) _ _ hp).le ⟨q0x q01 h_a, q0x q01 h_b, trivial⟩ (q0j _)
    · cases h
  · cases h)
theorem qbc3 : TabOk Tryz.prog q1v := TabOk.add (f := 179) (e := e179) (qbkl) ⟨_, Tryz.func179, rfl, rfl⟩ (fun args p r h hp => by
  unfold e179 at h; split at h
  · split at h
    · rename_i h_t; cases h; exact (qbs9 (q0s qbkl follows) _ hp).le ⟨qfg h_t, trivial⟩ (q0j _)
    · cases h
  · cases h)
theorem qbc4 : TabOk Tryz.prog q1w := TabOk.add (f := 180) (e := e180) (qbc3) ⟨_, Tryz.func180, rfl, rfl⟩ (fun args p r h hp => by
  unfold e180 at h; split at h
  · cases h; exact qbta (q0s qbc3 follows) _ _ _ hp
  · cases h)
theorem qbc5 : TabOk Tryz.prog q1x := TabOk.add (f := 195) (e := e195) (qbc4) ⟨_, Tryz.func195, rfl, rfl⟩ (fun args p r h hp => by
  unfold e195 at h; split at h
  · cases h; exact qbtb (q0s qbc4 follows) _ hp
  · cases h)
theorem qbc6 : TabOk Tryz.prog q1y := TabOk.add (f := 194) (e := e194) (qbc5) ⟨_, Tryz.func194, rfl, rfl⟩ (fun args p r h hp => by
  unfold e194 at h; split at h
  · cases h; exact qbtc (q0s qbc5 follows) _
  · cases h)
theorem qbc7 : TabOk Tryz.prog q1z := TabOk.add (f := 196) (e := e196) (qbc6) ⟨_, Tryz.func196, rfl, rfl⟩ (fun args p r h hp => by
  unfold e196 at h; split at h
  · cases h; exact qbtd (q0s qbc6 follows) _ _
  · cases h)
theorem qbc8 : TabOk Tryz.prog q10 := TabOk.add (f := 178) (e := e178) (qbc7) ⟨_, Tryz.func178, rfl, rfl⟩ (fun args p r h hp => by
  unfold e178 at h; split at h
  · split at h
    · rename_i h_t; cases h; exact (qbte (q0s qbc7 follows) _).le ⟨qfg h_t, trivial⟩ (q0j _)
    · cases h
  · cases h)
theorem qbc9 : TabOk Tryz.prog q11 := TabOk.add (f := 181) (e := e181) (qbc8) ⟨_, Tryz.func181, rfl, rfl⟩ (fun args p r h hp => by
  unfold e181 at h; split at h
  · split at h
    · rename_i h_t; cases h; exact (qbtf (q0s qbc8 follows) _ hp).le ⟨qfg h_t, trivial⟩ (q0j _)
    · cases h
  · cases h)
theorem qbda : TabOk Tryz.prog q12 := TabOk.add (f := 182) (e := e182) (qbc9) ⟨_, Tryz.func182, rfl, rfl⟩ (fun args p r h hp => by
  unfold e182 at h; split at h
  · cases h; exact qbtg (q0s qbc9 follows) _ hp
  · cases h)
theorem qbdb : TabOk Tryz.prog q13 := TabOk.add (f := 183) (e := e183) (qbda) ⟨_, Tryz.func183, rfl, rfl⟩ (fun args p r h hp => by
  unfold e183 at h; split at h
  · split at h
    · rename_i h_t; cases h; exact (qbth (q0s qbda follows) _ _ hp).le ⟨qfg h_t, q02 _, trivial⟩ (q0j _)
    · cases h
  · cases h)
theorem qbdc : TabOk Tryz.prog q14 := TabOk.add (f := 169) (e := e169) (qbdb) ⟨_, Tryz.func169, rfl, rfl⟩ (fun args p r h hp => by
  unfold e169 at h; split at h
  · split at h
    · rename_i h_t; cases h; exact (qbti (q0s qbdb follows) _ _).le ⟨qfg h_t, q02 _, trivial⟩ (q0j _)
    · cases h
  · cases h)
theorem qbdd : TabOk Tryz.prog q15 := TabOk.add (f := 193) (e := e193) (qbdc) ⟨_, Tryz.func193, rfl, rfl⟩ (fun args p r h hp => by
  unfold e193 at h; split at h
  · split at h
    · rename_i h_f; cases h; exact (qbtj (q0s qbdc follows) _ _ hp).le ⟨qdx h_f, q02 _, trivial⟩ (q0j _)
    · cases h
  · cases h)
theorem qbde : TabOk Tryz.prog q16 := TabOk.add (f := 177) (e := e177) (qbdd) ⟨_, Tryz.func177, rfl, rfl⟩ (fun args p r h hp => by
  unfold e177 at h; split at h
  · split at h
    · rename_i h_f; cases h; exact (qbtk (q0s qbdd follows) _ hp).le ⟨qdx h_f, trivial⟩ (q0j _)
    · cases h
  · cases h)
theorem qbdf : TabOk Tryz.prog q17 := TabOk.add (f := 192) (e := e192) (qbde) ⟨_, Tryz.func192, rfl, rfl⟩ (fun args p r h hp => by
  unfold e192 at h; split at h
  · split at h
    · rename_i h_f; cases h; exact (qbtl (q0s qbde follows) _ hp).le ⟨qdx h_f, trivial⟩ (q0j _)
    · cases h
  · cases h)
theorem qbdg : TabOk Tryz.prog q18 := TabOk.add (f := 175) (e := e175) (qbdf) ⟨_, Tryz.func175, rfl, rfl⟩ (fun args p r h hp => by
  unfold e175 at h; split at h
  · split at h
    · rename_i h_f; cases h; exact (qbtm (q0s qbdf follows) _ hp).le ⟨qdx h_f, trivial⟩ (q0j _)
    · cases h
  · cases h)
theorem qbdh : TabOk Tryz.prog q19 := TabOk.add (f := 176) (e := e176) (qbdg) ⟨_, Tryz.func176, rfl, rfl⟩ (fun args p r h hp => by
  unfold e176 at h; split at h
  · split at h
    · rename_i h_f; cases h; exact (qbtn (q0s qbdg follows) _ hp).le ⟨qhc h_f, trivial⟩ (q0j _)
    · cases h
  · cases h)
theorem qbdi : TabOk Tryz.prog q2a := TabOk.add (f := 166) (e := e166) (qbdh) ⟨_, Tryz.func166, rfl, rfl⟩ (fun args p r h hp => by
  unfold e166 at h; split at h
  · split at h
    · rename_i h_f; cases h; exact (qbto (q0s qbdh follows) _ hp).le ⟨qhc h_f, trivial⟩ (q0j _)
    · cases h
  · cases h)
theorem qbdj : TabOk Tryz.prog q2b := TabOk.add (f := 156) (e := e156) (qbdi) ⟨_, Tryz.func156, rfl, rfl⟩ (fun args p r h hp => by
  unfold e156 at h; split at h
  · split at h
    · rename_i h_f; cases h; exact (qbtp (q0s qbdi follows) _ hp).le ⟨qhc h_f, trivial⟩ (q0j _)
    · cases h
  · cases h)
theorem qbdk : TabOk Tryz.prog q2c := TabOk.add (f := 138) (e := e138) (qbdj) ⟨_, Tryz.func138, rfl, rfl⟩ (fun args p r h hp => by
  unfold e138 at h; split at h
  · split at h
    · rename_i h_f; cases h; exact (qbtq (q0s qbdj follows) _ hp).le ⟨qhc h_f, trivial⟩ (q0j _)
    · cases h
  · cases h)
theorem qbdl : TabOk Tryz.prog q2d := TabOk.add (f := 167) (e := e167) (qbdk) ⟨_, Tryz.func167, rfl, rfl⟩ (fun args p r h hp => by
  unfold e167 at h; split at h
  · split at h
    · rename_i h_f; cases h; exact (qbtr (q0s qbdk follows) _ hp).le ⟨qdx h_f, trivial⟩ (q0j _)
    · cases h
  · cases h)
theorem qbdm : TabOk Tryz.prog q2e := TabOk.add (f := 168) (e := e168) (qbdl) ⟨_, Tryz.func168, rfl, rfl⟩ (fun args p r h hp => by
  unfold e168 at h; split at h
  · split at h
    · rename_i h_f; cases h; exact (qbts (q0s qbdl follows) _ hp).le ⟨qdx h_f, trivial⟩ (q0j _)
    · cases h
  · cases h)
theorem qbdn : TabOk Tryz.prog q2f := TabOk.add (f := 184) (e := e184) (qbdm) ⟨_, Tryz.func184, rfl, rfl⟩ (fun args p r h hp => by
  unfold e184 at h; split at h
  · split at h
    · rename_i h_f; cases h; exact (qbtt (q0s qbdm follows) _ _ hp).le ⟨qdx h_f, q02 _, trivial⟩ (q0j _)
    · cases h
  · cases h)
theorem qbdo : TabOk Tryz.prog q2g := TabOk.add (f := 170) (e := e170) (qbdn) ⟨_, Tryz.func170, rfl, rfl⟩ (fun args p r h hp => by
  unfold e170 at h; split at h
  · split at h
    · rename_i h_f; cases h; exact (qbtu (q0s qbdn follows) _ _ _ hp).le ⟨qdx h_f, q02 _, q02 _, trivial⟩ (q0j _)
    · cases h
  · cases h)
theorem qbdp : TabOk Tryz.prog q2h := TabOk.add (f := 157) (e := e157) (qbdo) ⟨_, Tryz.func157, rfl, rfl⟩ (fun args p r h hp => by
  unfold e157 at h; split at h
  · split at h
    · rename_i h_f; cases h; exact (qbtv (q0s qbdo follows) _ _ hp).le ⟨qdx h_f, q02 _, trivial⟩ (q0j _)
    · cases h
  · cases h)
theorem qbdq : TabOk Tryz.prog q2i := TabOk.add (f := 139) (e := e139) (qbdp) ⟨_, Tryz.func139, rfl, rfl⟩ (fun args p r h hp => by
  unfold e139 at h; split at h
  · split at h
    · rename_i h_f; cases h; exact (qbtw (q0s qbdp follows) _ _ hp).le ⟨qdx h_f, q02 _, trivial⟩ (q0j _)
    · cases h
  · cases h)
theorem qbdr : TabOk Tryz.prog q2j := TabOk.add (f := 123) (e := e123) (qbdq) ⟨_, Tryz.func123, rfl, rfl⟩ (fun args p r h hp => by
  unfold e123 at h; split at h
  · split at h
    · rename_i h_t; cases h; exact (qbtx (q0s qbdq follows) _ hp).le ⟨q01 h_t, trivial⟩ (q0j _)
    · cases h
  · cases h)
theorem qbkm : TabOk Tryz.prog q8k := TabOk.add (f := 96) (e := e96) (qbdr) ⟨_, Tryz.func96, rfl, rfl⟩ (fun args p r h hp => by
  unfold e96 at h; split at h
  · split at h
    · rename_i h_t; cases h; exact (qby6 (q0s qbdr follows) _ hp).le ⟨q01 h_t, trivial⟩ (q0j _)
    · cases h
  · cases h)
theorem qbds : TabOk Tryz.prog q2n := TabOk.add (f := 140) (e := e140) (qbkm) ⟨_, Tryz.func140, rfl, rfl⟩ (fun args p r h hp => by
  unfold e140 at h; split at h
  · split at h
    · rename_i h_t; cases h; exact (qbty (q0s qbkm follows) _ _ hp).le ⟨q01 h_t, q02 _, trivial⟩ (q0j _)
    · cases h
  · cases h)
theorem qbdt : TabOk Tryz.prog q2o := TabOk.add (f := 38) (e := e38o) (qbds) ⟨_, Tryz.func38, rfl, rfl⟩ (fun args p r h hp => by
  unfold e38o at h; split at h
  · split at h
    · rename_i h_t; cases h; exact (qbtz (q0s qbds follows) _ hp).le ⟨q01 h_t, trivial⟩ (q0j _)
    · cases h
  · cases h)
theorem qbdu : TabOk Tryz.prog q2p := TabOk.add (f := 141) (e := e141) (qbdt) ⟨_, Tryz.func141, rfl, rfl⟩ (fun args p r h hp => by
  unfold e141 at h; split at h
  · split at h
    · rename_i h_t h_r; cases h; exact (qbt0 (q0s qbdt follows) _ _ _ hp).le ⟨q01 h_t, q02 _, qk3 h_r, trivial⟩ (q0j _)
    · cases h
  · cases h)
theorem qbdv : TabOk Tryz.prog q2q := TabOk.add (f := 124) (e := e124) (qbdu) ⟨_, Tryz.func124, rfl, rfl⟩ (fun args p r h hp => by
  unfold e124 at h; split at h
  · split at h
    · rename_i h_t h_c; cases h; exact (qbt1 (q0s qbdu follows) _ _ hp).le ⟨q01 h_t, qe1 h_c, trivial⟩ (q0j _)
    · cases h
  · cases h)
theorem qbdw : TabOk Tryz.prog q2r := TabOk.add (f := 125) (e := e125) (qbdv) ⟨_, Tryz.func125, rfl, rfl⟩ (fun args p r h hp => by
  unfold e125 at h; split at h
  · split at h
    · rename_i h_t h_c; cases h; exact (qbt2 (q0s qbdv follows) _ _ hp).le ⟨q01 h_t, qe1 h_c, trivial⟩ (q0j _)
    · cases h
  · cases h)
theorem qbkn : TabOk Tryz.prog q8n := TabOk.add (f := 97) (e := e97) (qbdw) ⟨_, Tryz.func97, rfl, rfl⟩ (fun args p r h hp => by
  unfold e97 at h; split at h
  · split at h
    · rename_i h_t h_c; cases h; exact (qby7 (q0s qbdw follows) _ _ hp).le ⟨q01 h_t, qe1 h_c, trivial⟩ (q0j _)
    · cases h
  · cases h)
theorem qbko : TabOk Tryz.prog q8o := TabOk.add (f := 45) (e := e45) (qbkn) ⟨_, Tryz.func45, rfl, rfl⟩ (fun args p r h hp => by
  unfold e45 at h; split at h
  · split at h
    · rename_i h_c; cases h; exact (qby8 (q0s qbkn follows) _).le ⟨qe1 h_c, trivial⟩ (q0j _)
    · cases h
  · cases h)
theorem qbkp : TabOk Tryz.prog q8p := TabOk.add (f := 77) (e := e77) (qbko) ⟨_, Tryz.func77, rfl, rfl⟩ (fun args p r h hp => by
  unfold e77 at h; split at h
  · split at h
    · rename_i h_l; cases h; exact (qby9 (q0s qbko follows) _ _ hp).le ⟨q0x q01 h_l, q02 _, trivial⟩ (q0j _)
    · cases h
  · cases h)
theorem qbkq : TabOk Tryz.prog q8q := TabOk.add (f := 74) (e := e74) (qbkp) ⟨_, Tryz.func74, rfl, rfl⟩ (fun args p r h hp => by
  unfold e74 at h; split at h
  · split at h
    · rename_i h_l; cases h; exact (qbza (q0s qbkp follows) _ hp).le ⟨q0x q01 h_l, trivial⟩ (q0j _)
    · cases h
  · cases h)
theorem qbdx : TabOk Tryz.prog q2s := TabOk.add (f := 38) (e := e38d) (qbkq) ⟨_, Tryz.func38, rfl, rfl⟩ (fun args p r h hp => by
  unfold e38d at h; split at h
  · split at h
    · rename_i h_t; cases h; exact (qbt3 (q0s qbkq follows) _ hp).le ⟨q01 h_t, trivial⟩ (q0j _)
    · cases h
  · cases h)
theorem qbkr : TabOk Tryz.prog q8r := TabOk.add (f := 75) (e := e75) (qbdx) ⟨_, Tryz.func75, rfl, rfl⟩ (fun args p r h hp => by
  unfold e75 at h; split at h
  · split at h
    · rename_i h_x h_c; cases h; exact (qbzb (q0s qbdx follows) _ _ hp).le ⟨q8l h_x, qe1 h_c, trivial⟩ (q0j _)
    · cases h
  · cases h)
theorem qbks : TabOk Tryz.prog q8s := TabOk.add (f := 42) (e := e42) (qbkr) ⟨_, Tryz.func42, rfl, rfl⟩ (fun args p r h hp => by
  unfold e42 at h; split at h
  · split at h
    · rename_i h_ts h_cs; cases h; exact (qbzc (q0s qbkr follows) _ _ hp).le ⟨q0x q01 h_ts, q0x qe1 h_cs, trivial⟩ (q0j _)
    · cases h
  · cases h)
theorem qbkt : TabOk Tryz.prog q8t := TabOk.add (f := 39) (e := e39) (qbks) ⟨_, Tryz.func39, rfl, rfl⟩ (fun args p r h hp => by
  unfold e39 at h; split at h
  · split at h
    · rename_i h_ts h_l; cases h; exact (qbzd (q0s qbks follows) _ _ hp).le ⟨q0x q01 h_ts, q0x q03 h_l, trivial⟩ (q0j _)
    · cases h
  · cases h)
theorem qbku : TabOk Tryz.prog q8u := TabOk.add (f := 40) (e := e40) (qbkt) ⟨_, Tryz.func40, rfl, rfl⟩ (fun args p r h hp => by
  unfold e40 at h; split at h
  · split at h
    · rename_i h_l; cases h; exact (qbze (q0s qbkt follows) _ hp).le ⟨q0x q03 h_l, trivial⟩ (q0j _)
    · cases h
  · cases h)
theorem qbkv : TabOk Tryz.prog q8v := TabOk.add (f := 13) (e := e13) (qbku) ⟨_, Tryz.func13, rfl, rfl⟩ (fun args p r h hp => by
  unfold e13 at h; split at h
  · split at h
    · rename_i h_ts h_l; cases h; exact (qbzf (q0s qbku follows) _ _ _ hp).le ⟨q0x q01 h_ts, q0x q03 h_l, q02 _, trivial⟩ (q0j _)
    · cases h
  · cases h)
theorem qbkw : TabOk Tryz.prog q8w := TabOk.add (f := 16) (e := e16) (qbkv) ⟨_, Tryz.func16, rfl, rfl⟩ (fun args p r h hp => by
  unfold e16 at h; split at h
  · split at h
    · rename_i h_ts h_l; cases h; exact (qbzg (q0s qbkv follows) _ _ _ hp).le ⟨q0x q01 h_ts, q0x q03 h_l, q02 _, trivial⟩ (q0j _)
    · cases h
  · cases h)
theorem qbkx : TabOk Tryz.prog q8x := TabOk.add (f := 14) (e := e14) (qbkw) ⟨_, Tryz.func14, rfl, rfl⟩ (fun args p r h hp => by
  unfold e14 at h; split at h
  · split at h
    · rename_i h_ts h_x; cases h; exact (qbzh (q0s qbkw follows) _ _ _ hp).le ⟨q0x q01 h_ts, q02 _, qbaw h_x, trivial⟩ (q0j _)
    · cases h
  · cases h)
theorem tok3 : TabOk Tryz.prog tab3 := TabOk.add (f := 3) (e := e3) (qbkx) ⟨_, Tryz.func3, rfl, rfl⟩ (fun args p r h hp => by
  unfold e3 at h; split at h
  · split at h
    · rename_i h_ts h_l; cases h; exact (con3 (q0s qbkx follows) _ _ _).le ⟨q0x q01 h_ts, q0x q03 h_l, q02 _, trivial⟩ (q0j _)
    · cases h
  · cases h)
theorem tok4 : TabOk Tryz.prog tab4 := TabOk.add (f := 4) (e := e4) (tok3) ⟨_, Tryz.func4, rfl, rfl⟩ (fun args p r h hp => by
  unfold e4 at h; split at h
  · split at h
    · rename_i h_ts h_l; cases h; exact (con4 (q0s tok3 follows) _ _ _).le ⟨q0x q01 h_ts, q0x q03 h_l, q02 _, trivial⟩ (q0j _)
    · cases h
  · cases h)
theorem qbky : TabOk Tryz.prog q80 := TabOk.add (f := 85) (e := e85) (tok4) ⟨_, Tryz.func85, rfl, rfl⟩ (fun args p r h hp => by
  unfold e85 at h; split at h
  · split at h
    · rename_i h_l; cases h; exact (qbzi (q0s tok4 follows) _ _ hp).le ⟨q0x qg0 h_l, q02 _, trivial⟩ (q0j _)
    · cases h
  · cases h)
theorem qbkz : TabOk Tryz.prog q81 := TabOk.add (f := 55) (e := e55) (qbky) ⟨_, Tryz.func55, rfl, rfl⟩ (fun args p r h hp => by
  unfold e55 at h; split at h
  · split at h
    · rename_i h_l; cases h; exact (qbzj (q0s qbky follows) _ _ hp).le ⟨q0x qg0 h_l, q02 _, trivial⟩ (q0j _)
    · cases h
  · cases h)
theorem qbk0 : TabOk Tryz.prog q82 := TabOk.add (f := 25) (e := e25) (qbkz) ⟨_, Tryz.func25, rfl, rfl⟩ (fun args p r h hp => by
  unfold e25 at h; split at h
  · split at h
    · rename_i h_a h_b; cases h; exact (qbzk (q0s qbkz follows) _ _ hp).le ⟨q0x qg0 h_a, q0x qg0 h_b, trivial⟩ (q0j _)
    · cases h
  · cases h)
theorem qbk1 : TabOk Tryz.prog q83 := TabOk.add (f := 48) (e := e48) (qbk0) ⟨_, Tryz.func48, rfl, rfl⟩ (fun args p r h hp => by
  unfold e48 at h; split at h
  · split at h
    · rename_i h_l; cases h; exact (qbzl (q0s qbk0 follows) _ _ hp).le ⟨q0x q03 h_l, q02 _, trivial⟩ (q0j _)
    · cases h
  · cases h)
theorem qbk2 : TabOk Tryz.prog q84 := TabOk.add (f := 17) (e := e17) (qbk1) ⟨_, Tryz.func17, rfl, rfl⟩ (fun args p r h hp => by
  unfold e17 at h; split at h
  · split at h
    · rename_i h_l; cases h; exact (qbzm (q0s qbk1 follows) _ _ hp).le ⟨q0x q03 h_l, q02 _, trivial⟩ (q0j _)
    · cases h
  · cases h)
theorem qbk3 : TabOk Tryz.prog q85 := TabOk.add (f := 52) (e := e52) (qbk2) ⟨_, Tryz.func52, rfl, rfl⟩ (fun args p r h hp => by
  unfold e52 at h; split at h
  · split at h
    · rename_i h_l; cases h; exact (qbzn (q0s qbk2 follows) _ _ hp).le ⟨q0x q03 h_l, q02 _, trivial⟩ (q0j _)
    · cases h
  · cases h)
theorem qbk4 : TabOk Tryz.prog q86 := TabOk.add (f := 19) (e := e19) (qbk3) ⟨_, Tryz.func19, rfl, rfl⟩ (fun args p r h hp => by
  unfold e19 at h; split at h
  · split at h
    · rename_i h_l; cases h; exact (qbzo (q0s qbk3 follows) _ _ hp).le ⟨q0x q03 h_l, q02 _, trivial⟩ (q0j _)
    · cases h
  · cases h)
theorem qbdy : TabOk Tryz.prog q2x := TabOk.add (f := 37) (e := e37z) (qbk4) ⟨_, Tryz.func37, rfl, rfl⟩ (fun args p r h hp => by
  unfold e37z at h; split at h
  · split at h
    · rename_i h_x; cases h; exact (qbt6 (q0s qbk4 follows) _ _).le ⟨q03 h_x, q02 _, trivial⟩ (q0j _)
    · cases h
  · cases h)
theorem qbdz : TabOk Tryz.prog q2y := TabOk.add (f := 44) (e := e44z) (qbdy) ⟨_, Tryz.func44, rfl, rfl⟩ (fun args p r h hp => by
  unfold e44z at h; split at h
  · split at h
    · rename_i h_x; cases h; exact (qbt7 (q0s qbdy follows) _ _).le ⟨q03 h_x, q02 _, trivial⟩ (q0j _)
    · cases h
  · cases h)
theorem qbk5 : TabOk Tryz.prog q87 := TabOk.add (f := 49) (e := e49) (qbdz) ⟨_, Tryz.func49, rfl, rfl⟩ (fun args p r h hp => by
  unfold e49 at h; split at h
  · split at h
    · rename_i h_x h_l; cases h; exact (qbzp (q0s qbdz follows) _ _ hp).le ⟨q03 h_x, ⟨q0x q03 h_l, trivial⟩, trivial⟩ (q0j _)
    · cases h
  · cases h)
theorem qbk6 : TabOk Tryz.prog q88 := TabOk.add (f := 54) (e := e54) (qbk5) ⟨_, Tryz.func54, rfl, rfl⟩ (fun args p r h hp => by
  unfold e54 at h; split at h
  · split at h
    · rename_i h_x h_u; cases h; exact (qbzq (q0s qbk5 follows) _ _ hp).le ⟨q03 h_x, ⟨q0x qg0 h_u, trivial⟩, trivial⟩ (q0j _)
    · cases h
  · cases h)
theorem qbk7 : TabOk Tryz.prog q89 := TabOk.add (f := 56) (e := e56) (qbk6) ⟨_, Tryz.func56, rfl, rfl⟩ (fun args p r h hp => by
  unfold e56 at h; split at h
  · split at h
    · rename_i h_x h_u; cases h; exact (qbzr (q0s qbk6 follows) _ _ hp).le ⟨q03 h_x, ⟨q0x qg0 h_u, trivial⟩, trivial⟩ (q0j _)
    · cases h
  · cases h)
theorem qbd0 : TabOk Tryz.prog q2z := TabOk.add (f := 36) (e := e36z) (qbk7) ⟨_, Tryz.func36, rfl, rfl⟩ (fun args p r h hp => by
  unfold e36z at h; split at h
  · split at h
    · rename_i h_l h_w; cases h; exact (qbt8 (q0s qbk7 follows) _ _ _ hp).le ⟨q0x q03 h_l, q02 _, q4b h_w, trivial⟩ (q0j _)
    · cases h
  · cases h)
theorem qbk8 : TabOk Tryz.prog q9a := TabOk.add (f := 18) (e := e18) (qbd0) ⟨_, Tryz.func18, rfl, rfl⟩ (fun args p r h hp => by
  unfold e18 at h; split at h
  · split at h
    · rename_i h_ts h_l; cases h; exact (qbzs (q0s qbd0 follows) _ _ hp).le ⟨q0x q01 h_ts, q0x q03 h_l, trivial⟩ (q0j _)
    · cases h
  · cases h)
theorem q9p : TabOk Tryz.prog q9b := TabOk.add (f := 20) (e := e20) (qbk8) ⟨_, Tryz.func20, rfl, rfl⟩ (fun args p r h hp => by
  unfold e20 at h; split at h
  · split at h
    · rename_i h_ts h_l; cases h; exact (qbzt (q0s qbk8 follows) _ _ hp).le ⟨q0x q01 h_ts, q0x q03 h_l, trivial⟩ (q0j _)
    · cases h
  · cases h)
theorem tok5 : TabOk Tryz.prog tab5 := TabOk.add (f := 5) (e := e5) (q9p) ⟨_, Tryz.func5, rfl, rfl⟩ (fun args p r h hp => by
  unfold e5 at h; split at h
  · split at h
    · rename_i h_ts h_l; cases h; exact (con5 (q0s q9p follows) _ _ _).le ⟨q0x q01 h_ts, q0x q03 h_l, q02 _, trivial⟩ (q0j _)
    · cases h
  · cases h)
theorem qbk9 : TabOk Tryz.prog q9e := TabOk.add (f := 53) (e := e53) (tok5) ⟨_, Tryz.func53, rfl, rfl⟩ (fun args p r h hp => by
  unfold e53 at h; split at h
  · split at h
    · rename_i h_us; cases h; exact (qbzu (q0s tok5 follows) _ hp).le ⟨qbgc h_us, trivial⟩ (q0j _)
    · cases h
  · cases h)
theorem qbla : TabOk Tryz.prog q9f := TabOk.add (f := 58) (e := e58) (qbk9) ⟨_, Tryz.func58, rfl, rfl⟩ (fun args p r h hp => by
  unfold e58 at h; split at h
  · split at h
    · rename_i h_l; cases h; exact (qbzv (q0s qbk9 follows) _ hp).le ⟨q0x q03 h_l, trivial⟩ (q0j _)
    · cases h
  · cases h)
theorem qblb : TabOk Tryz.prog q9g := TabOk.add (f := 21) (e := e21) (qbla) ⟨_, Tryz.func21, rfl, rfl⟩ (fun args p r h hp => by
  unfold e21 at h; split at h
  · split at h
    · rename_i h_ts h_l; cases h; exact (qbzw (q0s qbla follows) _ _ hp).le ⟨q0x q01 h_ts, q0x q03 h_l, trivial⟩ (q0j _)
    · cases h
  · cases h)
theorem qblc : TabOk Tryz.prog q9h := TabOk.add (f := 22) (e := e22) (qblb) ⟨_, Tryz.func22, rfl, rfl⟩ (fun args p r h hp => by
  unfold e22 at h; split at h
  · split at h
    · rename_i h_ts h_l; cases h; exact (qbzx (q0s qblb follows) _ _ hp).le ⟨q0x q01 h_ts, q0x q03 h_l, trivial⟩ (q0j _)
    · cases h
  · cases h)
theorem qbld : TabOk Tryz.prog q9i := TabOk.add (f := 23) (e := e23) (qblc) ⟨_, Tryz.func23, rfl, rfl⟩ (fun args p r h hp => by
  unfold e23 at h; split at h
  · split at h
    · rename_i h_ts h_l; cases h; exact (qbzy (q0s qblc follows) _ _ hp).le ⟨q0x q01 h_ts, q0x q03 h_l, trivial⟩ (q0j _)
    · cases h
  · cases h)
theorem qble : TabOk Tryz.prog q9j := TabOk.add (f := 24) (e := e24) (qbld) ⟨_, Tryz.func24, rfl, rfl⟩ (fun args p r h hp => by
  unfold e24 at h; split at h
  · split at h
    · rename_i h_ts h_l; cases h; exact (qbzz (q0s qbld follows) _ _ hp).le ⟨q0x q01 h_ts, q0x q03 h_l, trivial⟩ (q0j _)
    · cases h
  · cases h)
theorem tok6 : TabOk Tryz.prog tab6 := TabOk.add (f := 6) (e := e6) (qble) ⟨_, Tryz.func6, rfl, rfl⟩ (fun args p r h hp => by
  unfold e6 at h; split at h
  · split at h
    · rename_i h_ts h_l; cases h; exact (con6 (q0s qble follows) _ _).le ⟨q0x q01 h_ts, q0x q03 h_l, trivial⟩ (q0j _)
    · cases h
  · cases h)
theorem qblf : TabOk Tryz.prog q9m := TabOk.add (f := 59) (e := e59) (tok6) ⟨_, Tryz.func59, rfl, rfl⟩ (fun args p r h hp => by
  unfold e59 at h; split at h
  · split at h
    · rename_i h_l; cases h; exact (qbz0 (q0s tok6 follows) _ _ hp).le ⟨q0x qg0 h_l, q02 _, trivial⟩ (q0j _)
    · cases h
  · cases h)
theorem qbz2 : TabOk Tryz.prog qbi5 := TabOk.add (f := 26) (e := e26) (qblf) ⟨_, Tryz.func26, rfl, rfl⟩ (fun args p r h hp => by
  unfold e26 at h; split at h
  · split at h
    · rename_i h_l h_us; cases h; exact (qbz1 (q0s qblf follows) _ _ hp).le ⟨q0x q03 h_l, q0x qg0 h_us, trivial⟩ (q0j _)
    · cases h
  · cases h)
end Go.Ev

namespace Go.Ev
open Go.ChangeShapes Go.WideShapes Go.ChangeAt Go.RowKit
section
variable {H : Type} {enc : TypeId × Value → H} {P : Program} {w : World} {sp : Nat → Bool} {held : Bool}
def RDs (w : World) (cs : List Value) (ds : List D) : Prop := cs.length = ds.length ∧ ∀ (j : Nat) (v : Value) (d : D), cs[j]? = some v → ds[j]? = some d → RD w (fun _ => False) v d ∧ d.one = true
theorem RDs.nil : RDs w [] [] := ⟨rfl, fun j v d h => by simp at h⟩
theorem RDs.one {v : Value} {d : D} (h : RD w (fun _ => False) v d) (h1 : d.one = true) : RDs w [v] [d] := ⟨rfl, fun j u e hj he => by
  match j with
  | 0 => simp at hj he; subst hj; subst he; exact ⟨h, h1⟩
  | j + 1 => simp at hj⟩
theorem RDs.append {a b : List Value} {x y : List D} (h : RDs w a x) (k : RDs w b y) : RDs w (a ++ b) (x ++ y) := by
  refine ⟨by rw [List.length_append, List.length_append, h.1, k.1], fun j v d hj hd => ?_⟩
  by_cases hl : j < a.length
  · rw [List.getElem?_append_left hl] at hj
    rw [List.getElem?_append_left (by rw [← h.1]; exact hl)] at hd
    exact h.2 j v d hj hd
  · rw [List.getElem?_append_right (by omega)] at hj
    rw [List.getElem?_append_right (by rw [← h.1]; omega)] at hd
    rw [h.1] at hj
    exact k.2 _ v d hj hd
theorem qbih {t : TypeId} {k : IntKind} (ht : P.underlying t = some (.int k)) {fuel : Nat} {cs : List Value} {x : DataW H × List MemPlace} (h : DataW.trod enc P w 0 sp held fuel t cs = some x) :
    ∃ n, (Lit.int k n).wf = true ∧ RDs w cs [.i k n] := by
  obtain ⟨n, rfl, _, hw⟩ := DataW.trod_int ht h
  exact ⟨n, hw, RDs.one (.i k n) rfl⟩
theorem qbd1 {t : TypeId} (ht : P.underlying t = some .bool) {fuel : Nat} {cs : List Value} {x : DataW H × List MemPlace} (h : DataW.trod enc P w 0 sp held fuel t cs = some x) :
    ∃ b, RDs w cs [.b b] := by
  obtain ⟨n, rfl, _⟩ := DataW.trod_bool ht h
  exact ⟨n, RDs.one (.b n) rfl⟩
theorem q4i {t : TypeId} (ht : P.underlying t = some .string) {fuel : Nat} {cs : List Value} {x : DataW H × List MemPlace} (h : DataW.trod enc P w 0 sp held fuel t cs = some x) :
    ∃ s : ByteArray, s.size ≤ maxLen ∧ RDs w cs [.s s] := by
  obtain ⟨n, rfl, _, hs⟩ := DataW.trod_string ht h
  exact ⟨n, hs, RDs.one (.s n) rfl⟩
theorem qbd2 {a : Addr} {v : Value} (h : w.cell? a = some v) : a.spot = none := by
  unfold World.cell? at h
  split at h
  · split at h
    · cases h
    · rename_i hs; simpa using hs
  · cases h
theorem q9q {t e : TypeId} {α : Type} {encf : α → D} {Ok : α → Prop} {sz : Nat} (ht : P.underlying t = some (.slice e)) (hsz : P.cellsOf e = sz) (h0 : 0 < sz) (hc : ∀ r, (encf r).cells.length = sz)
    (he : ∀ (fuel : Nat) (cs : List Value) (x : DataW H × List MemPlace), DataW.trod enc P w 0 sp held fuel e cs = some x → ∃ r, Ok r ∧ RDs w cs (encf r).cells)
    {fuel : Nat} {cs : List Value} {x : DataW H × List MemPlace} (h : DataW.trod enc P w 0 sp held fuel t cs = some x) :
    ∃ l : List α, (∀ r ∈ l, Ok r) ∧ l.length ≤ maxLen ∧ RDs w cs [.sl sz (l.map encf)] := by
  rcases DataW.trod_slice ht h with ⟨rfl, _⟩ | ⟨a, len, cap, qk9, rest, n, rfl, rfl, _, _, hlc, hcm, hel, hg, _, _⟩
  · exact ⟨[], by simp, Nat.zero_le _, RDs.one (.sl0 sz) rfl⟩
  · have key : ∀ i, i < len → ∃ r, Ok r ∧ ∃ cs', w.cells? 0 (a.add (i * sz)) sz = some cs' ∧ RDs w cs' (encf r).cells := fun i hi => by
      have h1 := hg i hi
      rw [hsz, List.getElem?_eq_getElem (by omega), Option.bind_eq_some_iff] at h1
      obtain ⟨cs', h2, h3⟩ := h1
      obtain ⟨r, hr, hd⟩ := he _ _ _ h3
      exact ⟨r, hr, cs', h2, hd⟩
    let f : ∀ i, i < len → α := fun i hi => Classical.choose (key i hi)
    have hf1 : ∀ i hi, Ok (f i hi) := fun i hi => (Classical.choose_spec (key i hi)).1
    have hf2 : ∀ i hi, ∃ cs', w.cells? 0 (a.add (i * sz)) sz = some cs' ∧ RDs w cs' (encf (f i hi)).cells := fun i hi => (Classical.choose_spec (key i hi)).2
    clear_value f
    have hspot : 0 < len → a.spot = none := fun hl => by
      obtain ⟨cs', h3, _⟩ := hf2 0 hl
      obtain ⟨_, h5, h6⟩ := World.cells?_some h3
      have h9 := h6 0 h0
      rw [List.getElem?_eq_getElem (by omega)] at h9
      have := qbd2 h9
      simpa [Addr.add] using this
    let l : List α := List.ofFn fun i : Fin len => f i.1 i.2
    have hll : l.length = len := by simp [l]
    have hli : ∀ i (hi : i < len), l[i]? = some (f i hi) := fun i hi => by simp [l, hi]
    have hfl : (flat (l.map encf)).length = len * sz := by
      rw [qb0 (sz := sz) (fun d hd => by
        obtain ⟨r, _, rfl⟩ := List.mem_map.1 hd
        exact hc r), List.length_map, hll]
    have hcell : ∀ (k : Nat) (d : D), (flat (l.map encf))[k]? = some d → a.spot = none ∧ ∃ v, w.cell? ⟨a.block, a.off + k, none⟩ = some v ∧ RD w (fun _ => False) v d ∧ d.one = true := fun k d hk => by
      have hk1 : k < len * sz := by rw [← hfl]; exact (List.getElem?_eq_some_iff.1 hk).1
      have hi : k / sz < len := Nat.div_lt_of_lt_mul (by rwa [Nat.mul_comm])
      have hm : k % sz < sz := Nat.mod_lt _ h0
      have hkk : k / sz * sz + k % sz = k := by rw [Nat.mul_comm]; exact Nat.div_add_mod k sz
      have hj : (l.map encf)[k / sz]? = some (encf (f (k / sz) hi)) := by rw [List.getElem?_map, hli _ hi]; rfl
      have h2 := qic (sz := sz) (fun d hd => by
        obtain ⟨r, _, rfl⟩ := List.mem_map.1 hd
        exact hc r) hj hm
      rw [hkk, hk] at h2
      obtain ⟨cs', h3, h4⟩ := hf2 (k / sz) hi
      obtain ⟨_, h5, h6⟩ := World.cells?_some h3
      have h7 := h6 (k % sz) hm
      have hlt : k % sz < cs'.length := by omega
      rw [List.getElem?_eq_getElem hlt] at h7
      have h8 := h4.2 (k % sz) _ d (List.getElem?_eq_getElem hlt) h2.symm
      have hsp : a.spot = none := hspot (Nat.lt_of_le_of_lt (Nat.zero_le _) hi)
      refine ⟨hsp, _, ?_, h8⟩
      rw [← h7]
      congr 1
      obtain ⟨b, o, s⟩ := a
      simp only at hsp
      subst hsp
      unfold Addr.add
      (repeat' split) <;> simp <;> omega
    refine ⟨l, fun r hr => ?_, by omega, RDs.one ?_ rfl⟩
    · obtain ⟨i, hi⟩ := List.mem_ofFn.1 hr
      rw [← hi]; exact hf1 _ _
    · have hlm : len = (l.map encf).length := by simp [hll]
      rw [hlm]
      refine .sl a cap sz (l.map encf) (fun k => (w.cell? ⟨a.block, a.off + k, none⟩).getD default) (by omega) h0 (fun d hd => ?_) (fun hl => ⟨hspot ?_, fun hx => hx⟩) (fun k d hk => ?_) (fun k d hk => ?_)
      · obtain ⟨r, hr, rfl⟩ := List.mem_map.1 hd
        refine ⟨hc r, fun c hcm => ?_⟩
        obtain ⟨i, hi⟩ := List.mem_ofFn.1 hr
        obtain ⟨cs', _, h4⟩ := hf2 i.1 i.2
        rw [← hi] at hcm
        obtain ⟨j, hj, hjc⟩ := List.getElem_of_mem hcm
        have hlt : j < cs'.length := by rw [h4.1]; exact hj
        exact (h4.2 j _ c (List.getElem?_eq_getElem hlt) (by rw [List.getElem?_eq_getElem hj, hjc])).2
      · rcases Nat.eq_zero_or_pos len with e | e
        · exact absurd (List.length_eq_zero_iff.1 (by omega)) hl
        · exact e
      · obtain ⟨_, v, hv, _⟩ := hcell k d hk
        rw [hv]; rfl
      · obtain ⟨_, v, hv, h1, _⟩ := hcell k d hk
        rw [hv]; exact h1
theorem RDs.join {cs : List Value} {o n m : Nat} {a b : List D} (h : RDs w ((cs.drop o).take n) a) (k : RDs w (cs.drop m) b) (hm : o + n = m) : RDs w (cs.drop o) (a ++ b) := by
  subst hm
  have := RDs.append h k
  rwa [← List.drop_drop, List.take_append_drop] at this
theorem RDs.single {v : Value} {d : D} (h : RDs w [v] [d]) : RD w (fun _ => False) v d := (h.2 0 v d rfl rfl).1
theorem RDs.last {cs : List Value} {n : Nat} (h : cs.length = n) : RDs w (cs.drop n) [] := by
  rw [List.drop_of_length_le (by omega)]; exact .nil
theorem qbd {t n : Nat} (h : qby P t = some n) : P.cellsOf t = n := by
  unfold qby at h
  unfold Program.cellsOf
  rw [h]; rfl
theorem qdp {α : Type} {xs : List α} {n i : Nat} (h : xs.length = n) (hi : i < n) : ∃ y, xs[i]? = some y := ⟨xs[i]'(by omega), by simp⟩
end
theorem qyl {P : Program} {f : FuncId} {ds : List D} {vs : Array Value} {w : World} (h : Sem P f (ds.map .d) (.d (.b true))) (hn : vs.size = ds.length)
    (hr : ∀ (j : Nat) (v : Value) (d : D), vs[j]? = some v → ds[j]? = some d → RD w (fun _ => False) v d) :
    Calls P f vs w fun e w' => e = .returned (.bool true) ∧ Below w.heap.size w w' := by
  refine (h w vs (fun _ => False) [] (fun _ hf => hf.elim) (fun i j b hi => by simp at hi) (fun _ _ hf => hf) ⟨by simpa using hn, List.replicate ds.length [], by simp, by simp, fun j v o q hv ho hq => ?_⟩).mono fun e w' ⟨v, u, os', he, hret, hro, _, _, hfr⟩ => ?_
  · rw [List.getElem?_replicate] at hq
    split at hq
    · cases hq
      rw [List.getElem?_map, Option.map_eq_some_iff] at ho
      obtain ⟨d, hd, rfl⟩ := ho
      exact .d v d ((hr j v d hv hd).mono fun b hb => by
        rcases hb with hb | hb
        · exact hb
        · unfold Blk at hb; simp at hb)
    · cases hq
  · subst he
    have hb : ∀ (ds : List D) (vs : List Value), qem (ds.map O.d) vs = [] := fun ds => by
      induction ds with
      | nil => intro vs; cases vs <;> rfl
      | cons d ds ih => intro vs; cases vs with
        | nil => rfl
        | cons v vs => exact ih vs
    unfold Ret at hret
    rw [hb] at hret
    simp only at hret
    subst hret
    have hv : u = .bool true := by
      cases hro with
      | d _ _ h => cases h; rfl
    subst hv
    exact ⟨rfl, hfr.os, hfr.tape, hfr.output, hfr.ext.size, fun k hk => hfr.ext.same k hk (by unfold Blk; simp)⟩
end Go.Ev

namespace Go.Ev
open Go.ChangeShapes Go.WideShapes Go.ChangeAt Go.RowKit Go.Proofs
section
variable {H : Type} {enc : TypeId × Value → H} {P : Program} {w : World} {sp : Nat → Bool} {held : Bool}
theorem rdI {t : TypeId} {k : IntKind} (ht : P.underlying t = some (.int k)) {fuel : Nat} {cs : List Value} {x : DataW H × List MemPlace} (h : DataW.trod enc P w 0 sp held fuel t cs = some x) : ∃ n : Int, True ∧ RDs w cs [.i k n] :=
  let ⟨n, _, h⟩ := qbih ht h; ⟨n, trivial, h⟩
theorem rdB {t : TypeId} (ht : P.underlying t = some .bool) {fuel : Nat} {cs : List Value} {x : DataW H × List MemPlace} (h : DataW.trod enc P w 0 sp held fuel t cs = some x) : ∃ n : Bool, True ∧ RDs w cs [.b n] :=
  let ⟨n, h⟩ := qbd1 ht h; ⟨n, trivial, h⟩
theorem rdS {t : TypeId} (ht : P.underlying t = some .string) {fuel : Nat} {cs : List Value} {x : DataW H × List MemPlace} (h : DataW.trod enc P w 0 sp held fuel t cs = some x) : ∃ n : ByteArray, True ∧ RDs w cs [.s n] :=
  let ⟨n, _, h⟩ := q4i ht h; ⟨n, trivial, h⟩
theorem rdL {t e : TypeId} {α : Type} {encf : α → D} {sz : Nat} (ht : P.underlying t = some (.slice e)) (hsz : P.cellsOf e = sz) (h0 : 0 < sz) (hc : ∀ r, (encf r).cells.length = sz)
    (he : ∀ (fuel : Nat) (cs : List Value) (x : DataW H × List MemPlace), DataW.trod enc P w 0 sp held fuel e cs = some x → ∃ r, True ∧ RDs w cs (encf r).cells)
    {fuel : Nat} {cs : List Value} {x : DataW H × List MemPlace} (h : DataW.trod enc P w 0 sp held fuel t cs = some x) : ∃ l : List α, True ∧ RDs w cs [.sl sz (l.map encf)] :=
  let ⟨l, _, _, h⟩ := q9q (Ok := fun _ => True) ht hsz h0 hc he h; ⟨l, trivial, h⟩
theorem q4j {fuel : Nat} {cs : List Value} {x : DataW H × List MemPlace} (h : DataW.trod enc Tryz.prog w 0 sp held fuel 48 cs = some x) : ∃ r : Change, True ∧ RDs w cs (q0u r).cells := by
  obtain ⟨xs, n, _, _, hl, hx, hf⟩ := DataW.trod_struct Tryz.underlying48 h
  rw [qbd Ty.sz48] at hl
  obtain ⟨y0, hy0⟩ := qdp hx (i := 0) (by decide)
  have f0 : DataW.trod enc Tryz.prog w 0 sp held n 9 ((cs.drop 0).take (Tryz.prog.cellsOf 9)) = xs[0]? := hf 0 _ rfl
  rw [qbd Ty.sz9, hy0] at f0
  obtain ⟨a0, _, d0⟩ := rdS Tryz.underlying9 f0
  obtain ⟨y1, hy1⟩ := qdp hx (i := 1) (by decide)
  have f1 : DataW.trod enc Tryz.prog w 0 sp held n 3 ((cs.drop 1).take (Tryz.prog.cellsOf 3)) = xs[1]? := hf 1 _ rfl
  rw [qbd Ty.sz3, hy1] at f1
  obtain ⟨a1, _, d1⟩ := rdI (k := .i64) Tryz.underlying3 f1
  obtain ⟨y2, hy2⟩ := qdp hx (i := 2) (by decide)
  have f2 : DataW.trod enc Tryz.prog w 0 sp held n 3 ((cs.drop 2).take (Tryz.prog.cellsOf 3)) = xs[2]? := hf 2 _ rfl
  rw [qbd Ty.sz3, hy2] at f2
  obtain ⟨a2, _, d2⟩ := rdI (k := .i64) Tryz.underlying3 f2
  obtain ⟨y3, hy3⟩ := qdp hx (i := 3) (by decide)
  have f3 : DataW.trod enc Tryz.prog w 0 sp held n 9 ((cs.drop 3).take (Tryz.prog.cellsOf 9)) = xs[3]? := hf 3 _ rfl
  rw [qbd Ty.sz9, hy3] at f3
  obtain ⟨a3, _, d3⟩ := rdS Tryz.underlying9 f3
  obtain ⟨y4, hy4⟩ := qdp hx (i := 4) (by decide)
  have f4 : DataW.trod enc Tryz.prog w 0 sp held n 9 ((cs.drop 4).take (Tryz.prog.cellsOf 9)) = xs[4]? := hf 4 _ rfl
  rw [qbd Ty.sz9, hy4] at f4
  obtain ⟨a4, _, d4⟩ := rdS Tryz.underlying9 f4
  exact ⟨⟨a0, a1, a2, a3, a4⟩, trivial, (RDs.join d0 (RDs.join d1 (RDs.join d2 (RDs.join d3 (RDs.join d4 (RDs.last hl) rfl) rfl) rfl) rfl) rfl)⟩
theorem qvr {fuel : Nat} {cs : List Value} {x : DataW H × List MemPlace} (h : DataW.trod enc Tryz.prog w 0 sp held fuel 50 cs = some x) : ∃ r : Entry, True ∧ RDs w cs (q0r r).cells := by
  obtain ⟨xs, n, _, _, hl, hx, hf⟩ := DataW.trod_struct Tryz.underlying50 h
  rw [qbd Ty.sz50] at hl
  obtain ⟨y0, hy0⟩ := qdp hx (i := 0) (by decide)
  have f0 : DataW.trod enc Tryz.prog w 0 sp held n 3 ((cs.drop 0).take (Tryz.prog.cellsOf 3)) = xs[0]? := hf 0 _ rfl
  rw [qbd Ty.sz3, hy0] at f0
  obtain ⟨a0, _, d0⟩ := rdI (k := .i64) Tryz.underlying3 f0
  obtain ⟨y1, hy1⟩ := qdp hx (i := 1) (by decide)
  have f1 : DataW.trod enc Tryz.prog w 0 sp held n 3 ((cs.drop 1).take (Tryz.prog.cellsOf 3)) = xs[1]? := hf 1 _ rfl
  rw [qbd Ty.sz3, hy1] at f1
  obtain ⟨a1, _, d1⟩ := rdI (k := .i64) Tryz.underlying3 f1
  obtain ⟨y2, hy2⟩ := qdp hx (i := 2) (by decide)
  have f2 : DataW.trod enc Tryz.prog w 0 sp held n 3 ((cs.drop 2).take (Tryz.prog.cellsOf 3)) = xs[2]? := hf 2 _ rfl
  rw [qbd Ty.sz3, hy2] at f2
  obtain ⟨a2, _, d2⟩ := rdI (k := .i64) Tryz.underlying3 f2
  obtain ⟨y3, hy3⟩ := qdp hx (i := 3) (by decide)
  have f3 : DataW.trod enc Tryz.prog w 0 sp held n 48 ((cs.drop 3).take (Tryz.prog.cellsOf 48)) = xs[3]? := hf 3 _ rfl
  rw [qbd Ty.sz48, hy3] at f3
  obtain ⟨a3, _, d3⟩ := q4j f3
  exact ⟨⟨a0, a1, a2, a3⟩, trivial, (RDs.join d0 (RDs.join d1 (RDs.join d2 (RDs.join d3 (RDs.last hl) rfl) rfl) rfl) rfl)⟩
theorem q9r {fuel : Nat} {cs : List Value} {x : DataW H × List MemPlace} (h : DataW.trod enc Tryz.prog w 0 sp held fuel 108 cs = some x) : ∃ r : DType, True ∧ RDs w cs (qbe r).cells := by
  obtain ⟨xs, n, _, _, hl, hx, hf⟩ := DataW.trod_struct Tryz.underlying108 h
  rw [qbd Ty.sz108] at hl
  obtain ⟨y0, hy0⟩ := qdp hx (i := 0) (by decide)
  have f0 : DataW.trod enc Tryz.prog w 0 sp held n 3 ((cs.drop 0).take (Tryz.prog.cellsOf 3)) = xs[0]? := hf 0 _ rfl
  rw [qbd Ty.sz3, hy0] at f0
  obtain ⟨a0, _, d0⟩ := rdI (k := .i64) Tryz.underlying3 f0
  obtain ⟨y1, hy1⟩ := qdp hx (i := 1) (by decide)
  have f1 : DataW.trod enc Tryz.prog w 0 sp held n 3 ((cs.drop 1).take (Tryz.prog.cellsOf 3)) = xs[1]? := hf 1 _ rfl
  rw [qbd Ty.sz3, hy1] at f1
  obtain ⟨a1, _, d1⟩ := rdI (k := .i64) Tryz.underlying3 f1
  obtain ⟨y2, hy2⟩ := qdp hx (i := 2) (by decide)
  have f2 : DataW.trod enc Tryz.prog w 0 sp held n 3 ((cs.drop 2).take (Tryz.prog.cellsOf 3)) = xs[2]? := hf 2 _ rfl
  rw [qbd Ty.sz3, hy2] at f2
  obtain ⟨a2, _, d2⟩ := rdI (k := .i64) Tryz.underlying3 f2
  exact ⟨⟨a0, a1, a2⟩, trivial, (RDs.join d0 (RDs.join d1 (RDs.join d2 (RDs.last hl) rfl) rfl) rfl)⟩
theorem q9s {fuel : Nat} {cs : List Value} {x : DataW H × List MemPlace} (h : DataW.trod enc Tryz.prog w 0 sp held fuel 110 cs = some x) : ∃ r : Field, True ∧ RDs w cs (q05 r).cells := by
  obtain ⟨xs, n, _, _, hl, hx, hf⟩ := DataW.trod_struct Tryz.underlying110 h
  rw [qbd Ty.sz110] at hl
  obtain ⟨y0, hy0⟩ := qdp hx (i := 0) (by decide)
  have f0 : DataW.trod enc Tryz.prog w 0 sp held n 9 ((cs.drop 0).take (Tryz.prog.cellsOf 9)) = xs[0]? := hf 0 _ rfl
  rw [qbd Ty.sz9, hy0] at f0
  obtain ⟨a0, _, d0⟩ := rdS Tryz.underlying9 f0
  obtain ⟨y1, hy1⟩ := qdp hx (i := 1) (by decide)
  have f1 : DataW.trod enc Tryz.prog w 0 sp held n 108 ((cs.drop 1).take (Tryz.prog.cellsOf 108)) = xs[1]? := hf 1 _ rfl
  rw [qbd Ty.sz108, hy1] at f1
  obtain ⟨a1, _, d1⟩ := q9r f1
  exact ⟨⟨a0, a1⟩, trivial, (RDs.join d0 (RDs.join d1 (RDs.last hl) rfl) rfl)⟩
theorem qbii {fuel : Nat} {cs : List Value} {x : DataW H × List MemPlace} (h : DataW.trod enc Tryz.prog w 0 sp held fuel 74 cs = some x) : ∃ r : Fmt, True ∧ RDs w cs (qbw r).cells := by
  obtain ⟨xs, n, _, _, hl, hx, hf⟩ := DataW.trod_struct Tryz.underlying74 h
  rw [qbd Ty.sz74] at hl
  obtain ⟨y0, hy0⟩ := qdp hx (i := 0) (by decide)
  have f0 : DataW.trod enc Tryz.prog w 0 sp held n 9 ((cs.drop 0).take (Tryz.prog.cellsOf 9)) = xs[0]? := hf 0 _ rfl
  rw [qbd Ty.sz9, hy0] at f0
  obtain ⟨a0, _, d0⟩ := rdS Tryz.underlying9 f0
  obtain ⟨y1, hy1⟩ := qdp hx (i := 1) (by decide)
  have f1 : DataW.trod enc Tryz.prog w 0 sp held n 72 ((cs.drop 1).take (Tryz.prog.cellsOf 72)) = xs[1]? := hf 1 _ rfl
  rw [qbd Ty.sz72, hy1] at f1
  obtain ⟨a1, _, d1⟩ := rdL (sz := 4) Tryz.underlying72 (qbd Ty.sz110) (by decide) (fun _ => rfl) (fun _ _ _ h => q9s h) f1
  exact ⟨⟨a0, a1⟩, trivial, (RDs.join d0 (RDs.join d1 (RDs.last hl) rfl) rfl)⟩
theorem q4k {fuel : Nat} {cs : List Value} {x : DataW H × List MemPlace} (h : DataW.trod enc Tryz.prog w 0 sp held fuel 113 cs = some x) : ∃ r : KField, True ∧ RDs w cs (q06 r).cells := by
  obtain ⟨xs, n, _, _, hl, hx, hf⟩ := DataW.trod_struct Tryz.underlying113 h
  rw [qbd Ty.sz113] at hl
  obtain ⟨y0, hy0⟩ := qdp hx (i := 0) (by decide)
  have f0 : DataW.trod enc Tryz.prog w 0 sp held n 9 ((cs.drop 0).take (Tryz.prog.cellsOf 9)) = xs[0]? := hf 0 _ rfl
  rw [qbd Ty.sz9, hy0] at f0
  obtain ⟨a0, _, d0⟩ := rdS Tryz.underlying9 f0
  obtain ⟨y1, hy1⟩ := qdp hx (i := 1) (by decide)
  have f1 : DataW.trod enc Tryz.prog w 0 sp held n 4 ((cs.drop 1).take (Tryz.prog.cellsOf 4)) = xs[1]? := hf 1 _ rfl
  rw [qbd Ty.sz4, hy1] at f1
  obtain ⟨a1, _, d1⟩ := rdB Tryz.underlying4 f1
  exact ⟨⟨a0, a1⟩, trivial, (RDs.join d0 (RDs.join d1 (RDs.last hl) rfl) rfl)⟩
theorem qbd3 {fuel : Nat} {cs : List Value} {x : DataW H × List MemPlace} (h : DataW.trod enc Tryz.prog w 0 sp held fuel 77 cs = some x) : ∃ r : File, True ∧ RDs w cs (qb6 r).cells := by
  obtain ⟨xs, n, _, _, hl, hx, hf⟩ := DataW.trod_struct Tryz.underlying77 h
  rw [qbd Ty.sz77] at hl
  obtain ⟨y0, hy0⟩ := qdp hx (i := 0) (by decide)
  have f0 : DataW.trod enc Tryz.prog w 0 sp held n 9 ((cs.drop 0).take (Tryz.prog.cellsOf 9)) = xs[0]? := hf 0 _ rfl
  rw [qbd Ty.sz9, hy0] at f0
  obtain ⟨a0, _, d0⟩ := rdS Tryz.underlying9 f0
  obtain ⟨y1, hy1⟩ := qdp hx (i := 1) (by decide)
  have f1 : DataW.trod enc Tryz.prog w 0 sp held n 74 ((cs.drop 1).take (Tryz.prog.cellsOf 74)) = xs[1]? := hf 1 _ rfl
  rw [qbd Ty.sz74, hy1] at f1
  obtain ⟨a1, _, d1⟩ := qbii f1
  obtain ⟨y2, hy2⟩ := qdp hx (i := 2) (by decide)
  have f2 : DataW.trod enc Tryz.prog w 0 sp held n 75 ((cs.drop 3).take (Tryz.prog.cellsOf 75)) = xs[2]? := hf 2 _ rfl
  rw [qbd Ty.sz75, hy2] at f2
  obtain ⟨a2, _, d2⟩ := rdL (sz := 2) Tryz.underlying75 (qbd Ty.sz113) (by decide) (fun _ => rfl) (fun _ _ _ h => q4k h) f2
  obtain ⟨y3, hy3⟩ := qdp hx (i := 3) (by decide)
  have f3 : DataW.trod enc Tryz.prog w 0 sp held n 4 ((cs.drop 4).take (Tryz.prog.cellsOf 4)) = xs[3]? := hf 3 _ rfl
  rw [qbd Ty.sz4, hy3] at f3
  obtain ⟨a3, _, d3⟩ := rdB Tryz.underlying4 f3
  exact ⟨⟨a0, a1, a2, a3⟩, trivial, (RDs.join d0 (RDs.join d1 (RDs.join d2 (RDs.join d3 (RDs.last hl) rfl) rfl) rfl) rfl)⟩
theorem qbij {fuel : Nat} {cs : List Value} {x : DataW H × List MemPlace} (h : DataW.trod enc Tryz.prog w 0 sp held fuel 104 cs = some x) : ∃ r : Rec, True ∧ RDs w cs (qbp r).cells := by
  obtain ⟨xs, n, _, _, hl, hx, hf⟩ := DataW.trod_struct Tryz.underlying104 h
  rw [qbd Ty.sz104] at hl
  obtain ⟨y0, hy0⟩ := qdp hx (i := 0) (by decide)
  have f0 : DataW.trod enc Tryz.prog w 0 sp held n 4 ((cs.drop 0).take (Tryz.prog.cellsOf 4)) = xs[0]? := hf 0 _ rfl
  rw [qbd Ty.sz4, hy0] at f0
  obtain ⟨a0, _, d0⟩ := rdB Tryz.underlying4 f0
  obtain ⟨y1, hy1⟩ := qdp hx (i := 1) (by decide)
  have f1 : DataW.trod enc Tryz.prog w 0 sp held n 9 ((cs.drop 1).take (Tryz.prog.cellsOf 9)) = xs[1]? := hf 1 _ rfl
  rw [qbd Ty.sz9, hy1] at f1
  obtain ⟨a1, _, d1⟩ := rdS Tryz.underlying9 f1
  exact ⟨⟨a0, a1⟩, trivial, (RDs.join d0 (RDs.join d1 (RDs.last hl) rfl) rfl)⟩
theorem qvs {fuel : Nat} {cs : List Value} {x : DataW H × List MemPlace} (h : DataW.trod enc Tryz.prog w 0 sp held fuel 80 cs = some x) : ∃ r : Table, True ∧ RDs w cs (q0g r).cells := by
  obtain ⟨xs, n, _, _, hl, hx, hf⟩ := DataW.trod_struct Tryz.underlying80 h
  rw [qbd Ty.sz80] at hl
  obtain ⟨y0, hy0⟩ := qdp hx (i := 0) (by decide)
  have f0 : DataW.trod enc Tryz.prog w 0 sp held n 77 ((cs.drop 0).take (Tryz.prog.cellsOf 77)) = xs[0]? := hf 0 _ rfl
  rw [qbd Ty.sz77, hy0] at f0
  obtain ⟨a0, _, d0⟩ := qbd3 f0
  obtain ⟨y1, hy1⟩ := qdp hx (i := 1) (by decide)
  have f1 : DataW.trod enc Tryz.prog w 0 sp held n 78 ((cs.drop 5).take (Tryz.prog.cellsOf 78)) = xs[1]? := hf 1 _ rfl
  rw [qbd Ty.sz78, hy1] at f1
  obtain ⟨a1, _, d1⟩ := rdL (sz := 2) Tryz.underlying78 (qbd Ty.sz104) (by decide) (fun _ => rfl) (fun _ _ _ h => qbij h) f1
  exact ⟨⟨a0, a1⟩, trivial, (RDs.join d0 (RDs.join d1 (RDs.last hl) rfl) rfl)⟩
end
end Go.Ev
