/- Tools and contracts under the laws of this seat: DyT, DevRead, DevReadT35z. -/
import Derived.Test.YtkgkgcojfocomaaGreatE11
import Derived.Test.YtkgkgcojfocomaaGreatE12
import Derived.Test.YtkgkgcojfocomaaGreatE13
import Derived.Test.YtkgkgcojfocomaaGreatE15
import Derived.Test.YtkgkgcojfocomaaGreatE16
import Derived.Test.YtkgkgcojfocomaaGreatE17
import Derived.Test.YtkgkgcojfocomaaGreatE18
import Derived.Test.YtkgkgcojfocomaaGreatE19
import Derived.Test.YtkgkgcojfocomaaGreatE20
import Derived.Test.YtkgkgcojfocomaaGreatE21
import Derived.Test.YtkgkgcojfocomaaGreatE22
import Derived.Test.YtkgkgcojfocomaaGreatE23
import Derived.Test.YtkgkgcojfocomaaGreatE24
import Derived.Test.YtkgkgcojfocomaaGreatE26
import Derived.Test.YtkgkgcojfocomaaGreatE02
import Derived.ProofKit
import Derived.ChangeArms
import Derived.Test.YtkgkgcojfocomaaGreatE03
import Derived.Test.YtkgkgcojfocomaaGreatE05
set_option linter.unusedVariables false
set_option linter.unusedSimpArgs false
namespace Go.Ev
open Go.Proofs Ty
set_option maxRecDepth 10000
set_option maxHeartbeats 4000000
set_option linter.unusedSimpArgs false
set_option linter.unusedVariables false
theorem qbg9 : TabOk Tryz.prog q4z := TabOk.add (f := 41) (e := e41) ((TabOk.nil _)) ⟨_, Tryz.func41, rfl, rfl⟩ (fun args p r h hp => by
  unfold e41 at h; split at h
  · cases h; exact qbvi (q0s (TabOk.nil _) follows) _ _ _
  · cases h)
theorem qbad : TabOk Tryz.prog qyz := TabOk.add (f := 100) (e := e100) (qbg9) ⟨_, Tryz.func100, rfl, rfl⟩ (fun args p r h hp => by
  unfold e100 at h; split at h
  · cases h; exact qbp1 (q0s qbg9 follows) _ _ _
  · cases h)
theorem qbha : TabOk Tryz.prog q40 := TabOk.add (f := 76) (e := e76) (qbad) ⟨_, Tryz.func76, rfl, rfl⟩ (fun args p r h hp => by
  unfold e76 at h; split at h
  · cases h; exact qbvj (q0s qbad follows) _
  · cases h)
theorem qbhb : TabOk Tryz.prog q41 := TabOk.add (f := 81) (e := e81) (qbha) ⟨_, Tryz.func81, rfl, rfl⟩ (fun args p r h hp => by
  unfold e81 at h; split at h
  · cases h; exact qbvk (q0s qbha follows) _
  · cases h)
theorem qbhc : TabOk Tryz.prog q42 := TabOk.add (f := 82) (e := e82) (qbhb) ⟨_, Tryz.func82, rfl, rfl⟩ (fun args p r h hp => by
  unfold e82 at h; split at h
  · cases h; exact qbvl (q0s qbhb follows) _
  · cases h)
theorem qbhd : TabOk Tryz.prog q43 := TabOk.add (f := 51) (e := e51) (qbhc) ⟨_, Tryz.func51, rfl, rfl⟩ (fun args p r h hp => by
  unfold e51 at h; split at h
  · cases h; exact qbvm (q0s qbhc follows) _
  · cases h)
theorem qbae : TabOk Tryz.prog qy0 := TabOk.add (f := 101) (e := e101) (qbhd) ⟨_, Tryz.func101, rfl, rfl⟩ (fun args p r h hp => by
  unfold e101 at h; split at h
  · cases h; exact qbp2 (q0s qbhd follows) _
  · cases h)
theorem qbaf : TabOk Tryz.prog qy1 := TabOk.add (f := 128) (e := e128) (qbae) ⟨_, Tryz.func128, rfl, rfl⟩ (fun args p r h hp => by
  unfold e128 at h; split at h
  · split at h
    · rename_i h_c; cases h; exact (qbp3 (q0s qbae follows) _).le ⟨qew h_c, trivial⟩ (q0o _)
    · cases h
  · cases h)
theorem qbag : TabOk Tryz.prog qy2 := TabOk.add (f := 127) (e := e127) (qbaf) ⟨_, Tryz.func127, rfl, rfl⟩ (fun args p r h hp => by
  unfold e127 at h; split at h
  · split at h
    · rename_i h_e; cases h; exact (qbp4 (q0s qbaf follows) _).le ⟨q04 h_e, trivial⟩ (q0o _)
    · cases h
  · cases h)
theorem qbah : TabOk Tryz.prog qy3 := TabOk.add (f := 102) (e := e102) (qbag) ⟨_, Tryz.func102, rfl, rfl⟩ (fun args p r h hp => by
  unfold e102 at h; split at h
  · split at h
    · rename_i h_e; cases h; exact (qbp5 (q0s qbag follows) _).le ⟨q04 h_e, trivial⟩ (q0o _)
    · cases h
  · cases h)
theorem qbhe : TabOk Tryz.prog q44 := TabOk.add (f := 79) (e := e79) (qbah) ⟨_, Tryz.func79, rfl, rfl⟩ (fun args p r h hp => by
  unfold e79 at h; split at h
  · split at h
    · rename_i h_e; cases h; exact (qbvn (q0s qbah follows) _).le ⟨q04 h_e, trivial⟩ (q0o _)
    · cases h
  · cases h)
theorem qbhf : TabOk Tryz.prog q45 := TabOk.add (f := 33) (e := e33) (qbhe) ⟨_, Tryz.func33, rfl, rfl⟩ (fun args p r h hp => by
  unfold e33 at h; split at h
  · split at h
    · rename_i h_l; cases h; exact (qbvo (q0s qbhe follows) _).le ⟨q0y q04 h_l, trivial⟩ (q0o _)
    · cases h
  · cases h)
theorem qbhg : TabOk Tryz.prog q46 := TabOk.add (f := 86) (e := e86) (qbhf) ⟨_, Tryz.func86, rfl, rfl⟩ (fun args p r h hp => by
  unfold e86 at h; split at h
  · split at h
    · rename_i h_l; cases h; exact (qbvp (q0s qbhf follows) _ _ hp).le ⟨q0y q04 h_l, q01 _, trivial⟩ (q0o _)
    · cases h
  · cases h)
theorem qbhh : TabOk Tryz.prog q47 := TabOk.add (f := 87) (e := e87) (qbhg) ⟨_, Tryz.func87, rfl, rfl⟩ (fun args p r h hp => by
  unfold e87 at h; split at h
  · split at h
    · rename_i h_l; cases h; exact (qbvq (q0s qbhg follows) _ _ hp).le ⟨q0y q04 h_l, q01 _, trivial⟩ (q0o _)
    · cases h
  · cases h)
theorem qbhi : TabOk Tryz.prog q48 := TabOk.add (f := 57) (e := e57) (qbhh) ⟨_, Tryz.func57, rfl, rfl⟩ (fun args p r h hp => by
  unfold e57 at h; split at h
  · split at h
    · rename_i h_l; cases h; exact (qbvr (q0s qbhh follows) _ _ hp).le ⟨q0y q04 h_l, q01 _, trivial⟩ (q0o _)
    · cases h
  · cases h)
theorem qbai : TabOk Tryz.prog qy4 := TabOk.add (f := 103) (e := e103) (qbhi) ⟨_, Tryz.func103, rfl, rfl⟩ (fun args p r h hp => by
  unfold e103 at h; split at h
  · split at h
    · rename_i h_l h_e; cases h; exact (qbp6 (q0s qbhi follows) _ _ hp).le ⟨q0y q04 h_l, q04 h_e, trivial⟩ (q0o _)
    · cases h
  · cases h)
theorem qbhj : TabOk Tryz.prog q49 := TabOk.add (f := 80) (e := e80) (qbai) ⟨_, Tryz.func80, rfl, rfl⟩ (fun args p r h hp => by
  unfold e80 at h; split at h
  · split at h
    · rename_i h_l; cases h; exact (qbvs (q0s qbai follows) _ hp).le ⟨q0y q04 h_l, trivial⟩ (q0o _)
    · cases h
  · cases h)
theorem qbhk : TabOk Tryz.prog q5a := TabOk.add (f := 50) (e := e50) (qbhj) ⟨_, Tryz.func50, rfl, rfl⟩ (fun args p r h hp => by
  unfold e50 at h; split at h
  · split at h
    · rename_i h_l; cases h; exact (qbvt (q0s qbhj follows) _ hp).le ⟨q0y q04 h_l, trivial⟩ (q0o _)
    · cases h
  · cases h)
theorem qbhl : TabOk Tryz.prog q5b := TabOk.add (f := 61) (e := e61) (qbhk) ⟨_, Tryz.func61, rfl, rfl⟩ (fun args p r h hp => by
  unfold e61 at h; split at h
  · split at h
    · rename_i h_l; cases h; exact (qbvu (q0s qbhk follows) _ hp).le ⟨q0y q04 h_l, trivial⟩ (q0o _)
    · cases h
  · cases h)
theorem qbhm : TabOk Tryz.prog q5c := TabOk.add (f := 46) (e := e46) (qbhl) ⟨_, Tryz.func46, rfl, rfl⟩ (fun args p r h hp => by
  unfold e46 at h; split at h
  · split at h
    · rename_i h_l; cases h; exact (qbvv (q0s qbhl follows) _ hp).le ⟨q0y q04 h_l, trivial⟩ (q0o _)
    · cases h
  · cases h)
theorem qbhn : TabOk Tryz.prog q5d := TabOk.add (f := 12) (e := e12) (qbhm) ⟨_, Tryz.func12, rfl, rfl⟩ (fun args p r h hp => by
  unfold e12 at h; split at h
  · split at h
    · rename_i h_l; cases h; exact (qbvw (q0s qbhm follows) _ hp).le ⟨q0y q04 h_l, trivial⟩ (q0o _)
    · cases h
  · cases h)
theorem qbho : TabOk Tryz.prog q5e := TabOk.add (f := 28) (e := e28) (qbhn) ⟨_, Tryz.func28, rfl, rfl⟩ (fun args p r h hp => by
  unfold e28 at h; split at h
  · split at h
    · rename_i h_l; cases h; exact (qbvx (q0s qbhn follows) _ hp).le ⟨q0y q04 h_l, trivial⟩ (q0o _)
    · cases h
  · cases h)
theorem qbhp : TabOk Tryz.prog q5h := TabOk.add (f := 30) (e := e30) (qbho) ⟨_, Tryz.func30, rfl, rfl⟩ (fun args p r h hp => by
  unfold e30 at h; split at h
  · split at h
    · rename_i h_a h_b; cases h; exact (qbvy (q0s qbho follows) _ _ hp).le ⟨q0y qr7 h_a, q0y qr7 h_b, trivial⟩ (q0o _)
    · cases h
  · cases h)
theorem qbhq : TabOk Tryz.prog q5i := TabOk.add (f := 31) (e := e31) (qbhp) ⟨_, Tryz.func31, rfl, rfl⟩ (fun args p r h hp => by
  unfold e31 at h; split at h
  · split at h
    · rename_i h_a h_b; cases h; exact (qbvz (q0s qbhp follows) _ _ hp).le ⟨q0y q3a h_a, q0y q3a h_b, trivial⟩ (q0o _)
    · cases h
  · cases h)
theorem qbhr : TabOk Tryz.prog q5j := TabOk.add (f := 47) (e := e47) (qbhq) ⟨_, Tryz.func47, rfl, rfl⟩ (fun args p r h hp => by
  unfold e47 at h; split at h
  · cases h; exact qbv0 (q0s qbhq follows) _
  · cases h)
theorem qbhs : TabOk Tryz.prog q5k := TabOk.add (f := 29) (e := e29) (qbhr) ⟨_, Tryz.func29, rfl, rfl⟩ (fun args p r h hp => by
  unfold e29 at h; split at h
  · split at h
    · rename_i h_l; cases h; exact (qbv1 (q0s qbhr follows) _ _ _ hp).le ⟨q0y q04 h_l, q01 _, q01 _, trivial⟩ (q0o _)
    · cases h
  · cases h)
theorem tok8 : TabOk Tryz.prog tab8 := TabOk.add (f := 8) (e := e8) (qbhs) ⟨_, Tryz.func8, rfl, rfl⟩ (fun args p r h hp => by
  unfold e8 at h; split at h
  · cases h; exact con8 (q0s qbhs follows) 
  · cases h)
theorem qbaj : TabOk Tryz.prog qy6 := TabOk.add (f := 185) (e := e185) (tok8) ⟨_, Tryz.func185, rfl, rfl⟩ (fun args p r h hp => by
  unfold e185 at h; split at h
  · cases h; exact qbp8 (q0s tok8 follows) _ _ _
  · cases h)
theorem qbak : TabOk Tryz.prog qy7 := TabOk.add (f := 187) (e := e187) (qbaj) ⟨_, Tryz.func187, rfl, rfl⟩ (fun args p r h hp => by
  unfold e187 at h; split at h
  · cases h; exact qbp9 (q0s qbaj follows) _ _
  · cases h)
theorem qbal : TabOk Tryz.prog qy8 := TabOk.add (f := 186) (e := e186) (qbak) ⟨_, Tryz.func186, rfl, rfl⟩ (fun args p r h hp => by
  unfold e186 at h; split at h
  · split at h
    · rename_i h_l; cases h; exact (qbqa (q0s qbak follows) _ hp).le ⟨q0y qho h_l, trivial⟩ (q0o _)
    · cases h
  · cases h)
theorem qbam : TabOk Tryz.prog qy9 := TabOk.add (f := 119) (e := e119) (qbal) ⟨_, Tryz.func119, rfl, rfl⟩ (fun args p r h hp => by
  unfold e119 at h; split at h
  · cases h; exact qbqb (q0s qbal follows) _ _
  · cases h)
theorem qban : TabOk Tryz.prog qza := TabOk.add (f := 117) (e := e117) (qbam) ⟨_, Tryz.func117, rfl, rfl⟩ (fun args p r h hp => by
  unfold e117 at h; split at h
  · split at h
    · rename_i h_l; cases h; exact (qbqc (q0s qbam follows) _ hp).le ⟨q0y qho h_l, trivial⟩ (q0o _)
    · cases h
  · cases h)
theorem qbao : TabOk Tryz.prog qzb := TabOk.add (f := 152) (e := e152) (qban) ⟨_, Tryz.func152, rfl, rfl⟩ (fun args p r h hp => by
  unfold e152 at h; split at h
  · cases h; exact qbqd (q0s qban follows) _
  · cases h)
theorem qbap : TabOk Tryz.prog qzc := TabOk.add (f := 172) (e := e172) (qbao) ⟨_, Tryz.func172, rfl, rfl⟩ (fun args p r h hp => by
  unfold e172 at h; split at h
  · split at h
    · rename_i h_t; cases h; exact (qbqe (q0s qbao follows) _).le ⟨qe9 h_t, trivial⟩ (q0o _)
    · cases h
  · cases h)
theorem qbaq : TabOk Tryz.prog qzd := TabOk.add (f := 188) (e := e188) (qbap) ⟨_, Tryz.func188, rfl, rfl⟩ (fun args p r h hp => by
  unfold e188 at h; split at h
  · split at h
    · rename_i h_t; cases h; exact (qbqf (q0s qbap follows) _ hp).le ⟨qe9 h_t, trivial⟩ (q0o _)
    · cases h
  · cases h)
theorem qbar : TabOk Tryz.prog qze := TabOk.add (f := 173) (e := e173) (qbaq) ⟨_, Tryz.func173, rfl, rfl⟩ (fun args p r h hp => by
  unfold e173 at h; split at h
  · split at h
    · rename_i h_t; cases h; exact (qbqg (q0s qbaq follows) _).le ⟨qe9 h_t, trivial⟩ (q0o _)
    · cases h
  · cases h)
theorem qbas : TabOk Tryz.prog qzf := TabOk.add (f := 197) (e := e197) (qbar) ⟨_, Tryz.func197, rfl, rfl⟩ (fun args p r h hp => by
  unfold e197 at h; split at h
  · cases h; exact qbqh (q0s qbar follows) _
  · cases h)
theorem qbat : TabOk Tryz.prog qzg := TabOk.add (f := 190) (e := e190) (qbas) ⟨_, Tryz.func190, rfl, rfl⟩ (fun args p r h hp => by
  unfold e190 at h; split at h
  · split at h
    · rename_i h_t h_v; cases h; exact (qbqi (q0s qbas follows) _ _).le ⟨qe9 h_t, q83 h_v, trivial⟩ (q0o _)
    · cases h
  · cases h)
theorem qbau : TabOk Tryz.prog qzh := TabOk.add (f := 189) (e := e189) (qbat) ⟨_, Tryz.func189, rfl, rfl⟩ (fun args p r h hp => by
  unfold e189 at h; split at h
  · cases h; exact qbqj (q0s qbat follows) _ hp
  · cases h)
theorem qbav : TabOk Tryz.prog qzi := TabOk.add (f := 198) (e := e198) (qbau) ⟨_, Tryz.func198, rfl, rfl⟩ (fun args p r h hp => by
  unfold e198 at h; split at h
  · split at h
    · rename_i h_t; cases h; exact (qbqk (q0s qbau follows) _ _ hp).le ⟨qe9 h_t, q01 _, trivial⟩ (q0o _)
    · cases h
  · cases h)
theorem qbaw : TabOk Tryz.prog qzj := TabOk.add (f := 191) (e := e191) (qbav) ⟨_, Tryz.func191, rfl, rfl⟩ (fun args p r h hp => by
  unfold e191 at h; split at h
  · split at h
    · rename_i h_t; cases h; exact (qbql (q0s qbav follows) _ _ hp).le ⟨qe9 h_t, q01 _, trivial⟩ (q0o _)
    · cases h
  · cases h)
theorem qbax : TabOk Tryz.prog qzk := TabOk.add (f := 174) (e := e174) (qbaw) ⟨_, Tryz.func174, rfl, rfl⟩ (fun args p r h hp => by
  unfold e174 at h; split at h
  · split at h
    · rename_i h_t; cases h; exact (qbqm (q0s qbaw follows) _ _).le ⟨qe9 h_t, q01 _, trivial⟩ (q0o _)
    · cases h
  · cases h)
theorem qbay : TabOk Tryz.prog qzo := TabOk.add (f := 163) (e := e163) (qbax) ⟨_, Tryz.func163, rfl, rfl⟩ (fun args p r h hp => by
  unfold e163 at h; split at h
  · split at h
    · rename_i h_x; cases h; exact (qbqn (q0s qbax follows) _).le ⟨qj2 h_x, trivial⟩ (q0o _)
    · cases h
  · cases h)
theorem qbaz : TabOk Tryz.prog qzp := TabOk.add (f := 154) (e := e154) (qbay) ⟨_, Tryz.func154, rfl, rfl⟩ (fun args p r h hp => by
  unfold e154 at h; split at h
  · split at h
    · rename_i h_f; cases h; exact (qbqo (q0s qbay follows) _ _ hp).le ⟨qdv h_f, q01 _, trivial⟩ (q0o _)
    · cases h
  · cases h)
theorem qba0 : TabOk Tryz.prog qzq := TabOk.add (f := 164) (e := e164) (qbaz) ⟨_, Tryz.func164, rfl, rfl⟩ (fun args p r h hp => by
  unfold e164 at h; split at h
  · split at h
    · rename_i h_f; cases h; exact (qbqp (q0s qbaz follows) _ hp).le ⟨qdv h_f, trivial⟩ (q0o _)
    · cases h
  · cases h)
theorem qba1 : TabOk Tryz.prog qzr := TabOk.add (f := 162) (e := e162) (qba0) ⟨_, Tryz.func162, rfl, rfl⟩ (fun args p r h hp => by
  unfold e162 at h; split at h
  · split at h
    · rename_i h_f; cases h; exact (qbqq (q0s qba0 follows) _ hp).le ⟨qdv h_f, trivial⟩ (q0o _)
    · cases h
  · cases h)
theorem qba2 : TabOk Tryz.prog qzs := TabOk.add (f := 153) (e := e153) (qba1) ⟨_, Tryz.func153, rfl, rfl⟩ (fun args p r h hp => by
  unfold e153 at h; split at h
  · split at h
    · rename_i h_f; cases h; exact (qbqr (q0s qba1 follows) _ hp).le ⟨qdv h_f, trivial⟩ (q0o _)
    · cases h
  · cases h)
theorem qba3 : TabOk Tryz.prog qzt := TabOk.add (f := 136) (e := e136) (qba2) ⟨_, Tryz.func136, rfl, rfl⟩ (fun args p r h hp => by
  unfold e136 at h; split at h
  · split at h
    · rename_i h_f; cases h; exact (qbqs (q0s qba2 follows) _ hp).le ⟨qg3 h_f, trivial⟩ (q0o _)
    · cases h
  · cases h)
theorem qba4 : TabOk Tryz.prog qzu := TabOk.add (f := 118) (e := e118) (qba3) ⟨_, Tryz.func118, rfl, rfl⟩ (fun args p r h hp => by
  unfold e118 at h; split at h
  · split at h
    · rename_i h_f; cases h; exact (qbqt (q0s qba3 follows) _ hp).le ⟨qg3 h_f, trivial⟩ (q0o _)
    · cases h
  · cases h)
theorem qba5 : TabOk Tryz.prog qzv := TabOk.add (f := 165) (e := e165) (qba4) ⟨_, Tryz.func165, rfl, rfl⟩ (fun args p r h hp => by
  unfold e165 at h; split at h
  · split at h
    · rename_i h_f; cases h; exact (qbqu (q0s qba4 follows) _ _ hp).le ⟨qdv h_f, q01 _, trivial⟩ (q0o _)
    · cases h
  · cases h)
theorem qba6 : TabOk Tryz.prog qzw := TabOk.add (f := 155) (e := e155) (qba5) ⟨_, Tryz.func155, rfl, rfl⟩ (fun args p r h hp => by
  unfold e155 at h; split at h
  · split at h
    · rename_i h_f; cases h; exact (qbqv (q0s qba5 follows) _ _ hp).le ⟨qdv h_f, q01 _, trivial⟩ (q0o _)
    · cases h
  · cases h)
theorem qba7 : TabOk Tryz.prog qzx := TabOk.add (f := 137) (e := e137) (qba6) ⟨_, Tryz.func137, rfl, rfl⟩ (fun args p r h hp => by
  unfold e137 at h; split at h
  · split at h
    · rename_i h_f; cases h; exact (qbqw (q0s qba6 follows) _ _ hp).le ⟨qdv h_f, q01 _, trivial⟩ (q0o _)
    · cases h
  · cases h)
theorem qba8 : TabOk Tryz.prog qzy := TabOk.add (f := 120) (e := e120) (qba7) ⟨_, Tryz.func120, rfl, rfl⟩ (fun args p r h hp => by
  unfold e120 at h; split at h
  · split at h
    · rename_i h_f; cases h; exact (qbqx (q0s qba7 follows) _ _ hp).le ⟨qdv h_f, q01 _, trivial⟩ (q0o _)
    · cases h
  · cases h)
theorem qbht : TabOk Tryz.prog q5s := TabOk.add (f := 90) (e := e90) (qba8) ⟨_, Tryz.func90, rfl, rfl⟩ (fun args p r h hp => by
  unfold e90 at h; split at h
  · split at h
    · rename_i h_t; cases h; exact (qbv2 (q0s qba8 follows) _ hp).le ⟨q00 h_t, trivial⟩ (q0o _)
    · cases h
  · cases h)
theorem qba9 : TabOk Tryz.prog qzz := TabOk.add (f := 121) (e := e121) (qbht) ⟨_, Tryz.func121, rfl, rfl⟩ (fun args p r h hp => by
  unfold e121 at h; split at h
  · split at h
    · rename_i h_t; cases h; exact (qbqy (q0s qbht follows) _ hp).le ⟨q00 h_t, trivial⟩ (q0o _)
    · cases h
  · cases h)
theorem qbhu : TabOk Tryz.prog q5t := TabOk.add (f := 66) (e := e66) (qba9) ⟨_, Tryz.func66, rfl, rfl⟩ (fun args p r h hp => by
  unfold e66 at h; split at h
  · split at h
    · rename_i h_l; cases h; exact (qbv3 (q0s qba9 follows) _ hp).le ⟨q0y qj2 h_l, trivial⟩ (q0o _)
    · cases h
  · cases h)
theorem qbhv : TabOk Tryz.prog q5u := TabOk.add (f := 67) (e := e67) (qbhu) ⟨_, Tryz.func67, rfl, rfl⟩ (fun args p r h hp => by
  unfold e67 at h; split at h
  · split at h
    · rename_i h_l; cases h; exact (qbv4 (q0s qbhu follows) _ hp).le ⟨q0y qnd h_l, trivial⟩ (q0o _)
    · cases h
  · cases h)
theorem qbhw : TabOk Tryz.prog q5v := TabOk.add (f := 68) (e := e68) (qbhv) ⟨_, Tryz.func68, rfl, rfl⟩ (fun args p r h hp => by
  unfold e68 at h; split at h
  · split at h
    · rename_i h_l; cases h; exact (qbv5 (q0s qbhv follows) _ hp).le ⟨q0y qkp h_l, trivial⟩ (q0o _)
    · cases h
  · cases h)
theorem qbba : TabOk Tryz.prog qz2 := TabOk.add (f := 122) (e := e122) (qbhw) ⟨_, Tryz.func122, rfl, rfl⟩ (fun args p r h hp => by
  unfold e122 at h; split at h
  · split at h
    · rename_i h_t h_c; cases h; exact (qbqz (q0s qbhw follows) _ _ hp).le ⟨q00 h_t, qew h_c, trivial⟩ (q0o _)
    · cases h
  · cases h)
theorem qbhx : TabOk Tryz.prog q5w := TabOk.add (f := 93) (e := e93) (qbba) ⟨_, Tryz.func93, rfl, rfl⟩ (fun args p r h hp => by
  unfold e93 at h; split at h
  · split at h
    · rename_i h_t h_c; cases h; exact (qbv6 (q0s qbba follows) _ _ hp).le ⟨q00 h_t, qew h_c, trivial⟩ (q0o _)
    · cases h
  · cases h)
theorem qbhy : TabOk Tryz.prog q5x := TabOk.add (f := 94) (e := e94) (qbhx) ⟨_, Tryz.func94, rfl, rfl⟩ (fun args p r h hp => by
  unfold e94 at h; split at h
  · split at h
    · rename_i h_t h_r; cases h; exact (qbv7 (q0s qbhx follows) _ _ _ hp).le ⟨q00 h_t, q01 _, qkp h_r, trivial⟩ (q0o _)
    · cases h
  · cases h)
theorem qbhz : TabOk Tryz.prog q5y := TabOk.add (f := 70) (e := e70) (qbhy) ⟨_, Tryz.func70, rfl, rfl⟩ (fun args p r h hp => by
  unfold e70 at h; split at h
  · split at h
    · rename_i h_t h_c; cases h; exact (qbv8 (q0s qbhy follows) _ _ hp).le ⟨q00 h_t, qew h_c, trivial⟩ (q0o _)
    · cases h
  · cases h)
theorem qbh0 : TabOk Tryz.prog q5z := TabOk.add (f := 71) (e := e71) (qbhz) ⟨_, Tryz.func71, rfl, rfl⟩ (fun args p r h hp => by
  unfold e71 at h; split at h
  · split at h
    · rename_i h_c; cases h; exact (qbv9 (q0s qbhz follows) _).le ⟨qew h_c, trivial⟩ (q0o _)
    · cases h
  · cases h)
theorem qbh1 : TabOk Tryz.prog q53 := TabOk.add (f := 92) (e := e92) (qbh0) ⟨_, Tryz.func92, rfl, rfl⟩ (fun args p r h hp => by
  unfold e92 at h; split at h
  · split at h
    · rename_i h_t; cases h; exact (qbwa (q0s qbh0 follows) _ _).le ⟨q00 h_t, q01 _, trivial⟩ (q0o _)
    · cases h
  · cases h)
theorem qbh2 : TabOk Tryz.prog q54 := TabOk.add (f := 91) (e := e91) (qbh1) ⟨_, Tryz.func91, rfl, rfl⟩ (fun args p r h hp => by
  unfold e91 at h; split at h
  · split at h
    · rename_i h_l; cases h; exact (qbwb (q0s qbh1 follows) _ _ hp).le ⟨q0y q00 h_l, q01 _, trivial⟩ (q0o _)
    · cases h
  · cases h)
theorem qbh3 : TabOk Tryz.prog q55 := TabOk.add (f := 69) (e := e69) (qbh2) ⟨_, Tryz.func69, rfl, rfl⟩ (fun args p r h hp => by
  unfold e69 at h; split at h
  · split at h
    · rename_i h_l; cases h; exact (qbwc (q0s qbh2 follows) _ _ hp).le ⟨q0y q00 h_l, q01 _, trivial⟩ (q0o _)
    · cases h
  · cases h)
theorem qbh4 : TabOk Tryz.prog q56 := TabOk.add (f := 65) (e := e65) (qbh3) ⟨_, Tryz.func65, rfl, rfl⟩ (fun args p r h hp => by
  unfold e65 at h; split at h
  · split at h
    · rename_i h_l; cases h; exact (qbwd (q0s qbh3 follows) _ hp).le ⟨q0y q00 h_l, trivial⟩ (q0o _)
    · cases h
  · cases h)
theorem qbh5 : TabOk Tryz.prog q57 := TabOk.add (f := 37) (e := e37) (qbh4) ⟨_, Tryz.func37, rfl, rfl⟩ (fun args p r h hp => by
  unfold e37 at h; split at h
  · split at h
    · rename_i h_x; cases h; exact (qbwe (q0s qbh4 follows) _ _).le ⟨q04 h_x, q01 _, trivial⟩ (q0o _)
    · cases h
  · cases h)
theorem qbh6 : TabOk Tryz.prog q58 := TabOk.add (f := 44) (e := e44) (qbh5) ⟨_, Tryz.func44, rfl, rfl⟩ (fun args p r h hp => by
  unfold e44 at h; split at h
  · split at h
    · rename_i h_x; cases h; exact (qbwf (q0s qbh5 follows) _ _).le ⟨q04 h_x, q01 _, trivial⟩ (q0o _)
    · cases h
  · cases h)
theorem qbh7 : TabOk Tryz.prog q59 := TabOk.add (f := 34) (e := e34) (qbh6) ⟨_, Tryz.func34, rfl, rfl⟩ (fun args p r h hp => by
  unfold e34 at h; split at h
  · split at h
    · rename_i h_ts h_l; cases h; exact (qbwg (q0s qbh6 follows) _ _ hp).le ⟨q0y q00 h_ts, q0y q04 h_l, trivial⟩ (q0o _)
    · cases h
  · cases h)
theorem qbh8 : TabOk Tryz.prog q6b := TabOk.add (f := 36) (e := e36) (qbh7) ⟨_, Tryz.func36, rfl, rfl⟩ (fun args p r h hp => by
  unfold e36 at h; split at h
  · split at h
    · rename_i h_l h_w; cases h; exact (qbwi (q0s qbh7 follows) _ _ _ hp).le ⟨q0y q04 h_l, q01 _, q52 h_w, trivial⟩ (q0o _)
    · cases h
  · cases h)
theorem qbh9 : TabOk Tryz.prog q6c := TabOk.add (f := 35) (e := e35) (qbh8) ⟨_, Tryz.func35, rfl, rfl⟩ (fun args p r h hp => by
  unfold e35 at h; split at h
  · split at h
    · rename_i h_ts h_cs; cases h; exact (qbwj (q0s qbh8 follows) _ _ hp).le ⟨q0y q00 h_ts, q0y qew h_cs, trivial⟩ (q0o _)
    · cases h
  · cases h)
theorem qbia : TabOk Tryz.prog q6d := TabOk.add (f := 10) (e := e10) (qbh9) ⟨_, Tryz.func10, rfl, rfl⟩ (fun args p r h hp => by
  unfold e10 at h; split at h
  · split at h
    · rename_i h_ts h_l; cases h; exact (qbwk (q0s qbh9 follows) _ _ _ hp).le ⟨q0y q00 h_ts, q0y q04 h_l, q01 _, trivial⟩ (q0o _)
    · cases h
  · cases h)
theorem qbib : TabOk Tryz.prog q6e := TabOk.add (f := 15) (e := e15) (qbia) ⟨_, Tryz.func15, rfl, rfl⟩ (fun args p r h hp => by
  unfold e15 at h; split at h
  · split at h
    · rename_i h_ts h_l; cases h; exact (qbwl (q0s qbia follows) _ _ _ hp).le ⟨q0y q00 h_ts, q0y q04 h_l, q01 _, trivial⟩ (q0o _)
    · cases h
  · cases h)
theorem qbic : TabOk Tryz.prog q6f := TabOk.add (f := 95) (e := e95) (qbib) ⟨_, Tryz.func95, rfl, rfl⟩ (fun args p r h hp => by
  unfold e95 at h; split at h
  · split at h
    · rename_i h_f; cases h; exact (qbwm (q0s qbib follows) _ hp).le ⟨qdv h_f, trivial⟩ (q0o _)
    · cases h
  · cases h)
theorem qbid : TabOk Tryz.prog q6g := TabOk.add (f := 73) (e := e73) (qbic) ⟨_, Tryz.func73, rfl, rfl⟩ (fun args p r h hp => by
  unfold e73 at h; split at h
  · split at h
    · rename_i h_f; cases h; exact (qbwn (q0s qbic follows) _ hp).le ⟨qg3 h_f, trivial⟩ (q0o _)
    · cases h
  · cases h)
theorem qbie : TabOk Tryz.prog q6h := TabOk.add (f := 38) (e := e38) (qbid) ⟨_, Tryz.func38, rfl, rfl⟩ (fun args p r h hp => by
  unfold e38 at h; split at h
  · split at h
    · rename_i h_t; cases h; exact (qbwo (q0s qbid follows) _ hp).le ⟨q00 h_t, trivial⟩ (q0o _)
    · cases h
  · cases h)
theorem qbif : TabOk Tryz.prog q6i := TabOk.add (f := 11) (e := e11) (qbie) ⟨_, Tryz.func11, rfl, rfl⟩ (fun args p r h hp => by
  unfold e11 at h; split at h
  · split at h
    · rename_i h_ts; cases h; exact (qbwp (q0s qbie follows) _ hp).le ⟨q0y q00 h_ts, trivial⟩ (q0o _)
    · cases h
  · cases h)
theorem qbig : TabOk Tryz.prog q6j := TabOk.add (f := 99) (e := e99) (qbif) ⟨_, Tryz.func99, rfl, rfl⟩ (fun args p r h hp => by
  unfold e99 at h; split at h
  · split at h
    · rename_i h_a h_b; cases h; exact (qbwq (q0s qbif follows) _ _ hp).le ⟨q0y qkp h_a, q0y qkp h_b, trivial⟩ (q0o _)
    · cases h
  · cases h)
theorem qbbb : TabOk Tryz.prog qz7 := TabOk.add (f := 126) (e := e126) (qbig) ⟨_, Tryz.func126, rfl, rfl⟩ (fun args p r h hp => by
  unfold e126 at h; split at h
  · split at h
    · rename_i h_a h_b; cases h; exact (qbq0 (q0s qbig follows) _ _ hp).le ⟨qdv h_a, qdv h_b, trivial⟩ (q0o _)
    · cases h
  · cases h)
theorem qbih : TabOk Tryz.prog q6k := TabOk.add (f := 98) (e := e98) (qbbb) ⟨_, Tryz.func98, rfl, rfl⟩ (fun args p r h hp => by
  unfold e98 at h; split at h
  · split at h
    · rename_i h_a h_b; cases h; exact (qbwr (q0s qbbb follows) _ _ hp).le ⟨qg3 h_a, qg3 h_b, trivial⟩ (q0o _)
    · cases h
  · cases h)
theorem qbii : TabOk Tryz.prog q6l := TabOk.add (f := 78) (e := e78) (qbih) ⟨_, Tryz.func78, rfl, rfl⟩ (fun args p r h hp => by
  unfold e78 at h; split at h
  · split at h
    · rename_i h_a h_b; cases h; exact (qbws (q0s qbih follows) _ _ hp).le ⟨q00 h_a, q00 h_b, trivial⟩ (q0o _)
    · cases h
  · cases h)
theorem qbij : TabOk Tryz.prog q6m := TabOk.add (f := 64) (e := e64) (qbii) ⟨_, Tryz.func64, rfl, rfl⟩ (fun args p r h hp => by
  unfold e64 at h; split at h
  · split at h
    · rename_i h_f; cases h; exact (qbwt (q0s qbii follows) _).le ⟨qdv h_f, trivial⟩ (q0o _)
    · cases h
  · cases h)
theorem qbik : TabOk Tryz.prog q6p := TabOk.add (f := 43) (e := e43) (qbij) ⟨_, Tryz.func43, rfl, rfl⟩ (fun args p r h hp => by
  unfold e43 at h; split at h
  · split at h
    · rename_i h_a h_b; cases h; exact (qbwu (q0s qbij follows) _ _ hp).le ⟨q0y q00 h_a, q0y q00 h_b, trivial⟩ (q0o _)
    · cases h
  · cases h)
theorem qbil : TabOk Tryz.prog q6q := TabOk.add (f := 32) (e := e32) (qbik) ⟨_, Tryz.func32, rfl, rfl⟩ (fun args p r h hp => by
  unfold e32 at h; split at h
  · split at h
    · rename_i h_l; cases h; exact (qbwv (q0s qbik follows) _).le ⟨q0y q00 h_l, trivial⟩ (q0o _)
    · cases h
  · cases h)
theorem tok9 : TabOk Tryz.prog tab9 := TabOk.add (f := 9) (e := e9) (qbil) ⟨_, Tryz.func9, rfl, rfl⟩ (fun args p r h hp => by
  unfold e9 at h; split at h
  · split at h
    · rename_i h_ts h_l; cases h; exact (con9 (q0s qbil follows) _ _).le ⟨q0y q00 h_ts, q0y q04 h_l, trivial⟩ (q0o _)
    · cases h
  · cases h)
theorem qbim : TabOk Tryz.prog q6t := TabOk.add (f := 60) (e := e60) (tok9) ⟨_, Tryz.func60, rfl, rfl⟩ (fun args p r h hp => by
  unfold e60 at h; split at h
  · split at h
    · rename_i h_l; cases h; exact (qbww (q0s tok9 follows) _ hp).le ⟨q0y q00 h_l, trivial⟩ (q0o _)
    · cases h
  · cases h)
theorem qbin : TabOk Tryz.prog q6u := TabOk.add (f := 27) (e := e27) (qbim) ⟨_, Tryz.func27, rfl, rfl⟩ (fun args p r h hp => by
  unfold e27 at h; split at h
  · split at h
    · rename_i h_a h_b; cases h; exact (qbwx (q0s qbim follows) _ _ hp).le ⟨q0y q00 h_a, q0y q00 h_b, trivial⟩ (q0o _)
    · cases h
  · cases h)
theorem qbbc : TabOk Tryz.prog q00h := TabOk.add (f := 179) (e := e179) (qbin) ⟨_, Tryz.func179, rfl, rfl⟩ (fun args p r h hp => by
  unfold e179 at h; split at h
  · split at h
    · rename_i h_t; cases h; exact (qbq2 (q0s qbin follows) _ hp).le ⟨qe9 h_t, trivial⟩ (q0o _)
    · cases h
  · cases h)
theorem qbbd : TabOk Tryz.prog q00i := TabOk.add (f := 180) (e := e180) (qbbc) ⟨_, Tryz.func180, rfl, rfl⟩ (fun args p r h hp => by
  unfold e180 at h; split at h
  · cases h; exact qbq3 (q0s qbbc follows) _ _ _ hp
  · cases h)
theorem qbbe : TabOk Tryz.prog q00j := TabOk.add (f := 195) (e := e195) (qbbd) ⟨_, Tryz.func195, rfl, rfl⟩ (fun args p r h hp => by
  unfold e195 at h; split at h
  · cases h; exact qbq4 (q0s qbbd follows) _ hp
  · cases h)
theorem qbbf : TabOk Tryz.prog q00k := TabOk.add (f := 194) (e := e194) (qbbe) ⟨_, Tryz.func194, rfl, rfl⟩ (fun args p r h hp => by
  unfold e194 at h; split at h
  · cases h; exact qbq5 (q0s qbbe follows) _
  · cases h)
theorem qbbg : TabOk Tryz.prog q00l := TabOk.add (f := 196) (e := e196) (qbbf) ⟨_, Tryz.func196, rfl, rfl⟩ (fun args p r h hp => by
  unfold e196 at h; split at h
  · cases h; exact qbq6 (q0s qbbf follows) _ _
  · cases h)
theorem qbbh : TabOk Tryz.prog q00m := TabOk.add (f := 178) (e := e178) (qbbg) ⟨_, Tryz.func178, rfl, rfl⟩ (fun args p r h hp => by
  unfold e178 at h; split at h
  · split at h
    · rename_i h_t; cases h; exact (qbq7 (q0s qbbg follows) _).le ⟨qe9 h_t, trivial⟩ (q0o _)
    · cases h
  · cases h)
theorem qbbi : TabOk Tryz.prog q00n := TabOk.add (f := 181) (e := e181) (qbbh) ⟨_, Tryz.func181, rfl, rfl⟩ (fun args p r h hp => by
  unfold e181 at h; split at h
  · split at h
    · rename_i h_t; cases h; exact (qbq8 (q0s qbbh follows) _ hp).le ⟨qe9 h_t, trivial⟩ (q0o _)
    · cases h
  · cases h)
theorem qbbj : TabOk Tryz.prog q00o := TabOk.add (f := 182) (e := e182) (qbbi) ⟨_, Tryz.func182, rfl, rfl⟩ (fun args p r h hp => by
  unfold e182 at h; split at h
  · cases h; exact qbq9 (q0s qbbi follows) _ hp
  · cases h)
theorem qbbk : TabOk Tryz.prog q00p := TabOk.add (f := 183) (e := e183) (qbbj) ⟨_, Tryz.func183, rfl, rfl⟩ (fun args p r h hp => by
  unfold e183 at h; split at h
  · split at h
    · rename_i h_t; cases h; exact (qbra (q0s qbbj follows) _ _ hp).le ⟨qe9 h_t, q01 _, trivial⟩ (q0o _)
    · cases h
  · cases h)
theorem qbbl : TabOk Tryz.prog q00q := TabOk.add (f := 169) (e := e169) (qbbk) ⟨_, Tryz.func169, rfl, rfl⟩ (fun args p r h hp => by
  unfold e169 at h; split at h
  · split at h
    · rename_i h_t; cases h; exact (qbrb (q0s qbbk follows) _ _).le ⟨qe9 h_t, q01 _, trivial⟩ (q0o _)
    · cases h
  · cases h)
theorem qbbm : TabOk Tryz.prog q00r := TabOk.add (f := 193) (e := e193) (qbbl) ⟨_, Tryz.func193, rfl, rfl⟩ (fun args p r h hp => by
  unfold e193 at h; split at h
  · split at h
    · rename_i h_f; cases h; exact (qbrc (q0s qbbl follows) _ _ hp).le ⟨qdv h_f, q01 _, trivial⟩ (q0o _)
    · cases h
  · cases h)
theorem qbbn : TabOk Tryz.prog q00s := TabOk.add (f := 177) (e := e177) (qbbm) ⟨_, Tryz.func177, rfl, rfl⟩ (fun args p r h hp => by
  unfold e177 at h; split at h
  · split at h
    · rename_i h_f; cases h; exact (qbrd (q0s qbbm follows) _ hp).le ⟨qdv h_f, trivial⟩ (q0o _)
    · cases h
  · cases h)
theorem qbbo : TabOk Tryz.prog q00t := TabOk.add (f := 192) (e := e192) (qbbn) ⟨_, Tryz.func192, rfl, rfl⟩ (fun args p r h hp => by
  unfold e192 at h; split at h
  · split at h
    · rename_i h_f; cases h; exact (qbre (q0s qbbn follows) _ hp).le ⟨qdv h_f, trivial⟩ (q0o _)
    · cases h
  · cases h)
theorem qbbp : TabOk Tryz.prog q00u := TabOk.add (f := 175) (e := e175) (qbbo) ⟨_, Tryz.func175, rfl, rfl⟩ (fun args p r h hp => by
  unfold e175 at h; split at h
  · split at h
    · rename_i h_f; cases h; exact (qbrf (q0s qbbo follows) _ hp).le ⟨qdv h_f, trivial⟩ (q0o _)
    · cases h
  · cases h)
theorem qbbq : TabOk Tryz.prog q00v := TabOk.add (f := 176) (e := e176) (qbbp) ⟨_, Tryz.func176, rfl, rfl⟩ (fun args p r h hp => by
  unfold e176 at h; split at h
  · split at h
    · rename_i h_f; cases h; exact (qbrg (q0s qbbp follows) _ hp).le ⟨qg3 h_f, trivial⟩ (q0o _)
    · cases h
  · cases h)
theorem qbbr : TabOk Tryz.prog q00w := TabOk.add (f := 166) (e := e166) (qbbq) ⟨_, Tryz.func166, rfl, rfl⟩ (fun args p r h hp => by
  unfold e166 at h; split at h
  · split at h
    · rename_i h_f; cases h; exact (qbrh (q0s qbbq follows) _ hp).le ⟨qg3 h_f, trivial⟩ (q0o _)
    · cases h
  · cases h)
theorem qbbs : TabOk Tryz.prog q00x := TabOk.add (f := 156) (e := e156) (qbbr) ⟨_, Tryz.func156, rfl, rfl⟩ (fun args p r h hp => by
  unfold e156 at h; split at h
  · split at h
    · rename_i h_f; cases h; exact (qbri (q0s qbbr follows) _ hp).le ⟨qg3 h_f, trivial⟩ (q0o _)
    · cases h
  · cases h)
theorem qbbt : TabOk Tryz.prog q00y := TabOk.add (f := 138) (e := e138) (qbbs) ⟨_, Tryz.func138, rfl, rfl⟩ (fun args p r h hp => by
  unfold e138 at h; split at h
  · split at h
    · rename_i h_f; cases h; exact (qbrj (q0s qbbs follows) _ hp).le ⟨qg3 h_f, trivial⟩ (q0o _)
    · cases h
  · cases h)
theorem qbbu : TabOk Tryz.prog q00z := TabOk.add (f := 167) (e := e167) (qbbt) ⟨_, Tryz.func167, rfl, rfl⟩ (fun args p r h hp => by
  unfold e167 at h; split at h
  · split at h
    · rename_i h_f; cases h; exact (qbrk (q0s qbbt follows) _ hp).le ⟨qdv h_f, trivial⟩ (q0o _)
    · cases h
  · cases h)
theorem qbbv : TabOk Tryz.prog q000 := TabOk.add (f := 168) (e := e168) (qbbu) ⟨_, Tryz.func168, rfl, rfl⟩ (fun args p r h hp => by
  unfold e168 at h; split at h
  · split at h
    · rename_i h_f; cases h; exact (qbrl (q0s qbbu follows) _ hp).le ⟨qdv h_f, trivial⟩ (q0o _)
    · cases h
  · cases h)
theorem qbbw : TabOk Tryz.prog q001 := TabOk.add (f := 184) (e := e184) (qbbv) ⟨_, Tryz.func184, rfl, rfl⟩ (fun args p r h hp => by
  unfold e184 at h; split at h
  · split at h
    · rename_i h_f; cases h; exact (qbrm (q0s qbbv follows) _ _ hp).le ⟨qdv h_f, q01 _, trivial⟩ (q0o _)
    · cases h
  · cases h)
theorem qbbx : TabOk Tryz.prog q002 := TabOk.add (f := 170) (e := e170) (qbbw) ⟨_, Tryz.func170, rfl, rfl⟩ (fun args p r h hp => by
  unfold e170 at h; split at h
  · split at h
    · rename_i h_f; cases h; exact (qbrn (q0s qbbw follows) _ _ _ hp).le ⟨qdv h_f, q01 _, q01 _, trivial⟩ (q0o _)
    · cases h
  · cases h)
theorem qbby : TabOk Tryz.prog q003 := TabOk.add (f := 157) (e := e157) (qbbx) ⟨_, Tryz.func157, rfl, rfl⟩ (fun args p r h hp => by
  unfold e157 at h; split at h
  · split at h
    · rename_i h_f; cases h; exact (qbro (q0s qbbx follows) _ _ hp).le ⟨qdv h_f, q01 _, trivial⟩ (q0o _)
    · cases h
  · cases h)
theorem qbbz : TabOk Tryz.prog q004 := TabOk.add (f := 139) (e := e139) (qbby) ⟨_, Tryz.func139, rfl, rfl⟩ (fun args p r h hp => by
  unfold e139 at h; split at h
  · split at h
    · rename_i h_f; cases h; exact (qbrp (q0s qbby follows) _ _ hp).le ⟨qdv h_f, q01 _, trivial⟩ (q0o _)
    · cases h
  · cases h)
theorem qbb0 : TabOk Tryz.prog q005 := TabOk.add (f := 123) (e := e123) (qbbz) ⟨_, Tryz.func123, rfl, rfl⟩ (fun args p r h hp => by
  unfold e123 at h; split at h
  · split at h
    · rename_i h_t; cases h; exact (qbrq (q0s qbbz follows) _ hp).le ⟨q00 h_t, trivial⟩ (q0o _)
    · cases h
  · cases h)
theorem qbio : TabOk Tryz.prog q6x := TabOk.add (f := 96) (e := e96) (qbb0) ⟨_, Tryz.func96, rfl, rfl⟩ (fun args p r h hp => by
  unfold e96 at h; split at h
  · split at h
    · rename_i h_t; cases h; exact (qbwy (q0s qbb0 follows) _ hp).le ⟨q00 h_t, trivial⟩ (q0o _)
    · cases h
  · cases h)
theorem qbb1 : TabOk Tryz.prog q009 := TabOk.add (f := 140) (e := e140) (qbio) ⟨_, Tryz.func140, rfl, rfl⟩ (fun args p r h hp => by
  unfold e140 at h; split at h
  · split at h
    · rename_i h_t; cases h; exact (qbrr (q0s qbio follows) _ _ hp).le ⟨q00 h_t, q01 _, trivial⟩ (q0o _)
    · cases h
  · cases h)
theorem qbb2 : TabOk Tryz.prog q1a := TabOk.add (f := 38) (e := e38o) (qbb1) ⟨_, Tryz.func38, rfl, rfl⟩ (fun args p r h hp => by
  unfold e38o at h; split at h
  · split at h
    · rename_i h_t; cases h; exact (qbrs (q0s qbb1 follows) _ hp).le ⟨q00 h_t, trivial⟩ (q0o _)
    · cases h
  · cases h)
theorem qbb3 : TabOk Tryz.prog q1b := TabOk.add (f := 141) (e := e141) (qbb2) ⟨_, Tryz.func141, rfl, rfl⟩ (fun args p r h hp => by
  unfold e141 at h; split at h
  · split at h
    · rename_i h_t h_r; cases h; exact (qbrt (q0s qbb2 follows) _ _ _ hp).le ⟨q00 h_t, q01 _, qkp h_r, trivial⟩ (q0o _)
    · cases h
  · cases h)
theorem qbb4 : TabOk Tryz.prog q1c := TabOk.add (f := 124) (e := e124) (qbb3) ⟨_, Tryz.func124, rfl, rfl⟩ (fun args p r h hp => by
  unfold e124 at h; split at h
  · split at h
    · rename_i h_t h_c; cases h; exact (qbru (q0s qbb3 follows) _ _ hp).le ⟨q00 h_t, qew h_c, trivial⟩ (q0o _)
    · cases h
  · cases h)
theorem qbb5 : TabOk Tryz.prog q1d := TabOk.add (f := 125) (e := e125) (qbb4) ⟨_, Tryz.func125, rfl, rfl⟩ (fun args p r h hp => by
  unfold e125 at h; split at h
  · split at h
    · rename_i h_t h_c; cases h; exact (qbrv (q0s qbb4 follows) _ _ hp).le ⟨q00 h_t, qew h_c, trivial⟩ (q0o _)
    · cases h
  · cases h)
theorem qbip : TabOk Tryz.prog q60 := TabOk.add (f := 97) (e := e97) (qbb5) ⟨_, Tryz.func97, rfl, rfl⟩ (fun args p r h hp => by
  unfold e97 at h; split at h
  · split at h
    · rename_i h_t h_c; cases h; exact (qbwz (q0s qbb5 follows) _ _ hp).le ⟨q00 h_t, qew h_c, trivial⟩ (q0o _)
    · cases h
  · cases h)
theorem qbiq : TabOk Tryz.prog q61 := TabOk.add (f := 45) (e := e45) (qbip) ⟨_, Tryz.func45, rfl, rfl⟩ (fun args p r h hp => by
  unfold e45 at h; split at h
  · split at h
    · rename_i h_c; cases h; exact (qbw0 (q0s qbip follows) _).le ⟨qew h_c, trivial⟩ (q0o _)
    · cases h
  · cases h)
theorem qbir : TabOk Tryz.prog q62 := TabOk.add (f := 77) (e := e77) (qbiq) ⟨_, Tryz.func77, rfl, rfl⟩ (fun args p r h hp => by
  unfold e77 at h; split at h
  · split at h
    · rename_i h_l; cases h; exact (qbw1 (q0s qbiq follows) _ _ hp).le ⟨q0y q00 h_l, q01 _, trivial⟩ (q0o _)
    · cases h
  · cases h)
theorem qbis : TabOk Tryz.prog q63 := TabOk.add (f := 74) (e := e74) (qbir) ⟨_, Tryz.func74, rfl, rfl⟩ (fun args p r h hp => by
  unfold e74 at h; split at h
  · split at h
    · rename_i h_l; cases h; exact (qbw2 (q0s qbir follows) _ hp).le ⟨q0y q00 h_l, trivial⟩ (q0o _)
    · cases h
  · cases h)
theorem qbb6 : TabOk Tryz.prog q1e := TabOk.add (f := 38) (e := e38d) (qbis) ⟨_, Tryz.func38, rfl, rfl⟩ (fun args p r h hp => by
  unfold e38d at h; split at h
  · split at h
    · rename_i h_t; cases h; exact (qbrw (q0s qbis follows) _ hp).le ⟨q00 h_t, trivial⟩ (q0o _)
    · cases h
  · cases h)
theorem qbit : TabOk Tryz.prog q64 := TabOk.add (f := 75) (e := e75) (qbb6) ⟨_, Tryz.func75, rfl, rfl⟩ (fun args p r h hp => by
  unfold e75 at h; split at h
  · split at h
    · rename_i h_x h_c; cases h; exact (qbw3 (q0s qbb6 follows) _ _ hp).le ⟨q6y h_x, qew h_c, trivial⟩ (q0o _)
    · cases h
  · cases h)
theorem qbiu : TabOk Tryz.prog q65 := TabOk.add (f := 42) (e := e42) (qbit) ⟨_, Tryz.func42, rfl, rfl⟩ (fun args p r h hp => by
  unfold e42 at h; split at h
  · split at h
    · rename_i h_ts h_cs; cases h; exact (qbw4 (q0s qbit follows) _ _ hp).le ⟨q0y q00 h_ts, q0y qew h_cs, trivial⟩ (q0o _)
    · cases h
  · cases h)
theorem qbiv : TabOk Tryz.prog q66 := TabOk.add (f := 39) (e := e39) (qbiu) ⟨_, Tryz.func39, rfl, rfl⟩ (fun args p r h hp => by
  unfold e39 at h; split at h
  · split at h
    · rename_i h_ts h_l; cases h; exact (qbw5 (q0s qbiu follows) _ _ hp).le ⟨q0y q00 h_ts, q0y q04 h_l, trivial⟩ (q0o _)
    · cases h
  · cases h)
theorem qbiw : TabOk Tryz.prog q67 := TabOk.add (f := 40) (e := e40) (qbiv) ⟨_, Tryz.func40, rfl, rfl⟩ (fun args p r h hp => by
  unfold e40 at h; split at h
  · split at h
    · rename_i h_l; cases h; exact (qbw6 (q0s qbiv follows) _ hp).le ⟨q0y q04 h_l, trivial⟩ (q0o _)
    · cases h
  · cases h)
theorem qbix : TabOk Tryz.prog q68 := TabOk.add (f := 13) (e := e13) (qbiw) ⟨_, Tryz.func13, rfl, rfl⟩ (fun args p r h hp => by
  unfold e13 at h; split at h
  · split at h
    · rename_i h_ts h_l; cases h; exact (qbw7 (q0s qbiw follows) _ _ _ hp).le ⟨q0y q00 h_ts, q0y q04 h_l, q01 _, trivial⟩ (q0o _)
    · cases h
  · cases h)
theorem qbiy : TabOk Tryz.prog q69 := TabOk.add (f := 16) (e := e16) (qbix) ⟨_, Tryz.func16, rfl, rfl⟩ (fun args p r h hp => by
  unfold e16 at h; split at h
  · split at h
    · rename_i h_ts h_l; cases h; exact (qbw8 (q0s qbix follows) _ _ _ hp).le ⟨q0y q00 h_ts, q0y q04 h_l, q01 _, trivial⟩ (q0o _)
    · cases h
  · cases h)
theorem qbiz : TabOk Tryz.prog q7a := TabOk.add (f := 14) (e := e14) (qbiy) ⟨_, Tryz.func14, rfl, rfl⟩ (fun args p r h hp => by
  unfold e14 at h; split at h
  · split at h
    · rename_i h_ts h_x; cases h; exact (qbw9 (q0s qbiy follows) _ _ _ hp).le ⟨q0y q00 h_ts, q01 _, q84 h_x, trivial⟩ (q0o _)
    · cases h
  · cases h)
theorem tok3 : TabOk Tryz.prog tab3 := TabOk.add (f := 3) (e := e3) (qbiz) ⟨_, Tryz.func3, rfl, rfl⟩ (fun args p r h hp => by
  unfold e3 at h; split at h
  · split at h
    · rename_i h_ts h_l; cases h; exact (con3 (q0s qbiz follows) _ _ _).le ⟨q0y q00 h_ts, q0y q04 h_l, q01 _, trivial⟩ (q0o _)
    · cases h
  · cases h)
theorem tok4 : TabOk Tryz.prog tab4 := TabOk.add (f := 4) (e := e4) (tok3) ⟨_, Tryz.func4, rfl, rfl⟩ (fun args p r h hp => by
  unfold e4 at h; split at h
  · split at h
    · rename_i h_ts h_l; cases h; exact (con4 (q0s tok3 follows) _ _ _).le ⟨q0y q00 h_ts, q0y q04 h_l, q01 _, trivial⟩ (q0o _)
    · cases h
  · cases h)
theorem qbi0 : TabOk Tryz.prog q7d := TabOk.add (f := 85) (e := e85) (tok4) ⟨_, Tryz.func85, rfl, rfl⟩ (fun args p r h hp => by
  unfold e85 at h; split at h
  · split at h
    · rename_i h_l; cases h; exact (qbxa (q0s tok4 follows) _ _ hp).le ⟨q0y qho h_l, q01 _, trivial⟩ (q0o _)
    · cases h
  · cases h)
theorem qbi1 : TabOk Tryz.prog q7e := TabOk.add (f := 55) (e := e55) (qbi0) ⟨_, Tryz.func55, rfl, rfl⟩ (fun args p r h hp => by
  unfold e55 at h; split at h
  · split at h
    · rename_i h_l; cases h; exact (qbxb (q0s qbi0 follows) _ _ hp).le ⟨q0y qho h_l, q01 _, trivial⟩ (q0o _)
    · cases h
  · cases h)
theorem qbi2 : TabOk Tryz.prog q7f := TabOk.add (f := 25) (e := e25) (qbi1) ⟨_, Tryz.func25, rfl, rfl⟩ (fun args p r h hp => by
  unfold e25 at h; split at h
  · split at h
    · rename_i h_a h_b; cases h; exact (qbxc (q0s qbi1 follows) _ _ hp).le ⟨q0y qho h_a, q0y qho h_b, trivial⟩ (q0o _)
    · cases h
  · cases h)
theorem qbi3 : TabOk Tryz.prog q7g := TabOk.add (f := 48) (e := e48) (qbi2) ⟨_, Tryz.func48, rfl, rfl⟩ (fun args p r h hp => by
  unfold e48 at h; split at h
  · split at h
    · rename_i h_l; cases h; exact (qbxd (q0s qbi2 follows) _ _ hp).le ⟨q0y q04 h_l, q01 _, trivial⟩ (q0o _)
    · cases h
  · cases h)
theorem qbi4 : TabOk Tryz.prog q7h := TabOk.add (f := 17) (e := e17) (qbi3) ⟨_, Tryz.func17, rfl, rfl⟩ (fun args p r h hp => by
  unfold e17 at h; split at h
  · split at h
    · rename_i h_l; cases h; exact (qbxe (q0s qbi3 follows) _ _ hp).le ⟨q0y q04 h_l, q01 _, trivial⟩ (q0o _)
    · cases h
  · cases h)
theorem qbi5 : TabOk Tryz.prog q7i := TabOk.add (f := 52) (e := e52) (qbi4) ⟨_, Tryz.func52, rfl, rfl⟩ (fun args p r h hp => by
  unfold e52 at h; split at h
  · split at h
    · rename_i h_l; cases h; exact (qbxf (q0s qbi4 follows) _ _ hp).le ⟨q0y q04 h_l, q01 _, trivial⟩ (q0o _)
    · cases h
  · cases h)
theorem qbi6 : TabOk Tryz.prog q7j := TabOk.add (f := 19) (e := e19) (qbi5) ⟨_, Tryz.func19, rfl, rfl⟩ (fun args p r h hp => by
  unfold e19 at h; split at h
  · split at h
    · rename_i h_l; cases h; exact (qbxg (q0s qbi5 follows) _ _ hp).le ⟨q0y q04 h_l, q01 _, trivial⟩ (q0o _)
    · cases h
  · cases h)
theorem qbb7 : TabOk Tryz.prog q1i := TabOk.add (f := 37) (e := e37z) (qbi6) ⟨_, Tryz.func37, rfl, rfl⟩ (fun args p r h hp => by
  unfold e37z at h; split at h
  · split at h
    · rename_i h_x; cases h; exact (qbrz (q0s qbi6 follows) _ _).le ⟨q04 h_x, q01 _, trivial⟩ (q0o _)
    · cases h
  · cases h)
theorem qbb8 : TabOk Tryz.prog q1j := TabOk.add (f := 44) (e := e44z) (qbb7) ⟨_, Tryz.func44, rfl, rfl⟩ (fun args p r h hp => by
  unfold e44z at h; split at h
  · split at h
    · rename_i h_x; cases h; exact (qbr0 (q0s qbb7 follows) _ _).le ⟨q04 h_x, q01 _, trivial⟩ (q0o _)
    · cases h
  · cases h)
theorem qbi7 : TabOk Tryz.prog q7k := TabOk.add (f := 49) (e := e49) (qbb8) ⟨_, Tryz.func49, rfl, rfl⟩ (fun args p r h hp => by
  unfold e49 at h; split at h
  · split at h
    · rename_i h_x h_l; cases h; exact (qbxh (q0s qbb8 follows) _ _ hp).le ⟨q04 h_x, ⟨q0y q04 h_l, trivial⟩, trivial⟩ (q0o _)
    · cases h
  · cases h)
theorem qbi8 : TabOk Tryz.prog q7l := TabOk.add (f := 54) (e := e54) (qbi7) ⟨_, Tryz.func54, rfl, rfl⟩ (fun args p r h hp => by
  unfold e54 at h; split at h
  · split at h
    · rename_i h_x h_u; cases h; exact (qbxi (q0s qbi7 follows) _ _ hp).le ⟨q04 h_x, ⟨q0y qho h_u, trivial⟩, trivial⟩ (q0o _)
    · cases h
  · cases h)
theorem qbi9 : TabOk Tryz.prog q7m := TabOk.add (f := 56) (e := e56) (qbi8) ⟨_, Tryz.func56, rfl, rfl⟩ (fun args p r h hp => by
  unfold e56 at h; split at h
  · split at h
    · rename_i h_x h_u; cases h; exact (qbxj (q0s qbi8 follows) _ _ hp).le ⟨q04 h_x, ⟨q0y qho h_u, trivial⟩, trivial⟩ (q0o _)
    · cases h
  · cases h)
theorem qbb9 : TabOk Tryz.prog q1k := TabOk.add (f := 36) (e := e36z) (qbi9) ⟨_, Tryz.func36, rfl, rfl⟩ (fun args p r h hp => by
  unfold e36z at h; split at h
  · split at h
    · rename_i h_l h_w; cases h; exact (qbr1 (q0s qbi9 follows) _ _ _ hp).le ⟨q0y q04 h_l, q01 _, q2s h_w, trivial⟩ (q0o _)
    · cases h
  · cases h)
theorem qbja : TabOk Tryz.prog q7n := TabOk.add (f := 18) (e := e18) (qbb9) ⟨_, Tryz.func18, rfl, rfl⟩ (fun args p r h hp => by
  unfold e18 at h; split at h
  · split at h
    · rename_i h_ts h_l; cases h; exact (qbxk (q0s qbb9 follows) _ _ hp).le ⟨q0y q00 h_ts, q0y q04 h_l, trivial⟩ (q0o _)
    · cases h
  · cases h)
theorem qbjb : TabOk Tryz.prog q7o := TabOk.add (f := 20) (e := e20) (qbja) ⟨_, Tryz.func20, rfl, rfl⟩ (fun args p r h hp => by
  unfold e20 at h; split at h
  · split at h
    · rename_i h_ts h_l; cases h; exact (qbxl (q0s qbja follows) _ _ hp).le ⟨q0y q00 h_ts, q0y q04 h_l, trivial⟩ (q0o _)
    · cases h
  · cases h)
theorem tok5 : TabOk Tryz.prog tab5 := TabOk.add (f := 5) (e := e5) (qbjb) ⟨_, Tryz.func5, rfl, rfl⟩ (fun args p r h hp => by
  unfold e5 at h; split at h
  · split at h
    · rename_i h_ts h_l; cases h; exact (con5 (q0s qbjb follows) _ _ _).le ⟨q0y q00 h_ts, q0y q04 h_l, q01 _, trivial⟩ (q0o _)
    · cases h
  · cases h)
theorem qbjc : TabOk Tryz.prog q7p := TabOk.add (f := 53) (e := e53) (tok5) ⟨_, Tryz.func53, rfl, rfl⟩ (fun args p r h hp => by
  unfold e53 at h; split at h
  · split at h
    · rename_i h_us; cases h; exact (qbxm (q0s tok5 follows) _ hp).le ⟨qbei h_us, trivial⟩ (q0o _)
    · cases h
  · cases h)
theorem qbjd : TabOk Tryz.prog q7q := TabOk.add (f := 58) (e := e58) (qbjc) ⟨_, Tryz.func58, rfl, rfl⟩ (fun args p r h hp => by
  unfold e58 at h; split at h
  · split at h
    · rename_i h_l; cases h; exact (qbxn (q0s qbjc follows) _ hp).le ⟨q0y q04 h_l, trivial⟩ (q0o _)
    · cases h
  · cases h)
theorem qbje : TabOk Tryz.prog q7r := TabOk.add (f := 21) (e := e21) (qbjd) ⟨_, Tryz.func21, rfl, rfl⟩ (fun args p r h hp => by
  unfold e21 at h; split at h
  · split at h
    · rename_i h_ts h_l; cases h; exact (qbxo (q0s qbjd follows) _ _ hp).le ⟨q0y q00 h_ts, q0y q04 h_l, trivial⟩ (q0o _)
    · cases h
  · cases h)
theorem qbjf : TabOk Tryz.prog q7s := TabOk.add (f := 22) (e := e22) (qbje) ⟨_, Tryz.func22, rfl, rfl⟩ (fun args p r h hp => by
  unfold e22 at h; split at h
  · split at h
    · rename_i h_ts h_l; cases h; exact (qbxp (q0s qbje follows) _ _ hp).le ⟨q0y q00 h_ts, q0y q04 h_l, trivial⟩ (q0o _)
    · cases h
  · cases h)
theorem qbjg : TabOk Tryz.prog q7t := TabOk.add (f := 23) (e := e23) (qbjf) ⟨_, Tryz.func23, rfl, rfl⟩ (fun args p r h hp => by
  unfold e23 at h; split at h
  · split at h
    · rename_i h_ts h_l; cases h; exact (qbxq (q0s qbjf follows) _ _ hp).le ⟨q0y q00 h_ts, q0y q04 h_l, trivial⟩ (q0o _)
    · cases h
  · cases h)
theorem qbxs : TabOk Tryz.prog qbg7 := TabOk.add (f := 24) (e := e24) (qbjg) ⟨_, Tryz.func24, rfl, rfl⟩ (fun args p r h hp => by
  unfold e24 at h; split at h
  · split at h
    · rename_i h_ts h_l; cases h; exact (qbxr (q0s qbjg follows) _ _ hp).le ⟨q0y q00 h_ts, q0y q04 h_l, trivial⟩ (q0o _)
    · cases h
  · cases h)
end Go.Ev

namespace Go.Ev
open Go.ChangeShapes Go.WideShapes Go.ChangeAt Go.RowKit
section
variable {H : Type} {enc : TypeId × Value → H} {P : Program} {w : World} {sp : Nat → Bool} {held : Bool}
def RDs (w : World) (cs : List Value) (ds : List D) : Prop := cs.length = ds.length ∧ ∀ (j : Nat) (v : Value) (d : D), cs[j]? = some v → ds[j]? = some d → RD w (fun _ => False) v d ∧ d.one = true
theorem RDs.nil : RDs w [] [] := ⟨rfl, fun j v d h => by simp at h⟩
theorem RDs.one {v : Value} {d : D} (h : RD w (fun _ => False) v d) (h1 : d.one = true) : RDs w [v] [d] := ⟨rfl, fun j u e hj he => by
  match j with
  | 0 => simp at hj he; subst hj; subst he; exact ⟨h, h1⟩
  | j + 1 => simp at hj⟩
theorem RDs.append {a b : List Value} {x y : List D} (h : RDs w a x) (k : RDs w b y) : RDs w (a ++ b) (x ++ y) := by
  refine ⟨by rw [List.length_append, List.length_append, h.1, k.1], fun j v d hj hd => ?_⟩
  by_cases hl : j < a.length
  · rw [List.getElem?_append_left hl] at hj
    rw [List.getElem?_append_left (by rw [← h.1]; exact hl)] at hd
    exact h.2 j v d hj hd
  · rw [List.getElem?_append_right (by omega)] at hj
    rw [List.getElem?_append_right (by rw [← h.1]; omega)] at hd
    rw [h.1] at hj
    exact k.2 _ v d hj hd
theorem qbgj {t : TypeId} {k : IntKind} (ht : P.underlying t = some (.int k)) {fuel : Nat} {cs : List Value} {x : DataW H × List MemPlace} (h : DataW.trod enc P w 0 sp held fuel t cs = some x) :
    ∃ n, (Lit.int k n).wf = true ∧ RDs w cs [.i k n] := by
  obtain ⟨n, rfl, _, hw⟩ := DataW.trod_int ht h
  exact ⟨n, hw, RDs.one (.i k n) rfl⟩
theorem qbca {t : TypeId} (ht : P.underlying t = some .bool) {fuel : Nat} {cs : List Value} {x : DataW H × List MemPlace} (h : DataW.trod enc P w 0 sp held fuel t cs = some x) :
    ∃ b, RDs w cs [.b b] := by
  obtain ⟨n, rfl, _⟩ := DataW.trod_bool ht h
  exact ⟨n, RDs.one (.b n) rfl⟩
theorem q2w {t : TypeId} (ht : P.underlying t = some .string) {fuel : Nat} {cs : List Value} {x : DataW H × List MemPlace} (h : DataW.trod enc P w 0 sp held fuel t cs = some x) :
    ∃ s : ByteArray, s.size ≤ maxLen ∧ RDs w cs [.s s] := by
  obtain ⟨n, rfl, _, hs⟩ := DataW.trod_string ht h
  exact ⟨n, hs, RDs.one (.s n) rfl⟩
theorem qbcb {a : Addr} {v : Value} (h : w.cell? a = some v) : a.spot = none := by
  unfold World.cell? at h
  split at h
  · split at h
    · cases h
    · rename_i hs; simpa using hs
  · cases h
theorem q7w {t e : TypeId} {α : Type} {encf : α → D} {Ok : α → Prop} {sz : Nat} (ht : P.underlying t = some (.slice e)) (hsz : P.cellsOf e = sz) (h0 : 0 < sz) (hc : ∀ r, (encf r).cells.length = sz)
    (he : ∀ (fuel : Nat) (cs : List Value) (x : DataW H × List MemPlace), DataW.trod enc P w 0 sp held fuel e cs = some x → ∃ r, Ok r ∧ RDs w cs (encf r).cells)
    {fuel : Nat} {cs : List Value} {x : DataW H × List MemPlace} (h : DataW.trod enc P w 0 sp held fuel t cs = some x) :
    ∃ l : List α, (∀ r ∈ l, Ok r) ∧ l.length ≤ maxLen ∧ RDs w cs [.sl sz (l.map encf)] := by
  rcases DataW.trod_slice ht h with ⟨rfl, _⟩ | ⟨a, len, cap, qkt, rest, n, rfl, rfl, _, _, hlc, hcm, hel, hg, _, _⟩
  · exact ⟨[], by simp, Nat.zero_le _, RDs.one (.sl0 sz) rfl⟩
  · have key : ∀ i, i < len → ∃ r, Ok r ∧ ∃ cs', w.cells? 0 (a.add (i * sz)) sz = some cs' ∧ RDs w cs' (encf r).cells := fun i hi => by
      have h1 := hg i hi
      rw [hsz, List.getElem?_eq_getElem (by omega), Option.bind_eq_some_iff] at h1
      obtain ⟨cs', h2, h3⟩ := h1
      obtain ⟨r, hr, hd⟩ := he _ _ _ h3
      exact ⟨r, hr, cs', h2, hd⟩
    let f : ∀ i, i < len → α := fun i hi => Classical.choose (key i hi)
    have hf1 : ∀ i hi, Ok (f i hi) := fun i hi => (Classical.choose_spec (key i hi)).1
    have hf2 : ∀ i hi, ∃ cs', w.cells? 0 (a.add (i * sz)) sz = some cs' ∧ RDs w cs' (encf (f i hi)).cells := fun i hi => (Classical.choose_spec (key i hi)).2
    clear_value f
    have hspot : 0 < len → a.spot = none := fun hl => by
      obtain ⟨cs', h3, _⟩ := hf2 0 hl
      obtain ⟨_, h5, h6⟩ := World.cells?_some h3
      have h9 := h6 0 h0
      rw [List.getElem?_eq_getElem (by omega)] at h9
      have := qbcb h9
      simpa [Addr.add] using this
    let l : List α := List.ofFn fun i : Fin len => f i.1 i.2
    have hll : l.length = len := by simp [l]
    have hli : ∀ i (hi : i < len), l[i]? = some (f i hi) := fun i hi => by simp [l, hi]
    have hfl : (flat (l.map encf)).length = len * sz := by
      rw [qby (sz := sz) (fun d hd => by
        obtain ⟨r, _, rfl⟩ := List.mem_map.1 hd
        exact hc r), List.length_map, hll]
    have hcell : ∀ (k : Nat) (d : D), (flat (l.map encf))[k]? = some d → a.spot = none ∧ ∃ v, w.cell? ⟨a.block, a.off + k, none⟩ = some v ∧ RD w (fun _ => False) v d ∧ d.one = true := fun k d hk => by
      have hk1 : k < len * sz := by rw [← hfl]; exact (List.getElem?_eq_some_iff.1 hk).1
      have hi : k / sz < len := Nat.div_lt_of_lt_mul (by rwa [Nat.mul_comm])
      have hm : k % sz < sz := Nat.mod_lt _ h0
      have hkk : k / sz * sz + k % sz = k := by rw [Nat.mul_comm]; exact Nat.div_add_mod k sz
      have hj : (l.map encf)[k / sz]? = some (encf (f (k / sz) hi)) := by rw [List.getElem?_map, hli _ hi]; rfl
      have h2 := qh3 (sz := sz) (fun d hd => by
        obtain ⟨r, _, rfl⟩ := List.mem_map.1 hd
        exact hc r) hj hm
      rw [hkk, hk] at h2
      obtain ⟨cs', h3, h4⟩ := hf2 (k / sz) hi
      obtain ⟨_, h5, h6⟩ := World.cells?_some h3
      have h7 := h6 (k % sz) hm
      have hlt : k % sz < cs'.length := by omega
      rw [List.getElem?_eq_getElem hlt] at h7
      have h8 := h4.2 (k % sz) _ d (List.getElem?_eq_getElem hlt) h2.symm
      have hsp : a.spot = none := hspot (Nat.lt_of_le_of_lt (Nat.zero_le _) hi)
      refine ⟨hsp, _, ?_, h8⟩
      rw [← h7]
      congr 1
      obtain ⟨b, o, s⟩ := a
      simp only at hsp
      subst hsp
      unfold Addr.add
      (repeat' split) <;> simp <;> omega
    refine ⟨l, fun r hr => ?_, by omega, RDs.one ?_ rfl⟩
    · obtain ⟨i, hi⟩ := List.mem_ofFn.1 hr
      rw [← hi]; exact hf1 _ _
    · have hlm : len = (l.map encf).length := by simp [hll]
      rw [hlm]
      refine .sl a cap sz (l.map encf) (fun k => (w.cell? ⟨a.block, a.off + k, none⟩).getD default) (by omega) h0 (fun d hd => ?_) (fun hl => ⟨hspot ?_, fun hx => hx⟩) (fun k d hk => ?_) (fun k d hk => ?_)
      · obtain ⟨r, hr, rfl⟩ := List.mem_map.1 hd
        refine ⟨hc r, fun c hcm => ?_⟩
        obtain ⟨i, hi⟩ := List.mem_ofFn.1 hr
        obtain ⟨cs', _, h4⟩ := hf2 i.1 i.2
        rw [← hi] at hcm
        obtain ⟨j, hj, hjc⟩ := List.getElem_of_mem hcm
        have hlt : j < cs'.length := by rw [h4.1]; exact hj
        exact (h4.2 j _ c (List.getElem?_eq_getElem hlt) (by rw [List.getElem?_eq_getElem hj, hjc])).2
      · rcases Nat.eq_zero_or_pos len with e | e
        · exact absurd (List.length_eq_zero_iff.1 (by omega)) hl
        · exact e
      · obtain ⟨_, v, hv, _⟩ := hcell k d hk
        rw [hv]; rfl
      · obtain ⟨_, v, hv, h1, _⟩ := hcell k d hk
        rw [hv]; exact h1
theorem RDs.join {cs : List Value} {o n m : Nat} {a b : List D} (h : RDs w ((cs.drop o).take n) a) (k : RDs w (cs.drop m) b) (hm : o + n = m) : RDs w (cs.drop o) (a ++ b) := by
  subst hm
  have := RDs.append h k
  rwa [← List.drop_drop, List.take_append_drop] at this
theorem RDs.single {v : Value} {d : D} (h : RDs w [v] [d]) : RD w (fun _ => False) v d := (h.2 0 v d rfl rfl).1
theorem RDs.last {cs : List Value} {n : Nat} (h : cs.length = n) : RDs w (cs.drop n) [] := by
  rw [List.drop_of_length_le (by omega)]; exact .nil
theorem qbd {t n : Nat} (h : qbw P t = some n) : P.cellsOf t = n := by
  unfold qbw at h
  unfold Program.cellsOf
  rw [h]; rfl
theorem qdo {α : Type} {xs : List α} {n i : Nat} (h : xs.length = n) (hi : i < n) : ∃ y, xs[i]? = some y := ⟨xs[i]'(by omega), by simp⟩
end
theorem qbcc {P : Program} {f : FuncId} {ds : List D} {vs : Array Value} {w : World} (h : Sem P f (ds.map .d) (.d (.b true))) (hn : vs.size = ds.length)
    (hr : ∀ (j : Nat) (v : Value) (d : D), vs[j]? = some v → ds[j]? = some d → RD w (fun _ => False) v d) :
    Calls P f vs w fun e w' => e = .returned (.bool true) ∧ Below w.heap.size w w' := by
  refine (h w vs (fun _ => False) [] (fun _ hf => hf.elim) (fun i j b hi => by simp at hi) (fun _ _ hf => hf) ⟨by simpa using hn, List.replicate ds.length [], by simp, by simp, fun j v o q hv ho hq => ?_⟩).mono fun e w' ⟨v, u, os', he, hret, hro, _, _, hfr⟩ => ?_
  · rw [List.getElem?_replicate] at hq
    split at hq
    · cases hq
      rw [List.getElem?_map, Option.map_eq_some_iff] at ho
      obtain ⟨d, hd, rfl⟩ := ho
      exact .d v d ((hr j v d hv hd).mono fun b hb => by
        rcases hb with hb | hb
        · exact hb
        · unfold Blk at hb; simp at hb)
    · cases hq
  · subst he
    have hb : ∀ (ds : List D) (vs : List Value), qej (ds.map O.d) vs = [] := fun ds => by
      induction ds with
      | nil => intro vs; cases vs <;> rfl
      | cons d ds ih => intro vs; cases vs with
        | nil => rfl
        | cons v vs => exact ih vs
    unfold Ret at hret
    rw [hb] at hret
    simp only at hret
    subst hret
    have hv : u = .bool true := by
      cases hro with
      | d _ _ h => cases h; rfl
    subst hv
    exact ⟨rfl, hfr.os, hfr.tape, hfr.output, hfr.ext.size, fun k hk => hfr.ext.same k hk (by unfold Blk; simp)⟩
end Go.Ev

namespace Go.Ev
open Go.ChangeShapes Go.WideShapes Go.ChangeAt Go.RowKit Go.Proofs
section
variable {H : Type} {enc : TypeId × Value → H} {P : Program} {w : World} {sp : Nat → Bool} {held : Bool}
theorem rdI {t : TypeId} {k : IntKind} (ht : P.underlying t = some (.int k)) {fuel : Nat} {cs : List Value} {x : DataW H × List MemPlace} (h : DataW.trod enc P w 0 sp held fuel t cs = some x) : ∃ n : Int, True ∧ RDs w cs [.i k n] :=
  let ⟨n, _, h⟩ := qbgj ht h; ⟨n, trivial, h⟩
theorem rdB {t : TypeId} (ht : P.underlying t = some .bool) {fuel : Nat} {cs : List Value} {x : DataW H × List MemPlace} (h : DataW.trod enc P w 0 sp held fuel t cs = some x) : ∃ n : Bool, True ∧ RDs w cs [.b n] :=
  let ⟨n, h⟩ := qbca ht h; ⟨n, trivial, h⟩
theorem rdS {t : TypeId} (ht : P.underlying t = some .string) {fuel : Nat} {cs : List Value} {x : DataW H × List MemPlace} (h : DataW.trod enc P w 0 sp held fuel t cs = some x) : ∃ n : ByteArray, True ∧ RDs w cs [.s n] :=
  let ⟨n, _, h⟩ := q2w ht h; ⟨n, trivial, h⟩
theorem rdL {t e : TypeId} {α : Type} {encf : α → D} {sz : Nat} (ht : P.underlying t = some (.slice e)) (hsz : P.cellsOf e = sz) (h0 : 0 < sz) (hc : ∀ r, (encf r).cells.length = sz)
    (he : ∀ (fuel : Nat) (cs : List Value) (x : DataW H × List MemPlace), DataW.trod enc P w 0 sp held fuel e cs = some x → ∃ r, True ∧ RDs w cs (encf r).cells)
    {fuel : Nat} {cs : List Value} {x : DataW H × List MemPlace} (h : DataW.trod enc P w 0 sp held fuel t cs = some x) : ∃ l : List α, True ∧ RDs w cs [.sl sz (l.map encf)] :=
  let ⟨l, _, _, h⟩ := q7w (Ok := fun _ => True) ht hsz h0 hc he h; ⟨l, trivial, h⟩
theorem q2x {fuel : Nat} {cs : List Value} {x : DataW H × List MemPlace} (h : DataW.trod enc Tryz.prog w 0 sp held fuel 48 cs = some x) : ∃ r : Change, True ∧ RDs w cs (q0u r).cells := by
  obtain ⟨xs, n, _, _, hl, hx, hf⟩ := DataW.trod_struct Tryz.underlying48 h
  rw [qbd Ty.sz48] at hl
  obtain ⟨y0, hy0⟩ := qdo hx (i := 0) (by decide)
  have f0 : DataW.trod enc Tryz.prog w 0 sp held n 9 ((cs.drop 0).take (Tryz.prog.cellsOf 9)) = xs[0]? := hf 0 _ rfl
  rw [qbd Ty.sz9, hy0] at f0
  obtain ⟨a0, _, d0⟩ := rdS Tryz.underlying9 f0
  obtain ⟨y1, hy1⟩ := qdo hx (i := 1) (by decide)
  have f1 : DataW.trod enc Tryz.prog w 0 sp held n 3 ((cs.drop 1).take (Tryz.prog.cellsOf 3)) = xs[1]? := hf 1 _ rfl
  rw [qbd Ty.sz3, hy1] at f1
  obtain ⟨a1, _, d1⟩ := rdI (k := .i64) Tryz.underlying3 f1
  obtain ⟨y2, hy2⟩ := qdo hx (i := 2) (by decide)
  have f2 : DataW.trod enc Tryz.prog w 0 sp held n 3 ((cs.drop 2).take (Tryz.prog.cellsOf 3)) = xs[2]? := hf 2 _ rfl
  rw [qbd Ty.sz3, hy2] at f2
  obtain ⟨a2, _, d2⟩ := rdI (k := .i64) Tryz.underlying3 f2
  obtain ⟨y3, hy3⟩ := qdo hx (i := 3) (by decide)
  have f3 : DataW.trod enc Tryz.prog w 0 sp held n 9 ((cs.drop 3).take (Tryz.prog.cellsOf 9)) = xs[3]? := hf 3 _ rfl
  rw [qbd Ty.sz9, hy3] at f3
  obtain ⟨a3, _, d3⟩ := rdS Tryz.underlying9 f3
  obtain ⟨y4, hy4⟩ := qdo hx (i := 4) (by decide)
  have f4 : DataW.trod enc Tryz.prog w 0 sp held n 9 ((cs.drop 4).take (Tryz.prog.cellsOf 9)) = xs[4]? := hf 4 _ rfl
  rw [qbd Ty.sz9, hy4] at f4
  obtain ⟨a4, _, d4⟩ := rdS Tryz.underlying9 f4
  exact ⟨⟨a0, a1, a2, a3, a4⟩, trivial, (RDs.join d0 (RDs.join d1 (RDs.join d2 (RDs.join d3 (RDs.join d4 (RDs.last hl) rfl) rfl) rfl) rfl) rfl)⟩
theorem q7x {fuel : Nat} {cs : List Value} {x : DataW H × List MemPlace} (h : DataW.trod enc Tryz.prog w 0 sp held fuel 50 cs = some x) : ∃ r : Entry, True ∧ RDs w cs (q0r r).cells := by
  obtain ⟨xs, n, _, _, hl, hx, hf⟩ := DataW.trod_struct Tryz.underlying50 h
  rw [qbd Ty.sz50] at hl
  obtain ⟨y0, hy0⟩ := qdo hx (i := 0) (by decide)
  have f0 : DataW.trod enc Tryz.prog w 0 sp held n 3 ((cs.drop 0).take (Tryz.prog.cellsOf 3)) = xs[0]? := hf 0 _ rfl
  rw [qbd Ty.sz3, hy0] at f0
  obtain ⟨a0, _, d0⟩ := rdI (k := .i64) Tryz.underlying3 f0
  obtain ⟨y1, hy1⟩ := qdo hx (i := 1) (by decide)
  have f1 : DataW.trod enc Tryz.prog w 0 sp held n 3 ((cs.drop 1).take (Tryz.prog.cellsOf 3)) = xs[1]? := hf 1 _ rfl
  rw [qbd Ty.sz3, hy1] at f1
  obtain ⟨a1, _, d1⟩ := rdI (k := .i64) Tryz.underlying3 f1
  obtain ⟨y2, hy2⟩ := qdo hx (i := 2) (by decide)
  have f2 : DataW.trod enc Tryz.prog w 0 sp held n 3 ((cs.drop 2).take (Tryz.prog.cellsOf 3)) = xs[2]? := hf 2 _ rfl
  rw [qbd Ty.sz3, hy2] at f2
  obtain ⟨a2, _, d2⟩ := rdI (k := .i64) Tryz.underlying3 f2
  obtain ⟨y3, hy3⟩ := qdo hx (i := 3) (by decide)
  have f3 : DataW.trod enc Tryz.prog w 0 sp held n 48 ((cs.drop 3).take (Tryz.prog.cellsOf 48)) = xs[3]? := hf 3 _ rfl
  rw [qbd Ty.sz48, hy3] at f3
  obtain ⟨a3, _, d3⟩ := q2x f3
  exact ⟨⟨a0, a1, a2, a3⟩, trivial, (RDs.join d0 (RDs.join d1 (RDs.join d2 (RDs.join d3 (RDs.last hl) rfl) rfl) rfl) rfl)⟩
theorem q7y {fuel : Nat} {cs : List Value} {x : DataW H × List MemPlace} (h : DataW.trod enc Tryz.prog w 0 sp held fuel 108 cs = some x) : ∃ r : DType, True ∧ RDs w cs (qbe r).cells := by
  obtain ⟨xs, n, _, _, hl, hx, hf⟩ := DataW.trod_struct Tryz.underlying108 h
  rw [qbd Ty.sz108] at hl
  obtain ⟨y0, hy0⟩ := qdo hx (i := 0) (by decide)
  have f0 : DataW.trod enc Tryz.prog w 0 sp held n 3 ((cs.drop 0).take (Tryz.prog.cellsOf 3)) = xs[0]? := hf 0 _ rfl
  rw [qbd Ty.sz3, hy0] at f0
  obtain ⟨a0, _, d0⟩ := rdI (k := .i64) Tryz.underlying3 f0
  obtain ⟨y1, hy1⟩ := qdo hx (i := 1) (by decide)
  have f1 : DataW.trod enc Tryz.prog w 0 sp held n 3 ((cs.drop 1).take (Tryz.prog.cellsOf 3)) = xs[1]? := hf 1 _ rfl
  rw [qbd Ty.sz3, hy1] at f1
  obtain ⟨a1, _, d1⟩ := rdI (k := .i64) Tryz.underlying3 f1
  obtain ⟨y2, hy2⟩ := qdo hx (i := 2) (by decide)
  have f2 : DataW.trod enc Tryz.prog w 0 sp held n 3 ((cs.drop 2).take (Tryz.prog.cellsOf 3)) = xs[2]? := hf 2 _ rfl
  rw [qbd Ty.sz3, hy2] at f2
  obtain ⟨a2, _, d2⟩ := rdI (k := .i64) Tryz.underlying3 f2
  exact ⟨⟨a0, a1, a2⟩, trivial, (RDs.join d0 (RDs.join d1 (RDs.join d2 (RDs.last hl) rfl) rfl) rfl)⟩
theorem q7z {fuel : Nat} {cs : List Value} {x : DataW H × List MemPlace} (h : DataW.trod enc Tryz.prog w 0 sp held fuel 110 cs = some x) : ∃ r : Field, True ∧ RDs w cs (q03 r).cells := by
  obtain ⟨xs, n, _, _, hl, hx, hf⟩ := DataW.trod_struct Tryz.underlying110 h
  rw [qbd Ty.sz110] at hl
  obtain ⟨y0, hy0⟩ := qdo hx (i := 0) (by decide)
  have f0 : DataW.trod enc Tryz.prog w 0 sp held n 9 ((cs.drop 0).take (Tryz.prog.cellsOf 9)) = xs[0]? := hf 0 _ rfl
  rw [qbd Ty.sz9, hy0] at f0
  obtain ⟨a0, _, d0⟩ := rdS Tryz.underlying9 f0
  obtain ⟨y1, hy1⟩ := qdo hx (i := 1) (by decide)
  have f1 : DataW.trod enc Tryz.prog w 0 sp held n 108 ((cs.drop 1).take (Tryz.prog.cellsOf 108)) = xs[1]? := hf 1 _ rfl
  rw [qbd Ty.sz108, hy1] at f1
  obtain ⟨a1, _, d1⟩ := q7y f1
  exact ⟨⟨a0, a1⟩, trivial, (RDs.join d0 (RDs.join d1 (RDs.last hl) rfl) rfl)⟩
theorem qbgk {fuel : Nat} {cs : List Value} {x : DataW H × List MemPlace} (h : DataW.trod enc Tryz.prog w 0 sp held fuel 74 cs = some x) : ∃ r : Fmt, True ∧ RDs w cs (qbt r).cells := by
  obtain ⟨xs, n, _, _, hl, hx, hf⟩ := DataW.trod_struct Tryz.underlying74 h
  rw [qbd Ty.sz74] at hl
  obtain ⟨y0, hy0⟩ := qdo hx (i := 0) (by decide)
  have f0 : DataW.trod enc Tryz.prog w 0 sp held n 9 ((cs.drop 0).take (Tryz.prog.cellsOf 9)) = xs[0]? := hf 0 _ rfl
  rw [qbd Ty.sz9, hy0] at f0
  obtain ⟨a0, _, d0⟩ := rdS Tryz.underlying9 f0
  obtain ⟨y1, hy1⟩ := qdo hx (i := 1) (by decide)
  have f1 : DataW.trod enc Tryz.prog w 0 sp held n 72 ((cs.drop 1).take (Tryz.prog.cellsOf 72)) = xs[1]? := hf 1 _ rfl
  rw [qbd Ty.sz72, hy1] at f1
  obtain ⟨a1, _, d1⟩ := rdL (sz := 4) Tryz.underlying72 (qbd Ty.sz110) (by decide) (fun _ => rfl) (fun _ _ _ h => q7z h) f1
  exact ⟨⟨a0, a1⟩, trivial, (RDs.join d0 (RDs.join d1 (RDs.last hl) rfl) rfl)⟩
theorem q2y {fuel : Nat} {cs : List Value} {x : DataW H × List MemPlace} (h : DataW.trod enc Tryz.prog w 0 sp held fuel 113 cs = some x) : ∃ r : KField, True ∧ RDs w cs (q06 r).cells := by
  obtain ⟨xs, n, _, _, hl, hx, hf⟩ := DataW.trod_struct Tryz.underlying113 h
  rw [qbd Ty.sz113] at hl
  obtain ⟨y0, hy0⟩ := qdo hx (i := 0) (by decide)
  have f0 : DataW.trod enc Tryz.prog w 0 sp held n 9 ((cs.drop 0).take (Tryz.prog.cellsOf 9)) = xs[0]? := hf 0 _ rfl
  rw [qbd Ty.sz9, hy0] at f0
  obtain ⟨a0, _, d0⟩ := rdS Tryz.underlying9 f0
  obtain ⟨y1, hy1⟩ := qdo hx (i := 1) (by decide)
  have f1 : DataW.trod enc Tryz.prog w 0 sp held n 4 ((cs.drop 1).take (Tryz.prog.cellsOf 4)) = xs[1]? := hf 1 _ rfl
  rw [qbd Ty.sz4, hy1] at f1
  obtain ⟨a1, _, d1⟩ := rdB Tryz.underlying4 f1
  exact ⟨⟨a0, a1⟩, trivial, (RDs.join d0 (RDs.join d1 (RDs.last hl) rfl) rfl)⟩
theorem qbcd {fuel : Nat} {cs : List Value} {x : DataW H × List MemPlace} (h : DataW.trod enc Tryz.prog w 0 sp held fuel 77 cs = some x) : ∃ r : File, True ∧ RDs w cs (qb5 r).cells := by
  obtain ⟨xs, n, _, _, hl, hx, hf⟩ := DataW.trod_struct Tryz.underlying77 h
  rw [qbd Ty.sz77] at hl
  obtain ⟨y0, hy0⟩ := qdo hx (i := 0) (by decide)
  have f0 : DataW.trod enc Tryz.prog w 0 sp held n 9 ((cs.drop 0).take (Tryz.prog.cellsOf 9)) = xs[0]? := hf 0 _ rfl
  rw [qbd Ty.sz9, hy0] at f0
  obtain ⟨a0, _, d0⟩ := rdS Tryz.underlying9 f0
  obtain ⟨y1, hy1⟩ := qdo hx (i := 1) (by decide)
  have f1 : DataW.trod enc Tryz.prog w 0 sp held n 74 ((cs.drop 1).take (Tryz.prog.cellsOf 74)) = xs[1]? := hf 1 _ rfl
  rw [qbd Ty.sz74, hy1] at f1
  obtain ⟨a1, _, d1⟩ := qbgk f1
  obtain ⟨y2, hy2⟩ := qdo hx (i := 2) (by decide)
  have f2 : DataW.trod enc Tryz.prog w 0 sp held n 75 ((cs.drop 3).take (Tryz.prog.cellsOf 75)) = xs[2]? := hf 2 _ rfl
  rw [qbd Ty.sz75, hy2] at f2
  obtain ⟨a2, _, d2⟩ := rdL (sz := 2) Tryz.underlying75 (qbd Ty.sz113) (by decide) (fun _ => rfl) (fun _ _ _ h => q2y h) f2
  obtain ⟨y3, hy3⟩ := qdo hx (i := 3) (by decide)
  have f3 : DataW.trod enc Tryz.prog w 0 sp held n 4 ((cs.drop 4).take (Tryz.prog.cellsOf 4)) = xs[3]? := hf 3 _ rfl
  rw [qbd Ty.sz4, hy3] at f3
  obtain ⟨a3, _, d3⟩ := rdB Tryz.underlying4 f3
  exact ⟨⟨a0, a1, a2, a3⟩, trivial, (RDs.join d0 (RDs.join d1 (RDs.join d2 (RDs.join d3 (RDs.last hl) rfl) rfl) rfl) rfl)⟩
theorem qbgl {fuel : Nat} {cs : List Value} {x : DataW H × List MemPlace} (h : DataW.trod enc Tryz.prog w 0 sp held fuel 104 cs = some x) : ∃ r : Rec, True ∧ RDs w cs (qbo r).cells := by
  obtain ⟨xs, n, _, _, hl, hx, hf⟩ := DataW.trod_struct Tryz.underlying104 h
  rw [qbd Ty.sz104] at hl
  obtain ⟨y0, hy0⟩ := qdo hx (i := 0) (by decide)
  have f0 : DataW.trod enc Tryz.prog w 0 sp held n 4 ((cs.drop 0).take (Tryz.prog.cellsOf 4)) = xs[0]? := hf 0 _ rfl
  rw [qbd Ty.sz4, hy0] at f0
  obtain ⟨a0, _, d0⟩ := rdB Tryz.underlying4 f0
  obtain ⟨y1, hy1⟩ := qdo hx (i := 1) (by decide)
  have f1 : DataW.trod enc Tryz.prog w 0 sp held n 9 ((cs.drop 1).take (Tryz.prog.cellsOf 9)) = xs[1]? := hf 1 _ rfl
  rw [qbd Ty.sz9, hy1] at f1
  obtain ⟨a1, _, d1⟩ := rdS Tryz.underlying9 f1
  exact ⟨⟨a0, a1⟩, trivial, (RDs.join d0 (RDs.join d1 (RDs.last hl) rfl) rfl)⟩
theorem q70 {fuel : Nat} {cs : List Value} {x : DataW H × List MemPlace} (h : DataW.trod enc Tryz.prog w 0 sp held fuel 80 cs = some x) : ∃ r : Table, True ∧ RDs w cs (q0g r).cells := by
  obtain ⟨xs, n, _, _, hl, hx, hf⟩ := DataW.trod_struct Tryz.underlying80 h
  rw [qbd Ty.sz80] at hl
  obtain ⟨y0, hy0⟩ := qdo hx (i := 0) (by decide)
  have f0 : DataW.trod enc Tryz.prog w 0 sp held n 77 ((cs.drop 0).take (Tryz.prog.cellsOf 77)) = xs[0]? := hf 0 _ rfl
  rw [qbd Ty.sz77, hy0] at f0
  obtain ⟨a0, _, d0⟩ := qbcd f0
  obtain ⟨y1, hy1⟩ := qdo hx (i := 1) (by decide)
  have f1 : DataW.trod enc Tryz.prog w 0 sp held n 78 ((cs.drop 5).take (Tryz.prog.cellsOf 78)) = xs[1]? := hf 1 _ rfl
  rw [qbd Ty.sz78, hy1] at f1
  obtain ⟨a1, _, d1⟩ := rdL (sz := 2) Tryz.underlying78 (qbd Ty.sz104) (by decide) (fun _ => rfl) (fun _ _ _ h => qbgl h) f1
  exact ⟨⟨a0, a1⟩, trivial, (RDs.join d0 (RDs.join d1 (RDs.last hl) rfl) rfl)⟩
end
end Go.Ev
