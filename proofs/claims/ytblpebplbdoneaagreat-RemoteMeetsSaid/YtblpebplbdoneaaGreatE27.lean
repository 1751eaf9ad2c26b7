/- Tools and contracts under the laws of this seat: DrT, DevRead, DevReadT35r. -/
import Derived.Test.YtblpebplbdoneaaGreatE11
import Derived.Test.YtblpebplbdoneaaGreatE12
import Derived.Test.YtblpebplbdoneaaGreatE13
import Derived.Test.YtblpebplbdoneaaGreatE14
import Derived.Test.YtblpebplbdoneaaGreatE15
import Derived.Test.YtblpebplbdoneaaGreatE16
import Derived.Test.YtblpebplbdoneaaGreatE17
import Derived.Test.YtblpebplbdoneaaGreatE18
import Derived.Test.YtblpebplbdoneaaGreatE19
import Derived.Test.YtblpebplbdoneaaGreatE20
import Derived.Test.YtblpebplbdoneaaGreatE21
import Derived.Test.YtblpebplbdoneaaGreatE23
import Derived.Test.YtblpebplbdoneaaGreatE24
import Derived.Test.YtblpebplbdoneaaGreatE25
import Derived.Test.YtblpebplbdoneaaGreatE26
import Derived.Test.YtblpebplbdoneaaGreatE02
import Derived.ProofKit
import Derived.ChangeArms
import Derived.Test.YtblpebplbdoneaaGreatE03
import Derived.Test.YtblpebplbdoneaaGreatE05
set_option linter.unusedVariables false
set_option linter.unusedSimpArgs false
namespace Go.Ev
open Go.Proofs Ty
set_option maxRecDepth 10000
set_option maxHeartbeats 4000000
theorem qbjr : TabOk Tryz.prog q7d := Tad (f := 57) (e := e57) ((TabOk.nil _)) ⟨_, Tryz.func57, rfl, rfl⟩ (fun args p r h hp => by
 unfold e57 at h; split at h
 ·cases h; exact qbzl (q0t (TabOk.nil _) follows) _ _ _
 ·cases h)
theorem qbct : TabOk Tryz.prog q1b := Tad (f := 100) (e := e100) (qbjr) ⟨_, Tryz.func100, rfl, rfl⟩ (fun args p r h hp => by
 unfold e100 at h; split at h
 ·cases h; exact qbtv (q0t qbjr follows) _ _ _
 ·cases h)
theorem qbjs : TabOk Tryz.prog q7e := Tad (f := 62) (e := e62) (qbct) ⟨_, Tryz.func62, rfl, rfl⟩ (fun args p r h hp => by
 unfold e62 at h; split at h
 ·cases h; exact qbzm (q0t qbct follows) _
 ·cases h)
theorem qbcu : TabOk Tryz.prog q1c := Tad (f := 117) (e := e117) (qbjs) ⟨_, Tryz.func117, rfl, rfl⟩ (fun args p r h hp => by
 unfold e117 at h; split at h
 ·cases h; exact qbtw (q0t qbjs follows) _
 ·cases h)
theorem qbcv : TabOk Tryz.prog q1d := Tad (f := 118) (e := e118) (qbcu) ⟨_, Tryz.func118, rfl, rfl⟩ (fun args p r h hp => by
 unfold e118 at h; split at h
 ·cases h; exact qbtx (q0t qbcu follows) _
 ·cases h)
theorem qbcw : TabOk Tryz.prog q1e := Tad (f := 106) (e := e106) (qbcv) ⟨_, Tryz.func106, rfl, rfl⟩ (fun args p r h hp => by
 unfold e106 at h; split at h
 ·cases h; exact qbty (q0t qbcv follows) _
 ·cases h)
theorem qbcx : TabOk Tryz.prog q1f := Tad (f := 101) (e := e101) (qbcw) ⟨_, Tryz.func101, rfl, rfl⟩ (fun args p r h hp => by
 unfold e101 at h; split at h
 ·cases h; exact qbtz (q0t qbcw follows) _
 ·cases h)
theorem qbcy : TabOk Tryz.prog q1g := Tad (f := 107) (e := e107) (qbcx) ⟨_, Tryz.func107, rfl, rfl⟩ (fun args p r h hp => by
 unfold e107 at h; split at h
 ·split at h
  ·rename_i h_c; cases h; exact (qbt0 (q0t qbcx follows) _).le ⟨qe8 h_c, trivial⟩ (q0l _)
  ·cases h
 ·cases h)
theorem qbcz : TabOk Tryz.prog q1h := Tad (f := 105) (e := e105) (qbcy) ⟨_, Tryz.func105, rfl, rfl⟩ (fun args p r h hp => by
 unfold e105 at h; split at h
 ·split at h
  ·rename_i h_e; cases h; exact (qbt1 (q0t qbcy follows) _).le ⟨q02 h_e, trivial⟩ (q0l _)
  ·cases h
 ·cases h)
theorem qbjt : TabOk Tryz.prog q7f := Tad (f := 90) (e := e90) (qbcz) ⟨_, Tryz.func90, rfl, rfl⟩ (fun args p r h hp => by
 unfold e90 at h; split at h
 ·split at h
  ·rename_i h_e; cases h; exact (qbzn (q0t qbcz follows) _).le ⟨q02 h_e, trivial⟩ (q0l _)
  ·cases h
 ·cases h)
theorem qbju : TabOk Tryz.prog q7g := Tad (f := 82) (e := e82) (qbjt) ⟨_, Tryz.func82, rfl, rfl⟩ (fun args p r h hp => by
 unfold e82 at h; split at h
 ·split at h
  ·rename_i h_e; cases h; exact (qbzo (q0t qbjt follows) _).le ⟨q02 h_e, trivial⟩ (q0l _)
  ·cases h
 ·cases h)
theorem tok9 : TabOk Tryz.prog tab9 := Tad (f := 9) (e := e9) (qbju) ⟨_, Tryz.func9, rfl, rfl⟩ (fun args p r h hp => by
 unfold e9 at h; split at h
 ·split at h
  ·rename_i h_l; cases h; exact (con9 (q0t qbju follows) _).le ⟨q00 q02 h_l, trivial⟩ (q0l _)
  ·cases h
 ·cases h)
theorem qbjv : TabOk Tryz.prog q7h := Tad (f := 76) (e := e76) (tok9) ⟨_, Tryz.func76, rfl, rfl⟩ (fun args p r h hp => by
 unfold e76 at h; split at h
 ·split at h
  ·rename_i h_l; cases h; exact (qbzp (q0t tok9 follows) _ _ hp).le ⟨q00 q02 h_l, q09 _, trivial⟩ (q0l _)
  ·cases h
 ·cases h)
theorem qbjw : TabOk Tryz.prog q7i := Tad (f := 77) (e := e77) (qbjv) ⟨_, Tryz.func77, rfl, rfl⟩ (fun args p r h hp => by
 unfold e77 at h; split at h
 ·split at h
  ·rename_i h_l; cases h; exact (qbzq (q0t qbjv follows) _ _ hp).le ⟨q00 q02 h_l, q09 _, trivial⟩ (q0l _)
  ·cases h
 ·cases h)
theorem qbjx : TabOk Tryz.prog q7j := Tad (f := 49) (e := e49) (qbjw) ⟨_, Tryz.func49, rfl, rfl⟩ (fun args p r h hp => by
 unfold e49 at h; split at h
 ·split at h
  ·rename_i h_l; cases h; exact (qbzr (q0t qbjw follows) _ _ hp).le ⟨q00 q02 h_l, q09 _, trivial⟩ (q0l _)
  ·cases h
 ·cases h)
theorem qbjy : TabOk Tryz.prog q7k := Tad (f := 91) (e := e91) (qbjx) ⟨_, Tryz.func91, rfl, rfl⟩ (fun args p r h hp => by
 unfold e91 at h; split at h
 ·split at h
  ·rename_i h_l h_e; cases h; exact (qbzs (q0t qbjx follows) _ _ hp).le ⟨q00 q02 h_l, q02 h_e, trivial⟩ (q0l _)
  ·cases h
 ·cases h)
theorem qbjz : TabOk Tryz.prog q7l := Tad (f := 60) (e := e60) (qbjy) ⟨_, Tryz.func60, rfl, rfl⟩ (fun args p r h hp => by
 unfold e60 at h; split at h
 ·split at h
  ·rename_i h_l; cases h; exact (qbzt (q0t qbjy follows) _ hp).le ⟨q00 q02 h_l, trivial⟩ (q0l _)
  ·cases h
 ·cases h)
theorem qbj0 : TabOk Tryz.prog q7m := Tad (f := 34) (e := e34) (qbjz) ⟨_, Tryz.func34, rfl, rfl⟩ (fun args p r h hp => by
 unfold e34 at h; split at h
 ·split at h
  ·rename_i h_l; cases h; exact (qbzu (q0t qbjz follows) _ hp).le ⟨q00 q02 h_l, trivial⟩ (q0l _)
  ·cases h
 ·cases h)
theorem qbj1 : TabOk Tryz.prog q7n := Tad (f := 18) (e := e18) (qbj0) ⟨_, Tryz.func18, rfl, rfl⟩ (fun args p r h hp => by
 unfold e18 at h; split at h
 ·split at h
  ·rename_i h_a h_b; cases h; exact (qbzv (q0t qbj0 follows) _ _ hp).le ⟨q00 q02 h_a, q00 q02 h_b, trivial⟩ (q0l _)
  ·cases h
 ·cases h)
theorem qbj2 : TabOk Tryz.prog q7o := Tad (f := 52) (e := e52) (qbj1) ⟨_, Tryz.func52, rfl, rfl⟩ (fun args p r h hp => by
 unfold e52 at h; split at h
 ·split at h
  ·rename_i h_l; cases h; exact (qbzw (q0t qbj1 follows) _ hp).le ⟨q00 q02 h_l, trivial⟩ (q0l _)
  ·cases h
 ·cases h)
theorem qbj3 : TabOk Tryz.prog q7p := Tad (f := 25) (e := e25) (qbj2) ⟨_, Tryz.func25, rfl, rfl⟩ (fun args p r h hp => by
 unfold e25 at h; split at h
 ·split at h
  ·rename_i h_l; cases h; exact (qbzx (q0t qbj2 follows) _ hp).le ⟨q00 q02 h_l, trivial⟩ (q0l _)
  ·cases h
 ·cases h)
theorem qbj4 : TabOk Tryz.prog q7q := Tad (f := 13) (e := e13) (qbj3) ⟨_, Tryz.func13, rfl, rfl⟩ (fun args p r h hp => by
 unfold e13 at h; split at h
 ·split at h
  ·rename_i h_l; cases h; exact (qbzy (q0t qbj3 follows) _ hp).le ⟨q00 q02 h_l, trivial⟩ (q0l _)
  ·cases h
 ·cases h)
theorem qbc0 : TabOk Tryz.prog q1j := Tad (f := 179) (e := e179) (qbj4) ⟨_, Tryz.func179, rfl, rfl⟩ (fun args p r h hp => by
 unfold e179 at h; split at h
 ·cases h; exact qbt3 (q0t qbj4 follows) _ _ _
 ·cases h)
theorem qbc1 : TabOk Tryz.prog q1k := Tad (f := 168) (e := e168) (qbc0) ⟨_, Tryz.func168, rfl, rfl⟩ (fun args p r h hp => by
 unfold e168 at h; split at h
 ·cases h; exact qbt4 (q0t qbc0 follows) _ _
 ·cases h)
theorem qbc2 : TabOk Tryz.prog q1l := Tad (f := 167) (e := e167) (qbc1) ⟨_, Tryz.func167, rfl, rfl⟩ (fun args p r h hp => by
 unfold e167 at h; split at h
 ·split at h
  ·rename_i h_l; cases h; exact (qbt5 (q0t qbc1 follows) _ hp).le ⟨q00 ql3 h_l, trivial⟩ (q0l _)
  ·cases h
 ·cases h)
theorem qbj5 : TabOk Tryz.prog q7v := Tad (f := 85) (e := e85) (qbc2) ⟨_, Tryz.func85, rfl, rfl⟩ (fun args p r h hp => by
 unfold e85 at h; split at h
 ·cases h; exact qbzz (q0t qbc2 follows) _ _
 ·cases h)
theorem qbj6 : TabOk Tryz.prog q7w := Tad (f := 83) (e := e83) (qbj5) ⟨_, Tryz.func83, rfl, rfl⟩ (fun args p r h hp => by
 unfold e83 at h; split at h
 ·split at h
  ·rename_i h_l; cases h; exact (qbz0 (q0t qbj5 follows) _ hp).le ⟨q00 ql3 h_l, trivial⟩ (q0l _)
  ·cases h
 ·cases h)
theorem qbc3 : TabOk Tryz.prog q1m := Tad (f := 144) (e := e144) (qbj6) ⟨_, Tryz.func144, rfl, rfl⟩ (fun args p r h hp => by
 unfold e144 at h; split at h
 ·cases h; exact qbt6 (q0t qbj6 follows) _
 ·cases h)
theorem qbc4 : TabOk Tryz.prog q1n := Tad (f := 165) (e := e165) (qbc3) ⟨_, Tryz.func165, rfl, rfl⟩ (fun args p r h hp => by
 unfold e165 at h; split at h
 ·split at h
  ·rename_i h_t; cases h; exact (qbt7 (q0t qbc3 follows) _).le ⟨qfy h_t, trivial⟩ (q0l _)
  ·cases h
 ·cases h)
theorem qbc5 : TabOk Tryz.prog q1o := Tad (f := 169) (e := e169) (qbc4) ⟨_, Tryz.func169, rfl, rfl⟩ (fun args p r h hp => by
 unfold e169 at h; split at h
 ·split at h
  ·rename_i h_t; cases h; exact (qbt8 (q0t qbc4 follows) _ hp).le ⟨qfy h_t, trivial⟩ (q0l _)
  ·cases h
 ·cases h)
theorem qbc6 : TabOk Tryz.prog q1p := Tad (f := 166) (e := e166) (qbc5) ⟨_, Tryz.func166, rfl, rfl⟩ (fun args p r h hp => by
 unfold e166 at h; split at h
 ·split at h
  ·rename_i h_t; cases h; exact (qbt9 (q0t qbc5 follows) _).le ⟨qfy h_t, trivial⟩ (q0l _)
  ·cases h
 ·cases h)
theorem qbc7 : TabOk Tryz.prog q1q := Tad (f := 180) (e := e180) (qbc6) ⟨_, Tryz.func180, rfl, rfl⟩ (fun args p r h hp => by
 unfold e180 at h; split at h
 ·cases h; exact qbua (q0t qbc6 follows) _
 ·cases h)
theorem qbc8 : TabOk Tryz.prog q1r := Tad (f := 171) (e := e171) (qbc7) ⟨_, Tryz.func171, rfl, rfl⟩ (fun args p r h hp => by
 unfold e171 at h; split at h
 ·split at h
  ·rename_i h_t h_v; cases h; exact (qbub (q0t qbc7 follows) _ _).le ⟨qfy h_t, qbbg h_v, trivial⟩ (q0l _)
  ·cases h
 ·cases h)
theorem qbc9 : TabOk Tryz.prog q1s := Tad (f := 170) (e := e170) (qbc8) ⟨_, Tryz.func170, rfl, rfl⟩ (fun args p r h hp => by
 unfold e170 at h; split at h
 ·cases h; exact qbuc (q0t qbc8 follows) _ hp
 ·cases h)
theorem qbda : TabOk Tryz.prog q1t := Tad (f := 181) (e := e181) (qbc9) ⟨_, Tryz.func181, rfl, rfl⟩ (fun args p r h hp => by
 unfold e181 at h; split at h
 ·split at h
  ·rename_i h_t; cases h; exact (qbud (q0t qbc9 follows) _ _ hp).le ⟨qfy h_t, q09 _, trivial⟩ (q0l _)
  ·cases h
 ·cases h)
theorem qbdb : TabOk Tryz.prog q1u := Tad (f := 172) (e := e172) (qbda) ⟨_, Tryz.func172, rfl, rfl⟩ (fun args p r h hp => by
 unfold e172 at h; split at h
 ·split at h
  ·rename_i h_t; cases h; exact (qbue (q0t qbda follows) _ _ hp).le ⟨qfy h_t, q09 _, trivial⟩ (q0l _)
  ·cases h
 ·cases h)
theorem qbdc : TabOk Tryz.prog q1v := Tad (f := 148) (e := e148) (qbdb) ⟨_, Tryz.func148, rfl, rfl⟩ (fun args p r h hp => by
 unfold e148 at h; split at h
 ·split at h
  ·rename_i h_t; cases h; exact (qbuf (q0t qbdb follows) _ _).le ⟨qfy h_t, q09 _, trivial⟩ (q0l _)
  ·cases h
 ·cases h)
theorem qbdd : TabOk Tryz.prog q1z := Tad (f := 147) (e := e147) (qbdc) ⟨_, Tryz.func147, rfl, rfl⟩ (fun args p r h hp => by
 unfold e147 at h; split at h
 ·split at h
  ·rename_i h_x; cases h; exact (qbug (q0t qbdc follows) _).le ⟨qlg h_x, trivial⟩ (q0l _)
  ·cases h
 ·cases h)
theorem qbde : TabOk Tryz.prog q10 := Tad (f := 145) (e := e145) (qbdd) ⟨_, Tryz.func145, rfl, rfl⟩ (fun args p r h hp => by
 unfold e145 at h; split at h
 ·split at h
  ·rename_i h_f; cases h; exact (qbuh (q0t qbdd follows) _ _ hp).le ⟨qeh h_f, q09 _, trivial⟩ (q0l _)
  ·cases h
 ·cases h)
theorem qbdf : TabOk Tryz.prog q11 := Tad (f := 126) (e := e126) (qbde) ⟨_, Tryz.func126, rfl, rfl⟩ (fun args p r h hp => by
 unfold e126 at h; split at h
 ·split at h
  ·rename_i h_f; cases h; exact (qbui (q0t qbde follows) _ hp).le ⟨qeh h_f, trivial⟩ (q0l _)
  ·cases h
 ·cases h)
theorem qbdg : TabOk Tryz.prog q12 := Tad (f := 146) (e := e146) (qbdf) ⟨_, Tryz.func146, rfl, rfl⟩ (fun args p r h hp => by
 unfold e146 at h; split at h
 ·split at h
  ·rename_i h_f; cases h; exact (qbuj (q0t qbdf follows) _ hp).le ⟨qeh h_f, trivial⟩ (q0l _)
  ·cases h
 ·cases h)
theorem qbdh : TabOk Tryz.prog q13 := Tad (f := 125) (e := e125) (qbdg) ⟨_, Tryz.func125, rfl, rfl⟩ (fun args p r h hp => by
 unfold e125 at h; split at h
 ·split at h
  ·rename_i h_f; cases h; exact (qbuk (q0t qbdg follows) _ hp).le ⟨qeh h_f, trivial⟩ (q0l _)
  ·cases h
 ·cases h)
theorem qbdi : TabOk Tryz.prog q14 := Tad (f := 124) (e := e124) (qbdh) ⟨_, Tryz.func124, rfl, rfl⟩ (fun args p r h hp => by
 unfold e124 at h; split at h
 ·split at h
  ·rename_i h_f; cases h; exact (qbul (q0t qbdh follows) _ hp).le ⟨qh3 h_f, trivial⟩ (q0l _)
  ·cases h
 ·cases h)
theorem qbdj : TabOk Tryz.prog q15 := Tad (f := 113) (e := e113) (qbdi) ⟨_, Tryz.func113, rfl, rfl⟩ (fun args p r h hp => by
 unfold e113 at h; split at h
 ·split at h
  ·rename_i h_f; cases h; exact (qbum (q0t qbdi follows) _ hp).le ⟨qh3 h_f, trivial⟩ (q0l _)
  ·cases h
 ·cases h)
theorem qbdk : TabOk Tryz.prog q16 := Tad (f := 127) (e := e127) (qbdj) ⟨_, Tryz.func127, rfl, rfl⟩ (fun args p r h hp => by
 unfold e127 at h; split at h
 ·split at h
  ·rename_i h_f; cases h; exact (qbun (q0t qbdj follows) _ _ hp).le ⟨qeh h_f, q09 _, trivial⟩ (q0l _)
  ·cases h
 ·cases h)
theorem qbdl : TabOk Tryz.prog q17 := Tad (f := 114) (e := e114) (qbdk) ⟨_, Tryz.func114, rfl, rfl⟩ (fun args p r h hp => by
 unfold e114 at h; split at h
 ·split at h
  ·rename_i h_f; cases h; exact (qbuo (q0t qbdk follows) _ _ hp).le ⟨qeh h_f, q09 _, trivial⟩ (q0l _)
  ·cases h
 ·cases h)
theorem qbdm : TabOk Tryz.prog q18 := Tad (f := 102) (e := e102) (qbdl) ⟨_, Tryz.func102, rfl, rfl⟩ (fun args p r h hp => by
 unfold e102 at h; split at h
 ·split at h
  ·rename_i h_f; cases h; exact (qbup (q0t qbdl follows) _ _ hp).le ⟨qeh h_f, q09 _, trivial⟩ (q0l _)
  ·cases h
 ·cases h)
theorem qbj7 : TabOk Tryz.prog q70 := Tad (f := 87) (e := e87) (qbdm) ⟨_, Tryz.func87, rfl, rfl⟩ (fun args p r h hp => by
 unfold e87 at h; split at h
 ·split at h
  ·rename_i h_f; cases h; exact (qbz1 (q0t qbdm follows) _ _ hp).le ⟨qeh h_f, q09 _, trivial⟩ (q0l _)
  ·cases h
 ·cases h)
theorem qbj8 : TabOk Tryz.prog q71 := Tad (f := 97) (e := e97) (qbj7) ⟨_, Tryz.func97, rfl, rfl⟩ (fun args p r h hp => by
 unfold e97 at h; split at h
 ·split at h
  ·rename_i h_t; cases h; exact (qbz2 (q0t qbj7 follows) _ hp).le ⟨q07 h_t, trivial⟩ (q0l _)
  ·cases h
 ·cases h)
theorem qbj9 : TabOk Tryz.prog q72 := Tad (f := 84) (e := e84) (qbj8) ⟨_, Tryz.func84, rfl, rfl⟩ (fun args p r h hp => by
 unfold e84 at h; split at h
 ·split at h
  ·rename_i h_t; cases h; exact (qbz3 (q0t qbj8 follows) _ hp).le ⟨q07 h_t, trivial⟩ (q0l _)
  ·cases h
 ·cases h)
theorem qbka : TabOk Tryz.prog q73 := Tad (f := 71) (e := e71) (qbj9) ⟨_, Tryz.func71, rfl, rfl⟩ (fun args p r h hp => by
 unfold e71 at h; split at h
 ·split at h
  ·rename_i h_l; cases h; exact (qbz4 (q0t qbj9 follows) _ hp).le ⟨q00 qlg h_l, trivial⟩ (q0l _)
  ·cases h
 ·cases h)
theorem qbkb : TabOk Tryz.prog q74 := Tad (f := 72) (e := e72) (qbka) ⟨_, Tryz.func72, rfl, rfl⟩ (fun args p r h hp => by
 unfold e72 at h; split at h
 ·split at h
  ·rename_i h_l; cases h; exact (qbz5 (q0t qbka follows) _ hp).le ⟨q00 qoo h_l, trivial⟩ (q0l _)
  ·cases h
 ·cases h)
theorem qbkc : TabOk Tryz.prog q75 := Tad (f := 73) (e := e73) (qbkb) ⟨_, Tryz.func73, rfl, rfl⟩ (fun args p r h hp => by
 unfold e73 at h; split at h
 ·split at h
  ·rename_i h_l; cases h; exact (qbz6 (q0t qbkb follows) _ hp).le ⟨q00 ql6 h_l, trivial⟩ (q0l _)
  ·cases h
 ·cases h)
theorem qbkd : TabOk Tryz.prog q76 := Tad (f := 86) (e := e86) (qbkc) ⟨_, Tryz.func86, rfl, rfl⟩ (fun args p r h hp => by
 unfold e86 at h; split at h
 ·split at h
  ·rename_i h_t h_c; cases h; exact (qbz7 (q0t qbkc follows) _ _ hp).le ⟨q07 h_t, qe8 h_c, trivial⟩ (q0l _)
  ·cases h
 ·cases h)
theorem qbke : TabOk Tryz.prog q77 := Tad (f := 54) (e := e54) (qbkd) ⟨_, Tryz.func54, rfl, rfl⟩ (fun args p r h hp => by
 unfold e54 at h; split at h
 ·split at h
  ·rename_i h_t h_c; cases h; exact (qbz8 (q0t qbkd follows) _ _ hp).le ⟨q07 h_t, qe8 h_c, trivial⟩ (q0l _)
  ·cases h
 ·cases h)
theorem qbkf : TabOk Tryz.prog q78 := Tad (f := 55) (e := e55) (qbke) ⟨_, Tryz.func55, rfl, rfl⟩ (fun args p r h hp => by
 unfold e55 at h; split at h
 ·split at h
  ·rename_i h_t h_r; cases h; exact (qbz9 (q0t qbke follows) _ _ _ hp).le ⟨q07 h_t, q09 _, ql6 h_r, trivial⟩ (q0l _)
  ·cases h
 ·cases h)
theorem qbkg : TabOk Tryz.prog q79 := Tad (f := 30) (e := e30) (qbkf) ⟨_, Tryz.func30, rfl, rfl⟩ (fun args p r h hp => by
 unfold e30 at h; split at h
 ·split at h
  ·rename_i h_t h_c; cases h; exact (qb0a (q0t qbkf follows) _ _ hp).le ⟨q07 h_t, qe8 h_c, trivial⟩ (q0l _)
  ·cases h
 ·cases h)
theorem qbkh : TabOk Tryz.prog q8a := Tad (f := 42) (e := e42) (qbkg) ⟨_, Tryz.func42, rfl, rfl⟩ (fun args p r h hp => by
 unfold e42 at h; split at h
 ·split at h
  ·rename_i h_c; cases h; exact (qb0b (q0t qbkg follows) _).le ⟨qe8 h_c, trivial⟩ (q0l _)
  ·cases h
 ·cases h)
theorem qbki : TabOk Tryz.prog q8e := Tad (f := 98) (e := e98) (qbkh) ⟨_, Tryz.func98, rfl, rfl⟩ (fun args p r h hp => by
 unfold e98 at h; split at h
 ·split at h
  ·rename_i h_t; cases h; exact (qb0c (q0t qbkh follows) _ _).le ⟨q07 h_t, q09 _, trivial⟩ (q0l _)
  ·cases h
 ·cases h)
theorem qbkj : TabOk Tryz.prog q8f := Tad (f := 28) (e := e28) (qbki) ⟨_, Tryz.func28, rfl, rfl⟩ (fun args p r h hp => by
 unfold e28 at h; split at h
 ·split at h
  ·rename_i h_l; cases h; exact (qb0d (q0t qbki follows) _ _ hp).le ⟨q00 q07 h_l, q09 _, trivial⟩ (q0l _)
  ·cases h
 ·cases h)
theorem qbkk : TabOk Tryz.prog q8g := Tad (f := 74) (e := e74) (qbkj) ⟨_, Tryz.func74, rfl, rfl⟩ (fun args p r h hp => by
 unfold e74 at h; split at h
 ·split at h
  ·rename_i h_l; cases h; exact (qb0e (q0t qbkj follows) _ _ hp).le ⟨q00 q07 h_l, q09 _, trivial⟩ (q0l _)
  ·cases h
 ·cases h)
theorem qbkl : TabOk Tryz.prog q8h := Tad (f := 70) (e := e70) (qbkk) ⟨_, Tryz.func70, rfl, rfl⟩ (fun args p r h hp => by
 unfold e70 at h; split at h
 ·split at h
  ·rename_i h_l; cases h; exact (qb0f (q0t qbkk follows) _ hp).le ⟨q00 q07 h_l, trivial⟩ (q0l _)
  ·cases h
 ·cases h)
theorem qbkm : TabOk Tryz.prog q8i := Tad (f := 48) (e := e48) (qbkl) ⟨_, Tryz.func48, rfl, rfl⟩ (fun args p r h hp => by
 unfold e48 at h; split at h
 ·split at h
  ·rename_i h_x; cases h; exact (qb0g (q0t qbkl follows) _ _).le ⟨q02 h_x, q09 _, trivial⟩ (q0l _)
  ·cases h
 ·cases h)
theorem qbkn : TabOk Tryz.prog q8j := Tad (f := 53) (e := e53) (qbkm) ⟨_, Tryz.func53, rfl, rfl⟩ (fun args p r h hp => by
 unfold e53 at h; split at h
 ·split at h
  ·rename_i h_x; cases h; exact (qb0h (q0t qbkm follows) _ _).le ⟨q02 h_x, q09 _, trivial⟩ (q0l _)
  ·cases h
 ·cases h)
theorem qbko : TabOk Tryz.prog q8k := Tad (f := 45) (e := e45) (qbkn) ⟨_, Tryz.func45, rfl, rfl⟩ (fun args p r h hp => by
 unfold e45 at h; split at h
 ·split at h
  ·rename_i h_ts h_l; cases h; exact (qb0i (q0t qbkn follows) _ _ hp).le ⟨q00 q07 h_ts, q00 q02 h_l, trivial⟩ (q0l _)
  ·cases h
 ·cases h)
theorem qbkp : TabOk Tryz.prog q8m := Tad (f := 47) (e := e47) (qbko) ⟨_, Tryz.func47, rfl, rfl⟩ (fun args p r h hp => by
 unfold e47 at h; split at h
 ·split at h
  ·rename_i h_l h_w; cases h; exact (qb0k (q0t qbko follows) _ _ _ hp).le ⟨q00 q02 h_l, q09 _, q8d h_w, trivial⟩ (q0l _)
  ·cases h
 ·cases h)
theorem qbkq : TabOk Tryz.prog q8n := Tad (f := 46) (e := e46) (qbkp) ⟨_, Tryz.func46, rfl, rfl⟩ (fun args p r h hp => by
 unfold e46 at h; split at h
 ·split at h
  ·rename_i h_ts h_cs; cases h; exact (qb0l (q0t qbkp follows) _ _ hp).le ⟨q00 q07 h_ts, q00 qe8 h_cs, trivial⟩ (q0l _)
  ·cases h
 ·cases h)
theorem qbkr : TabOk Tryz.prog q8o := Tad (f := 19) (e := e19) (qbkq) ⟨_, Tryz.func19, rfl, rfl⟩ (fun args p r h hp => by
 unfold e19 at h; split at h
 ·split at h
  ·rename_i h_ts h_l; cases h; exact (qb0m (q0t qbkq follows) _ _ _ hp).le ⟨q00 q07 h_ts, q00 q02 h_l, q09 _, trivial⟩ (q0l _)
  ·cases h
 ·cases h)
theorem qbks : TabOk Tryz.prog q8p := Tad (f := 27) (e := e27) (qbkr) ⟨_, Tryz.func27, rfl, rfl⟩ (fun args p r h hp => by
 unfold e27 at h; split at h
 ·split at h
  ·rename_i h_ts h_l; cases h; exact (qb0n (q0t qbkr follows) _ _ _ hp).le ⟨q00 q07 h_ts, q00 q02 h_l, q09 _, trivial⟩ (q0l _)
  ·cases h
 ·cases h)
theorem qbkt : TabOk Tryz.prog q8q := Tad (f := 88) (e := e88) (qbks) ⟨_, Tryz.func88, rfl, rfl⟩ (fun args p r h hp => by
 unfold e88 at h; split at h
 ·split at h
  ·rename_i h_f; cases h; exact (qb0o (q0t qbks follows) _ hp).le ⟨qeh h_f, trivial⟩ (q0l _)
  ·cases h
 ·cases h)
theorem qbku : TabOk Tryz.prog q8r := Tad (f := 56) (e := e56) (qbkt) ⟨_, Tryz.func56, rfl, rfl⟩ (fun args p r h hp => by
 unfold e56 at h; split at h
 ·split at h
  ·rename_i h_f; cases h; exact (qb0p (q0t qbkt follows) _ hp).le ⟨qh3 h_f, trivial⟩ (q0l _)
  ·cases h
 ·cases h)
theorem qbkv : TabOk Tryz.prog q8s := Tad (f := 31) (e := e31) (qbku) ⟨_, Tryz.func31, rfl, rfl⟩ (fun args p r h hp => by
 unfold e31 at h; split at h
 ·split at h
  ·rename_i h_t; cases h; exact (qb0q (q0t qbku follows) _ hp).le ⟨q07 h_t, trivial⟩ (q0l _)
  ·cases h
 ·cases h)
theorem qbkw : TabOk Tryz.prog q8t := Tad (f := 12) (e := e12) (qbkv) ⟨_, Tryz.func12, rfl, rfl⟩ (fun args p r h hp => by
 unfold e12 at h; split at h
 ·split at h
  ·rename_i h_ts; cases h; exact (qb0r (q0t qbkv follows) _ hp).le ⟨q00 q07 h_ts, trivial⟩ (q0l _)
  ·cases h
 ·cases h)
theorem qbkx : TabOk Tryz.prog q8u := Tad (f := 64) (e := e64) (qbkw) ⟨_, Tryz.func64, rfl, rfl⟩ (fun args p r h hp => by
 unfold e64 at h; split at h
 ·split at h
  ·rename_i h_a h_b; cases h; exact (qb0s (q0t qbkw follows) _ _ hp).le ⟨q00 ql6 h_a, q00 ql6 h_b, trivial⟩ (q0l _)
  ·cases h
 ·cases h)
theorem qbky : TabOk Tryz.prog q8v := Tad (f := 93) (e := e93) (qbkx) ⟨_, Tryz.func93, rfl, rfl⟩ (fun args p r h hp => by
 unfold e93 at h; split at h
 ·split at h
  ·rename_i h_a h_b; cases h; exact (qb0t (q0t qbkx follows) _ _ hp).le ⟨qeh h_a, qeh h_b, trivial⟩ (q0l _)
  ·cases h
 ·cases h)
theorem qbkz : TabOk Tryz.prog q8w := Tad (f := 63) (e := e63) (qbky) ⟨_, Tryz.func63, rfl, rfl⟩ (fun args p r h hp => by
 unfold e63 at h; split at h
 ·split at h
  ·rename_i h_a h_b; cases h; exact (qb0u (q0t qbky follows) _ _ hp).le ⟨qh3 h_a, qh3 h_b, trivial⟩ (q0l _)
  ·cases h
 ·cases h)
theorem qbk0 : TabOk Tryz.prog q8x := Tad (f := 38) (e := e38) (qbkz) ⟨_, Tryz.func38, rfl, rfl⟩ (fun args p r h hp => by
 unfold e38 at h; split at h
 ·split at h
  ·rename_i h_a h_b; cases h; exact (qb0v (q0t qbkz follows) _ _ hp).le ⟨q07 h_a, q07 h_b, trivial⟩ (q0l _)
  ·cases h
 ·cases h)
theorem qbk1 : TabOk Tryz.prog q8y := Tad (f := 23) (e := e23) (qbk0) ⟨_, Tryz.func23, rfl, rfl⟩ (fun args p r h hp => by
 unfold e23 at h; split at h
 ·split at h
  ·rename_i h_f; cases h; exact (qb0w (q0t qbk0 follows) _).le ⟨qeh h_f, trivial⟩ (q0l _)
  ·cases h
 ·cases h)
theorem qbk2 : TabOk Tryz.prog q80 := Tad (f := 15) (e := e15) (qbk1) ⟨_, Tryz.func15, rfl, rfl⟩ (fun args p r h hp => by
 unfold e15 at h; split at h
 ·split at h
  ·rename_i h_a h_b; cases h; exact (qb0x (q0t qbk1 follows) _ _ hp).le ⟨q00 q07 h_a, q00 q07 h_b, trivial⟩ (q0l _)
  ·cases h
 ·cases h)
theorem tok8 : TabOk Tryz.prog tab8 := Tad (f := 8) (e := e8) (qbk2) ⟨_, Tryz.func8, rfl, rfl⟩ (fun args p r h hp => by
 unfold e8 at h; split at h
 ·split at h
  ·rename_i h_l; cases h; exact (con8 (q0t qbk2 follows) _).le ⟨q00 q07 h_l, trivial⟩ (q0l _)
  ·cases h
 ·cases h)
theorem qbk3 : TabOk Tryz.prog q83 := Tad (f := 21) (e := e21) (tok8) ⟨_, Tryz.func21, rfl, rfl⟩ (fun args p r h hp => by
 unfold e21 at h; split at h
 ·split at h
  ·rename_i h_l; cases h; exact (qb0y (q0t tok8 follows) _ hp).le ⟨q00 q07 h_l, trivial⟩ (q0l _)
  ·cases h
 ·cases h)
theorem qbdn : TabOk Tryz.prog q2q := Tad (f := 153) (e := e153) (qbk3) ⟨_, Tryz.func153, rfl, rfl⟩ (fun args p r h hp => by
 unfold e153 at h; split at h
 ·split at h
  ·rename_i h_t; cases h; exact (qbur (q0t qbk3 follows) _ hp).le ⟨qfy h_t, trivial⟩ (q0l _)
  ·cases h
 ·cases h)
theorem qbdo : TabOk Tryz.prog q2r := Tad (f := 154) (e := e154) (qbdn) ⟨_, Tryz.func154, rfl, rfl⟩ (fun args p r h hp => by
 unfold e154 at h; split at h
 ·cases h; exact qbus (q0t qbdn follows) _ _ _ hp
 ·cases h)
theorem qbdp : TabOk Tryz.prog q2s := Tad (f := 176) (e := e176) (qbdo) ⟨_, Tryz.func176, rfl, rfl⟩ (fun args p r h hp => by
 unfold e176 at h; split at h
 ·cases h; exact qbut (q0t qbdo follows) _ hp
 ·cases h)
theorem qbdq : TabOk Tryz.prog q2t := Tad (f := 175) (e := e175) (qbdp) ⟨_, Tryz.func175, rfl, rfl⟩ (fun args p r h hp => by
 unfold e175 at h; split at h
 ·cases h; exact qbuu (q0t qbdp follows) _
 ·cases h)
theorem qbdr : TabOk Tryz.prog q2u := Tad (f := 177) (e := e177) (qbdq) ⟨_, Tryz.func177, rfl, rfl⟩ (fun args p r h hp => by
 unfold e177 at h; split at h
 ·cases h; exact qbuv (q0t qbdq follows) _ _
 ·cases h)
theorem qbds : TabOk Tryz.prog q2v := Tad (f := 152) (e := e152) (qbdr) ⟨_, Tryz.func152, rfl, rfl⟩ (fun args p r h hp => by
 unfold e152 at h; split at h
 ·split at h
  ·rename_i h_t; cases h; exact (qbuw (q0t qbdr follows) _).le ⟨qfy h_t, trivial⟩ (q0l _)
  ·cases h
 ·cases h)
theorem qbdt : TabOk Tryz.prog q2w := Tad (f := 155) (e := e155) (qbds) ⟨_, Tryz.func155, rfl, rfl⟩ (fun args p r h hp => by
 unfold e155 at h; split at h
 ·split at h
  ·rename_i h_t; cases h; exact (qbux (q0t qbds follows) _ hp).le ⟨qfy h_t, trivial⟩ (q0l _)
  ·cases h
 ·cases h)
theorem qbdu : TabOk Tryz.prog q2x := Tad (f := 156) (e := e156) (qbdt) ⟨_, Tryz.func156, rfl, rfl⟩ (fun args p r h hp => by
 unfold e156 at h; split at h
 ·cases h; exact qbuy (q0t qbdt follows) _ hp
 ·cases h)
theorem qbdv : TabOk Tryz.prog q2y := Tad (f := 157) (e := e157) (qbdu) ⟨_, Tryz.func157, rfl, rfl⟩ (fun args p r h hp => by
 unfold e157 at h; split at h
 ·split at h
  ·rename_i h_t; cases h; exact (qbuz (q0t qbdu follows) _ _ hp).le ⟨qfy h_t, q09 _, trivial⟩ (q0l _)
  ·cases h
 ·cases h)
theorem qbdw : TabOk Tryz.prog q2z := Tad (f := 131) (e := e131) (qbdv) ⟨_, Tryz.func131, rfl, rfl⟩ (fun args p r h hp => by
 unfold e131 at h; split at h
 ·split at h
  ·rename_i h_t; cases h; exact (qbu0 (q0t qbdv follows) _ _).le ⟨qfy h_t, q09 _, trivial⟩ (q0l _)
  ·cases h
 ·cases h)
theorem qbdx : TabOk Tryz.prog q20 := Tad (f := 174) (e := e174) (qbdw) ⟨_, Tryz.func174, rfl, rfl⟩ (fun args p r h hp => by
 unfold e174 at h; split at h
 ·split at h
  ·rename_i h_f; cases h; exact (qbu1 (q0t qbdw follows) _ _ hp).le ⟨qeh h_f, q09 _, trivial⟩ (q0l _)
  ·cases h
 ·cases h)
theorem qbdy : TabOk Tryz.prog q21 := Tad (f := 151) (e := e151) (qbdx) ⟨_, Tryz.func151, rfl, rfl⟩ (fun args p r h hp => by
 unfold e151 at h; split at h
 ·split at h
  ·rename_i h_f; cases h; exact (qbu2 (q0t qbdx follows) _ hp).le ⟨qeh h_f, trivial⟩ (q0l _)
  ·cases h
 ·cases h)
theorem qbdz : TabOk Tryz.prog q22 := Tad (f := 173) (e := e173) (qbdy) ⟨_, Tryz.func173, rfl, rfl⟩ (fun args p r h hp => by
 unfold e173 at h; split at h
 ·split at h
  ·rename_i h_f; cases h; exact (qbu3 (q0t qbdy follows) _ hp).le ⟨qeh h_f, trivial⟩ (q0l _)
  ·cases h
 ·cases h)
theorem qbd0 : TabOk Tryz.prog q23 := Tad (f := 149) (e := e149) (qbdz) ⟨_, Tryz.func149, rfl, rfl⟩ (fun args p r h hp => by
 unfold e149 at h; split at h
 ·split at h
  ·rename_i h_f; cases h; exact (qbu4 (q0t qbdz follows) _ hp).le ⟨qeh h_f, trivial⟩ (q0l _)
  ·cases h
 ·cases h)
theorem qbd1 : TabOk Tryz.prog q24 := Tad (f := 150) (e := e150) (qbd0) ⟨_, Tryz.func150, rfl, rfl⟩ (fun args p r h hp => by
 unfold e150 at h; split at h
 ·split at h
  ·rename_i h_f; cases h; exact (qbu5 (q0t qbd0 follows) _ hp).le ⟨qh3 h_f, trivial⟩ (q0l _)
  ·cases h
 ·cases h)
theorem qbd2 : TabOk Tryz.prog q25 := Tad (f := 128) (e := e128) (qbd1) ⟨_, Tryz.func128, rfl, rfl⟩ (fun args p r h hp => by
 unfold e128 at h; split at h
 ·split at h
  ·rename_i h_f; cases h; exact (qbu6 (q0t qbd1 follows) _ hp).le ⟨qh3 h_f, trivial⟩ (q0l _)
  ·cases h
 ·cases h)
theorem qbd3 : TabOk Tryz.prog q26 := Tad (f := 115) (e := e115) (qbd2) ⟨_, Tryz.func115, rfl, rfl⟩ (fun args p r h hp => by
 unfold e115 at h; split at h
 ·split at h
  ·rename_i h_f; cases h; exact (qbu7 (q0t qbd2 follows) _ hp).le ⟨qh3 h_f, trivial⟩ (q0l _)
  ·cases h
 ·cases h)
theorem qbd4 : TabOk Tryz.prog q27 := Tad (f := 103) (e := e103) (qbd3) ⟨_, Tryz.func103, rfl, rfl⟩ (fun args p r h hp => by
 unfold e103 at h; split at h
 ·split at h
  ·rename_i h_f; cases h; exact (qbu8 (q0t qbd3 follows) _ hp).le ⟨qh3 h_f, trivial⟩ (q0l _)
  ·cases h
 ·cases h)
theorem qbd5 : TabOk Tryz.prog q28 := Tad (f := 129) (e := e129) (qbd4) ⟨_, Tryz.func129, rfl, rfl⟩ (fun args p r h hp => by
 unfold e129 at h; split at h
 ·split at h
  ·rename_i h_f; cases h; exact (qbu9 (q0t qbd4 follows) _ hp).le ⟨qeh h_f, trivial⟩ (q0l _)
  ·cases h
 ·cases h)
theorem qbd6 : TabOk Tryz.prog q29 := Tad (f := 130) (e := e130) (qbd5) ⟨_, Tryz.func130, rfl, rfl⟩ (fun args p r h hp => by
 unfold e130 at h; split at h
 ·split at h
  ·rename_i h_f; cases h; exact (qbva (q0t qbd5 follows) _ hp).le ⟨qeh h_f, trivial⟩ (q0l _)
  ·cases h
 ·cases h)
theorem qbd7 : TabOk Tryz.prog q3a := Tad (f := 158) (e := e158) (qbd6) ⟨_, Tryz.func158, rfl, rfl⟩ (fun args p r h hp => by
 unfold e158 at h; split at h
 ·split at h
  ·rename_i h_f; cases h; exact (qbvb (q0t qbd6 follows) _ _ hp).le ⟨qeh h_f, q09 _, trivial⟩ (q0l _)
  ·cases h
 ·cases h)
theorem qbd8 : TabOk Tryz.prog q3b := Tad (f := 132) (e := e132) (qbd7) ⟨_, Tryz.func132, rfl, rfl⟩ (fun args p r h hp => by
 unfold e132 at h; split at h
 ·split at h
  ·rename_i h_f; cases h; exact (qbvc (q0t qbd7 follows) _ _ _ hp).le ⟨qeh h_f, q09 _, q09 _, trivial⟩ (q0l _)
  ·cases h
 ·cases h)
theorem qbd9 : TabOk Tryz.prog q3c := Tad (f := 116) (e := e116) (qbd8) ⟨_, Tryz.func116, rfl, rfl⟩ (fun args p r h hp => by
 unfold e116 at h; split at h
 ·split at h
  ·rename_i h_f; cases h; exact (qbvd (q0t qbd8 follows) _ _ hp).le ⟨qeh h_f, q09 _, trivial⟩ (q0l _)
  ·cases h
 ·cases h)
theorem qbea : TabOk Tryz.prog q3d := Tad (f := 104) (e := e104) (qbd9) ⟨_, Tryz.func104, rfl, rfl⟩ (fun args p r h hp => by
 unfold e104 at h; split at h
 ·split at h
  ·rename_i h_f; cases h; exact (qbve (q0t qbd9 follows) _ _ hp).le ⟨qeh h_f, q09 _, trivial⟩ (q0l _)
  ·cases h
 ·cases h)
theorem qbk4 : TabOk Tryz.prog q87 := Tad (f := 89) (e := e89) (qbea) ⟨_, Tryz.func89, rfl, rfl⟩ (fun args p r h hp => by
 unfold e89 at h; split at h
 ·split at h
  ·rename_i h_t; cases h; exact (qb0z (q0t qbea follows) _ hp).le ⟨q07 h_t, trivial⟩ (q0l _)
  ·cases h
 ·cases h)
theorem qbk5 : TabOk Tryz.prog q88 := Tad (f := 58) (e := e58) (qbk4) ⟨_, Tryz.func58, rfl, rfl⟩ (fun args p r h hp => by
 unfold e58 at h; split at h
 ·split at h
  ·rename_i h_t; cases h; exact (qb00 (q0t qbk4 follows) _ hp).le ⟨q07 h_t, trivial⟩ (q0l _)
  ·cases h
 ·cases h)
theorem qbeb : TabOk Tryz.prog q3g := Tad (f := 119) (e := e119) (qbk5) ⟨_, Tryz.func119, rfl, rfl⟩ (fun args p r h hp => by
 unfold e119 at h; split at h
 ·split at h
  ·rename_i h_t; cases h; exact (qbvf (q0t qbk5 follows) _ _ hp).le ⟨q07 h_t, q09 _, trivial⟩ (q0l _)
  ·cases h
 ·cases h)
theorem qbec : TabOk Tryz.prog q3h := Tad (f := 31) (e := e31o) (qbeb) ⟨_, Tryz.func31, rfl, rfl⟩ (fun args p r h hp => by
 unfold e31o at h; split at h
 ·split at h
  ·rename_i h_t; cases h; exact (qbvg (q0t qbeb follows) _ hp).le ⟨q07 h_t, trivial⟩ (q0l _)
  ·cases h
 ·cases h)
theorem qbed : TabOk Tryz.prog q3i := Tad (f := 120) (e := e120) (qbec) ⟨_, Tryz.func120, rfl, rfl⟩ (fun args p r h hp => by
 unfold e120 at h; split at h
 ·split at h
  ·rename_i h_t h_r; cases h; exact (qbvh (q0t qbec follows) _ _ _ hp).le ⟨q07 h_t, q09 _, ql6 h_r, trivial⟩ (q0l _)
  ·cases h
 ·cases h)
theorem qbee : TabOk Tryz.prog q3j := Tad (f := 108) (e := e108) (qbed) ⟨_, Tryz.func108, rfl, rfl⟩ (fun args p r h hp => by
 unfold e108 at h; split at h
 ·split at h
  ·rename_i h_t h_c; cases h; exact (qbvi (q0t qbed follows) _ _ hp).le ⟨q07 h_t, qe8 h_c, trivial⟩ (q0l _)
  ·cases h
 ·cases h)
theorem qbef : TabOk Tryz.prog q3k := Tad (f := 109) (e := e109) (qbee) ⟨_, Tryz.func109, rfl, rfl⟩ (fun args p r h hp => by
 unfold e109 at h; split at h
 ·split at h
  ·rename_i h_t h_c; cases h; exact (qbvj (q0t qbee follows) _ _ hp).le ⟨q07 h_t, qe8 h_c, trivial⟩ (q0l _)
  ·cases h
 ·cases h)
theorem qbk6 : TabOk Tryz.prog q9a := Tad (f := 92) (e := e92) (qbef) ⟨_, Tryz.func92, rfl, rfl⟩ (fun args p r h hp => by
 unfold e92 at h; split at h
 ·split at h
  ·rename_i h_t h_c; cases h; exact (qb01 (q0t qbef follows) _ _ hp).le ⟨q07 h_t, qe8 h_c, trivial⟩ (q0l _)
  ·cases h
 ·cases h)
theorem qbk7 : TabOk Tryz.prog q9b := Tad (f := 36) (e := e36) (qbk6) ⟨_, Tryz.func36, rfl, rfl⟩ (fun args p r h hp => by
 unfold e36 at h; split at h
 ·split at h
  ·rename_i h_c; cases h; exact (qb02 (q0t qbk6 follows) _).le ⟨qe8 h_c, trivial⟩ (q0l _)
  ·cases h
 ·cases h)
theorem qbk8 : TabOk Tryz.prog q9c := Tad (f := 59) (e := e59) (qbk7) ⟨_, Tryz.func59, rfl, rfl⟩ (fun args p r h hp => by
 unfold e59 at h; split at h
 ·split at h
  ·rename_i h_l; cases h; exact (qb03 (q0t qbk7 follows) _ _ hp).le ⟨q00 q07 h_l, q09 _, trivial⟩ (q0l _)
  ·cases h
 ·cases h)
theorem qbk9 : TabOk Tryz.prog q9d := Tad (f := 33) (e := e33) (qbk8) ⟨_, Tryz.func33, rfl, rfl⟩ (fun args p r h hp => by
 unfold e33 at h; split at h
 ·split at h
  ·rename_i h_l; cases h; exact (qb04 (q0t qbk8 follows) _ hp).le ⟨q00 q07 h_l, trivial⟩ (q0l _)
  ·cases h
 ·cases h)
theorem qbeg : TabOk Tryz.prog q3l := Tad (f := 31) (e := e31d) (qbk9) ⟨_, Tryz.func31, rfl, rfl⟩ (fun args p r h hp => by
 unfold e31d at h; split at h
 ·split at h
  ·rename_i h_t; cases h; exact (qbvk (q0t qbk9 follows) _ hp).le ⟨q07 h_t, trivial⟩ (q0l _)
  ·cases h
 ·cases h)
theorem qbla : TabOk Tryz.prog q9e := Tad (f := 61) (e := e61) (qbeg) ⟨_, Tryz.func61, rfl, rfl⟩ (fun args p r h hp => by
 unfold e61 at h; split at h
 ·split at h
  ·rename_i h_x h_c; cases h; exact (qb05 (q0t qbeg follows) _ _ hp).le ⟨q89 h_x, qe8 h_c, trivial⟩ (q0l _)
  ·cases h
 ·cases h)
theorem qblb : TabOk Tryz.prog q9f := Tad (f := 37) (e := e37) (qbla) ⟨_, Tryz.func37, rfl, rfl⟩ (fun args p r h hp => by
 unfold e37 at h; split at h
 ·split at h
  ·rename_i h_ts h_cs; cases h; exact (qb06 (q0t qbla follows) _ _ hp).le ⟨q00 q07 h_ts, q00 qe8 h_cs, trivial⟩ (q0l _)
  ·cases h
 ·cases h)
theorem qblc : TabOk Tryz.prog q9g := Tad (f := 68) (e := e68) (qblb) ⟨_, Tryz.func68, rfl, rfl⟩ (fun args p r h hp => by
 unfold e68 at h; split at h
 ·split at h
  ·rename_i h_ts h_l; cases h; exact (qb07 (q0t qblb follows) _ _ hp).le ⟨q00 q07 h_ts, q00 q02 h_l, trivial⟩ (q0l _)
  ·cases h
 ·cases h)
theorem qbld : TabOk Tryz.prog q9h := Tad (f := 96) (e := e96) (qblc) ⟨_, Tryz.func96, rfl, rfl⟩ (fun args p r h hp => by
 unfold e96 at h; split at h
 ·split at h
  ·rename_i h_l; cases h; exact (qb08 (q0t qblc follows) _ _ hp).le ⟨q00 ql3 h_l, q09 _, trivial⟩ (q0l _)
  ·cases h
 ·cases h)
theorem qble : TabOk Tryz.prog q9i := Tad (f := 67) (e := e67) (qbld) ⟨_, Tryz.func67, rfl, rfl⟩ (fun args p r h hp => by
 unfold e67 at h; split at h
 ·split at h
  ·rename_i h_l; cases h; exact (qb09 (q0t qbld follows) _ _ hp).le ⟨q00 ql3 h_l, q09 _, trivial⟩ (q0l _)
  ·cases h
 ·cases h)
theorem qbeh : TabOk Tryz.prog q3o := Tad (f := 48) (e := e48z) (qble) ⟨_, Tryz.func48, rfl, rfl⟩ (fun args p r h hp => by
 unfold e48z at h; split at h
 ·split at h
  ·rename_i h_x; cases h; exact (qbvl (q0t qble follows) _ _).le ⟨q02 h_x, q09 _, trivial⟩ (q0l _)
  ·cases h
 ·cases h)
theorem qbei : TabOk Tryz.prog q3p := Tad (f := 53) (e := e53z) (qbeh) ⟨_, Tryz.func53, rfl, rfl⟩ (fun args p r h hp => by
 unfold e53z at h; split at h
 ·split at h
  ·rename_i h_x; cases h; exact (qbvm (q0t qbeh follows) _ _).le ⟨q02 h_x, q09 _, trivial⟩ (q0l _)
  ·cases h
 ·cases h)
theorem qblf : TabOk Tryz.prog q9j := Tad (f := 66) (e := e66) (qbei) ⟨_, Tryz.func66, rfl, rfl⟩ (fun args p r h hp => by
 unfold e66 at h; split at h
 ·split at h
  ·rename_i h_x h_u; cases h; exact (qb1a (q0t qbei follows) _ _ hp).le ⟨q02 h_x, ⟨q00 ql3 h_u, trivial⟩, trivial⟩ (q0l _)
  ·cases h
 ·cases h)
theorem qbej : TabOk Tryz.prog q3q := Tad (f := 47) (e := e47z) (qblf) ⟨_, Tryz.func47, rfl, rfl⟩ (fun args p r h hp => by
 unfold e47z at h; split at h
 ·split at h
  ·rename_i h_l h_w; cases h; exact (qbvn (q0t qblf follows) _ _ _ hp).le ⟨q00 q02 h_l, q09 _, q43 h_w, trivial⟩ (q0l _)
  ·cases h
 ·cases h)
theorem qblg : TabOk Tryz.prog q9l := Tad (f := 65) (e := e65) (qbej) ⟨_, Tryz.func65, rfl, rfl⟩ (fun args p r h hp => by
 unfold e65 at h; split at h
 ·split at h
  ·rename_i h_us; cases h; exact (qb1b (q0t qbej follows) _ hp).le ⟨qbgu h_us, trivial⟩ (q0l _)
  ·cases h
 ·cases h)
theorem qblh : TabOk Tryz.prog q9m := Tad (f := 69) (e := e69) (qblg) ⟨_, Tryz.func69, rfl, rfl⟩ (fun args p r h hp => by
 unfold e69 at h; split at h
 ·split at h
  ·rename_i h_l; cases h; exact (qb1c (q0t qblg follows) _ hp).le ⟨q00 q02 h_l, trivial⟩ (q0l _)
  ·cases h
 ·cases h)
theorem qbli : TabOk Tryz.prog q9n := Tad (f := 39) (e := e39) (qblh) ⟨_, Tryz.func39, rfl, rfl⟩ (fun args p r h hp => by
 unfold e39 at h; split at h
 ·split at h
  ·rename_i h_ts h_l; cases h; exact (qb1d (q0t qblh follows) _ _ hp).le ⟨q00 q07 h_ts, q00 q02 h_l, trivial⟩ (q0l _)
  ·cases h
 ·cases h)
theorem qblj : TabOk Tryz.prog q9o := Tad (f := 43) (e := e43) (qbli) ⟨_, Tryz.func43, rfl, rfl⟩ (fun args p r h hp => by
 unfold e43 at h; split at h
 ·split at h
  ·rename_i h_ts h_l; cases h; exact (qb1e (q0t qbli follows) _ _ hp).le ⟨q00 q07 h_ts, q00 q02 h_l, trivial⟩ (q0l _)
  ·cases h
 ·cases h)
theorem qblk : TabOk Tryz.prog q9q := Tad (f := 26) (e := e26) (qblj) ⟨_, Tryz.func26, rfl, rfl⟩ (fun args p r h hp => by
 unfold e26 at h; split at h
 ·split at h
  ·rename_i h_a h_b; cases h; exact (qb1f (q0t qblj follows) _ _ hp).le ⟨q00 q02 h_a, q00 q02 h_b, trivial⟩ (q0l _)
  ·cases h
 ·cases h)
theorem qbll : TabOk Tryz.prog q9r := Tad (f := 35) (e := e35) (qblk) ⟨_, Tryz.func35, rfl, rfl⟩ (fun args p r h hp => by
 unfold e35 at h; split at h
 ·split at h
  ·rename_i h_l h_first; cases h; exact (qb1g (q0t qblk follows) _ _ hp).le ⟨q00 q02 h_l, q00 q02 h_first, trivial⟩ (q0l _)
  ·cases h
 ·cases h)
theorem qblm : TabOk Tryz.prog q9s := Tad (f := 32) (e := e32) (qbll) ⟨_, Tryz.func32, rfl, rfl⟩ (fun args p r h hp => by
 unfold e32 at h; split at h
 ·split at h
  ·rename_i h_x; cases h; exact (qb1h (q0t qbll follows) _ hp).le ⟨qej h_x, trivial⟩ (q0l _)
  ·cases h
 ·cases h)
theorem qbln : TabOk Tryz.prog q9t := Tad (f := 24) (e := e24) (qblm) ⟨_, Tryz.func24, rfl, rfl⟩ (fun args p r h hp => by
 unfold e24 at h; split at h
 ·split at h
  ·rename_i h_x; cases h; exact (qb1i (q0t qblm follows) _ hp).le ⟨qej h_x, trivial⟩ (q0l _)
  ·cases h
 ·cases h)
theorem qblo : TabOk Tryz.prog q9u := Tad (f := 40) (e := e40) (qbln) ⟨_, Tryz.func40, rfl, rfl⟩ (fun args p r h hp => by
 unfold e40 at h; split at h
 ·split at h
  ·rename_i h_l; cases h; exact (qb1j (q0t qbln follows) _ hp).le ⟨q00 q02 h_l, trivial⟩ (q0l _)
  ·cases h
 ·cases h)
theorem qblp : TabOk Tryz.prog q9v := Tad (f := 78) (e := e78) (qblo) ⟨_, Tryz.func78, rfl, rfl⟩ (fun args p r h hp => by
 unfold e78 at h; split at h
 ·split at h
  ·rename_i h_l; cases h; exact (qb1k (q0t qblo follows) _ hp).le ⟨q00 qks h_l, trivial⟩ (q0l _)
  ·cases h
 ·cases h)
theorem qblq : TabOk Tryz.prog q9w := Tad (f := 50) (e := e50) (qblp) ⟨_, Tryz.func50, rfl, rfl⟩ (fun args p r h hp => by
 unfold e50 at h; split at h
 ·split at h
  ·rename_i h_x; cases h; exact (qb1l (q0t qblp follows) _ hp).le ⟨qej h_x, trivial⟩ (q0l _)
  ·cases h
 ·cases h)
theorem qblr : TabOk Tryz.prog q9x := Tad (f := 11) (e := e11) (qblq) ⟨_, Tryz.func11, rfl, rfl⟩ (fun args p r h hp => by
 unfold e11 at h; split at h
 ·split at h
  ·rename_i h_x; cases h; exact (qb1m (q0t qblq follows) _ hp).le ⟨qej h_x, trivial⟩ (q0l _)
  ·cases h
 ·cases h)
theorem tok7 : TabOk Tryz.prog tab7 := Tad (f := 7) (e := e7) (qblr) ⟨_, Tryz.func7, rfl, rfl⟩ (fun args p r h hp => by
 unfold e7 at h; split at h
 ·split at h
  ·rename_i h_x; cases h; exact (con7 (q0t qblr follows) _).le ⟨qej h_x, trivial⟩ (q0l _)
  ·cases h
 ·cases h)
theorem qbls : TabOk Tryz.prog q9y := Tad (f := 99) (e := e99) (tok7) ⟨_, Tryz.func99, rfl, rfl⟩ (fun args p r h hp => by
 unfold e99 at h; split at h
 ·split at h
  ·rename_i h_x; cases h; exact (qb1n (q0t tok7 follows) _ hp).le ⟨qej h_x, trivial⟩ (q0l _)
  ·cases h
 ·cases h)
theorem en80 : qld Tryz.prog 80 := ⟨_, Tryz.func80, rfl, rfl⟩
theorem so80 (args : List O) (p : Prop) (r : O) (h : e80 args = some (p, r)) (hp : p) : Sem Tryz.prog 80 args r := by
 unfold e80 at h
 split at h
 ·split at h
  ·rename_i s i j _ l hl
   cases h
   obtain ⟨h1, h2, h3, h4⟩ := hp
   subst h4
   obtain ⟨n, rfl⟩ : ∃ n : Nat, i = n := ⟨i.toNat, by omega⟩
   exact (qb1o (q0t qbls follows) l n ⟨h1, by omega⟩).le ⟨⟨rfl, rfl, ql4 qks hl⟩, q09 _, q09 _, trivial⟩ (q0l _)
  ·cases h
 ·cases h
theorem qblt : TabOk Tryz.prog q9z := Tad (qbls) en80 so80
theorem qblu : TabOk Tryz.prog q90 := Tad (f := 81) (e := e81) (qblt) ⟨_, Tryz.func81, rfl, rfl⟩ (fun args p r h hp => by
 unfold e81 at h; split at h
 ·split at h
  ·rename_i h_x h_p; cases h; exact (qb1p (q0t qblt follows) _ _ hp).le ⟨qpi h_x, qks h_p, trivial⟩ (q0l _)
  ·cases h
 ·cases h)
theorem qblv : TabOk Tryz.prog q91 := Tad (f := 79) (e := e79) (qblu) ⟨_, Tryz.func79, rfl, rfl⟩ (fun args p r h hp => by
 unfold e79 at h; split at h
 ·split at h
  ·rename_i h_x h_entry; cases h; exact (qb1q (q0t qblu follows) _ _ hp).le ⟨qpi h_x, q02 h_entry, trivial⟩ (q0l _)
  ·cases h
 ·cases h)
theorem qblw : TabOk Tryz.prog q92 := Tad (f := 51) (e := e51) (qblv) ⟨_, Tryz.func51, rfl, rfl⟩ (fun args p r h hp => by
 unfold e51 at h; split at h
 ·split at h
  ·rename_i h_x h_a; cases h; exact (qb1r (q0t qblv follows) _ _ hp).le ⟨qej h_x, qvz h_a, trivial⟩ (q0l _)
  ·cases h
 ·cases h)
theorem qbek : TabOk Tryz.prog q3z := Tad (f := 50) (e := e50d) (qblw) ⟨_, Tryz.func50, rfl, rfl⟩ (fun args p r h hp => by
 unfold e50d at h; split at h
 ·split at h
  ·rename_i h_x; cases h; exact (qbvq (q0t qblw follows) _ hp).le ⟨qej h_x, trivial⟩ (q0l _)
  ·cases h
 ·cases h)
theorem qblx : TabOk Tryz.prog q93 := Tad (f := 22) (e := e22) (qbek) ⟨_, Tryz.func22, rfl, rfl⟩ (fun args p r h hp => by
 unfold e22 at h; split at h
 ·split at h
  ·rename_i h_x h_l; cases h; exact (qb1s (q0t qbek follows) _ _ hp).le ⟨qej h_x, q00 qvz h_l, trivial⟩ (q0l _)
  ·cases h
 ·cases h)
theorem qbel : TabOk Tryz.prog q30 := Tad (f := 11) (e := e11d) (qblx) ⟨_, Tryz.func11, rfl, rfl⟩ (fun args p r h hp => by
 unfold e11d at h; split at h
 ·split at h
  ·rename_i h_x; cases h; exact (qbvr (q0t qblx follows) _ hp).le ⟨qej h_x, trivial⟩ (q0l _)
  ·cases h
 ·cases h)
theorem tok6 : TabOk Tryz.prog tab6 := Tad (f := 6) (e := e6) (qbel) ⟨_, Tryz.func6, rfl, rfl⟩ (fun args p r h hp => by
 unfold e6 at h; split at h
 ·cases h; exact con6 (q0t qbel follows)
 ·cases h)
theorem qbem : TabOk Tryz.prog q31 := Tad (f := 46) (e := e46o) (tok6) ⟨_, Tryz.func46, rfl, rfl⟩ (fun args p r h hp => by
 unfold e46o at h; split at h
 ·split at h
  ·rename_i h_ts h_cs; cases h; exact (qbvt (q0t tok6 follows) _ _ hp).le ⟨q00 q07 h_ts, q00 qe8 h_cs, trivial⟩ (q0l _)
  ·cases h
 ·cases h)
theorem qben : TabOk Tryz.prog q32 := Tad (f := 27) (e := e27o) (qbem) ⟨_, Tryz.func27, rfl, rfl⟩ (fun args p r h hp => by
 unfold e27o at h; split at h
 ·split at h
  ·rename_i h_ts h_l; cases h; exact (qbvu (q0t qbem follows) _ _ _ hp).le ⟨q00 q07 h_ts, q00 q02 h_l, q09 _, trivial⟩ (q0l _)
  ·cases h
 ·cases h)
theorem qbly : TabOk Tryz.prog q94 := Tad (f := 29) (e := e29) (qben) ⟨_, Tryz.func29, rfl, rfl⟩ (fun args p r h hp => by
 unfold e29 at h; split at h
 ·split at h
  ·rename_i h_t h_y; cases h; exact (qb1t (q0t qben follows) _ _).le ⟨q07 h_t, q3y (g := fun x => (q0h x).body) q02 h_y, trivial⟩ (q0l _)
  ·cases h
 ·cases h)
theorem qbeo : TabOk Tryz.prog q33 := Tad (f := 28) (e := e28y) (qbly) ⟨_, Tryz.func28, rfl, rfl⟩ (fun args p r h hp => by
 unfold e28y at h; split at h
 ·split at h
  ·rename_i h_l h_y; cases h; exact (qbvv (q0t qbly follows) _ _ hp).le ⟨q00 q07 h_l, ⟨rfl, q3y (g := fun x => (q0h x).body) q02 h_y, trivial⟩, trivial⟩ (q0l _)
  ·cases h
 ·cases h)
theorem qblz : TabOk Tryz.prog q95 := Tad (f := 10) (e := e10) (qbeo) ⟨_, Tryz.func10, rfl, rfl⟩ (fun args p r h hp => by
 unfold e10 at h; split at h
 ·split at h
  ·rename_i h_x h_ts h_l; cases h; exact (qb1u (q0t qbeo follows) _ _ _ hp).le ⟨qej h_x, q00 q07 h_ts, q00 q02 h_l, trivial⟩ (q0l _)
  ·cases h
 ·cases h)
theorem qbl0 : TabOk Tryz.prog q96 := Tad (f := 14) (e := e14) (qblz) ⟨_, Tryz.func14, rfl, rfl⟩ (fun args p r h hp => by
 unfold e14 at h; split at h
 ·split at h
  ·rename_i h_x h_ts h_l; cases h; exact (qb1v (q0t qblz follows) _ _ _ hp).le ⟨qej h_x, q00 q07 h_ts, q00 q02 h_l, trivial⟩ (q0l _)
  ·cases h
 ·cases h)
theorem qbl1 : TabOk Tryz.prog q97 := Tad (f := 41) (e := e41) (qbl0) ⟨_, Tryz.func41, rfl, rfl⟩ (fun args p r h hp => by
 unfold e41 at h; split at h
 ·split at h
  ·rename_i h_y h_l; cases h; exact (qb1w (q0t qbl0 follows) _ _ hp).le ⟨q02 h_y, ⟨rfl, ⟨rfl, rfl, ql4 q02 h_l⟩, trivial⟩, trivial⟩ (q0l _)
  ·cases h
 ·cases h)
theorem qbl2 : TabOk Tryz.prog q98 := Tad (f := 16) (e := e16) (qbl1) ⟨_, Tryz.func16, rfl, rfl⟩ (fun args p r h hp => by
 unfold e16 at h; split at h
 ·split at h
  ·rename_i h_x h_ts; cases h; exact (qb1x (q0t qbl1 follows) _ _ hp).le ⟨qej h_x, q00 q07 h_ts, trivial⟩ (q0l _)
  ·cases h
 ·cases h)
theorem qbl3 : TabOk Tryz.prog q99 := Tad (f := 44) (e := e44) (qbl2) ⟨_, Tryz.func44, rfl, rfl⟩ (fun args p r h hp => by
 unfold e44 at h; split at h
 ·split at h
  ·rename_i h_l; cases h; exact (qb1y (q0t qbl2 follows) _ hp).le ⟨q00 q02 h_l, trivial⟩ (q0l _)
  ·cases h
 ·cases h)
theorem qbae : TabOk Tryz.prog qbaa := Tad (f := 17) (e := e17) (qbl3) ⟨_, Tryz.func17, rfl, rfl⟩ (fun args p r h hp => by
 unfold e17 at h; split at h
 ·split at h
  ·rename_i h_x h_ts; cases h; exact (qb1z (q0t qbl3 follows) _ _ hp).le ⟨qej h_x, q00 q07 h_ts, trivial⟩ (q0l _)
  ·cases h
 ·cases h)
theorem tok3 : TabOk Tryz.prog tab3 := Tad (f := 3) (e := e3) (qbae) ⟨_, Tryz.func3, rfl, rfl⟩ (fun args p r h hp => by
 unfold e3 at h; split at h
 ·split at h
  ·rename_i h_x h_ts h_l; cases h; exact (con3 (q0t qbae follows) _ _ _).le ⟨qej h_x, q00 q07 h_ts, q00 q02 h_l, trivial⟩ (q0l _)
  ·cases h
 ·cases h)
theorem tok4 : TabOk Tryz.prog tab4 := Tad (f := 4) (e := e4) (tok3) ⟨_, Tryz.func4, rfl, rfl⟩ (fun args p r h hp => by
 unfold e4 at h; split at h
 ·split at h
  ·rename_i h_x h_ts; cases h; exact (con4 (q0t tok3 follows) _ _).le ⟨qej h_x, q00 q07 h_ts, trivial⟩ (q0l _)
  ·cases h
 ·cases h)
theorem qb11 : TabOk Tryz.prog qbjp := Tad (f := 20) (e := e20) (tok4) ⟨_, Tryz.func20, rfl, rfl⟩ (fun args p r h hp => by
 unfold e20 at h; split at h
 ·split at h
  ·rename_i h_l; cases h; exact (qb10 (q0t tok4 follows) _ hp).le ⟨q00 q02 h_l, trivial⟩ (q0l _)
  ·cases h
 ·cases h)
end Go.Ev
namespace Go.Ev
open Go.ChangeShapes Go.WideShapes Go.ChangeAt Go.RowKit
section
variable {H : Type} {enc : TypeId × Value → H} {P : Program} {w : World} {sp : Nat → Bool} {held : Bool}
def RDs (w : World) (cs : List Value) (ds : List D) : Prop := cs.length = ds.length ∧ ∀ (j : Nat) (v : Value) (d : D), cs[j]? = some v → ds[j]? = some d → RD w (fun _ => False) v d ∧ d.one = true
theorem RDs.nil : RDs w [] [] := ⟨rfl, fun j v d h => by simp at h⟩
theorem RDs.one {v : Value} {d : D} (h : RD w (fun _ => False) v d) (h1 : d.one = true) : RDs w [v] [d] := ⟨rfl, fun j u e hj he => by
 match j with
 | 0 => simp at hj he; subst hj; subst he; exact ⟨h, h1⟩
 | j + 1 => simp at hj⟩
theorem RDs.append {a b : List Value} {x y : List D} (h : RDs w a x) (k : RDs w b y) : RDs w (a ++ b) (x ++ y) := by
 refine ⟨by rw [List.length_append, List.length_append, h.1, k.1], fun j v d hj hd => ?_⟩
 by_cases hl : j < a.length
 ·rw [List.getElem?_append_left hl] at hj
  rw [List.getElem?_append_left (by rw [← h.1]; exact hl)] at hd
  exact h.2 j v d hj hd
 ·rw [List.getElem?_append_right (by omega)] at hj
  rw [List.getElem?_append_right (by rw [← h.1]; omega)] at hd
  rw [h.1] at hj
  exact k.2 _ v d hj hd
theorem qbi5 {t : TypeId} {k : IntKind} (ht : P.underlying t = some (.int k)) {fuel : Nat} {cs : List Value} {x : DataW H × List MemPlace} (h : DataW.trod enc P w 0 sp held fuel t cs = some x) :
 ∃ n, (Lit.int k n).wf = true ∧ RDs w cs [.i k n] := by
 obtain ⟨n, rfl, _, hw⟩ := DataW.trod_int ht h
 exact ⟨n, hw, RDs.one (.i k n) rfl⟩
theorem qbep {t : TypeId} (ht : P.underlying t = some .bool) {fuel : Nat} {cs : List Value} {x : DataW H × List MemPlace} (h : DataW.trod enc P w 0 sp held fuel t cs = some x) :
 ∃ b, RDs w cs [.b b] := by
 obtain ⟨n, rfl, _⟩ := DataW.trod_bool ht h
 exact ⟨n, RDs.one (.b n) rfl⟩
theorem q49 {t : TypeId} (ht : P.underlying t = some .string) {fuel : Nat} {cs : List Value} {x : DataW H × List MemPlace} (h : DataW.trod enc P w 0 sp held fuel t cs = some x) :
 ∃ s : ByteArray, s.size ≤ maxLen ∧ RDs w cs [.s s] := by
 obtain ⟨n, rfl, _, hs⟩ := DataW.trod_string ht h
 exact ⟨n, hs, RDs.one (.s n) rfl⟩
theorem qbeq {a : Addr} {v : Value} (h : w.cell? a = some v) : a.spot = none := by
 unfold World.cell? at h
 split at h
 ·split at h
  ·cases h
  ·rename_i hs; simpa using hs
 ·cases h
theorem qbaf {t e : TypeId} {α : Type} {encf : α → D} {Ok : α → Prop} {sz : Nat} (ht : P.underlying t = some (.slice e)) (hsz : P.cellsOf e = sz) (h0 : 0 < sz) (hc : ∀ r, (encf r).cells.length = sz)
 (he : ∀ (fuel : Nat) (cs : List Value) (x : DataW H × List MemPlace), DataW.trod enc P w 0 sp held fuel e cs = some x → ∃ r, Ok r ∧ RDs w cs (encf r).cells)
 {fuel : Nat} {cs : List Value} {x : DataW H × List MemPlace} (h : DataW.trod enc P w 0 sp held fuel t cs = some x) :
 ∃ l : List α, (∀ r ∈ l, Ok r) ∧ l.length ≤ maxLen ∧ RDs w cs [.sl sz (l.map encf)] := by
 rcases DataW.trod_slice ht h with ⟨rfl, _⟩ | ⟨a, len, cap, qmb, rest, n, rfl, rfl, _, _, hlc, hcm, hel, hg, _, _⟩
 ·exact ⟨[], by simp, Nat.zero_le _, RDs.one (.sl0 sz) rfl⟩
 ·have key : ∀ i, i < len → ∃ r, Ok r ∧ ∃ cs', w.cells? 0 (a.add (i * sz)) sz = some cs' ∧ RDs w cs' (encf r).cells := fun i hi => by
   have h1 := hg i hi
   rw [hsz, List.getElem?_eq_getElem (by omega), Option.bind_eq_some_iff] at h1
   obtain ⟨cs', h2, h3⟩ := h1
   obtain ⟨r, hr, hd⟩ := he _ _ _ h3
   exact ⟨r, hr, cs', h2, hd⟩
  let f : ∀ i, i < len → α := fun i hi => Classical.choose (key i hi)
  have hf1 : ∀ i hi, Ok (f i hi) := fun i hi => (Classical.choose_spec (key i hi)).1
  have hf2 : ∀ i hi, ∃ cs', w.cells? 0 (a.add (i * sz)) sz = some cs' ∧ RDs w cs' (encf (f i hi)).cells := fun i hi => (Classical.choose_spec (key i hi)).2
  clear_value f
  have hspot : 0 < len → a.spot = none := fun hl => by
   obtain ⟨cs', h3, _⟩ := hf2 0 hl
   obtain ⟨_, h5, h6⟩ := World.cells?_some h3
   have h9 := h6 0 h0
   rw [List.getElem?_eq_getElem (by omega)] at h9
   have := qbeq h9
   simpa [Addr.add] using this
  let l : List α := List.ofFn fun i : Fin len => f i.1 i.2
  have hll : l.length = len := by simp [l]
  have hli : ∀ i (hi : i < len), l[i]? = some (f i hi) := fun i hi => by simp [l, hi]
  have hfl : (flat (l.map encf)).length = len * sz := by
   rw [qc6 (sz := sz) (fun d hd => by
    obtain ⟨r, _, rfl⟩ := List.mem_map.1 hd
    exact hc r), List.length_map, hll]
  have hcell : ∀ (k : Nat) (d : D), (flat (l.map encf))[k]? = some d → a.spot = none ∧ ∃ v, w.cell? ⟨a.block, a.off + k, none⟩ = some v ∧ RD w (fun _ => False) v d ∧ d.one = true := fun k d hk => by
   have hk1 : k < len * sz := by rw [← hfl]; exact (List.getElem?_eq_some_iff.1 hk).1
   have hi : k / sz < len := Nat.div_lt_of_lt_mul (by rwa [Nat.mul_comm])
   have hm : k % sz < sz := Nat.mod_lt _ h0
   have hkk : k / sz * sz + k % sz = k := by rw [Nat.mul_comm]; exact Nat.div_add_mod k sz
   have hj : (l.map encf)[k / sz]? = some (encf (f (k / sz) hi)) := by rw [List.getElem?_map, hli _ hi]; rfl
   have h2 := qjv (sz := sz) (fun d hd => by
    obtain ⟨r, _, rfl⟩ := List.mem_map.1 hd
    exact hc r) hj hm
   rw [hkk, hk] at h2
   obtain ⟨cs', h3, h4⟩ := hf2 (k / sz) hi
   obtain ⟨_, h5, h6⟩ := World.cells?_some h3
   have h7 := h6 (k % sz) hm
   have hlt : k % sz < cs'.length := by omega
   rw [List.getElem?_eq_getElem hlt] at h7
   have h8 := h4.2 (k % sz) _ d (List.getElem?_eq_getElem hlt) h2.symm
   have hsp : a.spot = none := hspot (Nat.lt_of_le_of_lt (Nat.zero_le _) hi)
   refine ⟨hsp, _, ?_, h8⟩
   rw [← h7]
   congr 1
   obtain ⟨b, o, s⟩ := a
   simp only at hsp
   subst hsp
   unfold Addr.add
   (repeat' split) <;> simp <;> omega
  refine ⟨l, fun r hr => ?_, by omega, RDs.one ?_ rfl⟩
  ·obtain ⟨i, hi⟩ := List.mem_ofFn.1 hr
   rw [← hi]; exact hf1 _ _
  ·have hlm : len = (l.map encf).length := by simp [hll]
   rw [hlm]
   refine .sl a cap sz (l.map encf) (fun k => (w.cell? ⟨a.block, a.off + k, none⟩).getD default) (by omega) h0 (fun d hd => ?_) (fun hl => ⟨hspot ?_, fun hx => hx⟩) (fun k d hk => ?_) (fun k d hk => ?_)
   ·obtain ⟨r, hr, rfl⟩ := List.mem_map.1 hd
    refine ⟨hc r, fun c hcm => ?_⟩
    obtain ⟨i, hi⟩ := List.mem_ofFn.1 hr
    obtain ⟨cs', _, h4⟩ := hf2 i.1 i.2
    rw [← hi] at hcm
    obtain ⟨j, hj, hjc⟩ := List.getElem_of_mem hcm
    have hlt : j < cs'.length := by rw [h4.1]; exact hj
    exact (h4.2 j _ c (List.getElem?_eq_getElem hlt) (by rw [List.getElem?_eq_getElem hj, hjc])).2
   ·rcases Nat.eq_zero_or_pos len with e | e
    ·exact absurd (List.length_eq_zero_iff.1 (by omega)) hl
    ·exact e
   ·obtain ⟨_, v, hv, _⟩ := hcell k d hk
    rw [hv]; rfl
   ·obtain ⟨_, v, hv, h1, _⟩ := hcell k d hk
    rw [hv]; exact h1
theorem RDs.join {cs : List Value} {o n m : Nat} {a b : List D} (h : RDs w ((cs.drop o).take n) a) (k : RDs w (cs.drop m) b) (hm : o + n = m) : RDs w (cs.drop o) (a ++ b) := by
 subst hm
 have := RDs.append h k
 rwa [← List.drop_drop, List.take_append_drop] at this
theorem RDs.single {v : Value} {d : D} (h : RDs w [v] [d]) : RD w (fun _ => False) v d := (h.2 0 v d rfl rfl).1
theorem RDs.whole {cs : Array Value} {l : List D} (h : RDs w cs.toList l) : RD w (fun _ => False) (.agg cs) (.agg l) :=
 .agg cs l (by simpa using h.1) fun j v d hj hd => (h.2 j v d (by simpa using hj) hd).1
theorem RDs.last {cs : List Value} {n : Nat} (h : cs.length = n) : RDs w (cs.drop n) [] := by
 rw [List.drop_of_length_le (by omega)]; exact .nil
theorem q04 {t n : Nat} (h : qb4 P t = some n) : P.cellsOf t = n := by
 unfold qb4 at h
 unfold Program.cellsOf
 rw [h]; rfl
theorem qc9 {α : Type} {xs : List α} {n i : Nat} (h : xs.length = n) (hi : i < n) : ∃ y, xs[i]? = some y := ⟨xs[i]'(by omega), by simp⟩
end
theorem qs0 {P : Program} {f : FuncId} {ds : List D} {vs : Array Value} {w : World} (h : Sem P f (ds.map .d) (.d (.b true))) (hn : vs.size = ds.length)
 (hr : ∀ (j : Nat) (v : Value) (d : D), vs[j]? = some v → ds[j]? = some d → RD w (fun _ => False) v d) :
 Calls P f vs w fun e w' => e = .returned (.bool true) ∧ Below w.heap.size w w' := by
 refine (h w vs (fun _ => False) [] (fun _ hf => hf.elim) (fun i j b hi => by simp at hi) (fun _ _ hf => hf) ⟨by simpa using hn, List.replicate ds.length [], by simp, by simp, fun j v o q hv ho hq => ?_⟩).mono fun e w' ⟨v, u, os', he, hret, hro, _, _, hfr⟩ => ?_
 ·rw [List.getElem?_replicate] at hq
  split at hq
  ·cases hq
   rw [List.getElem?_map, Option.map_eq_some_iff] at ho
   obtain ⟨d, hd, rfl⟩ := ho
   exact .d v d ((hr j v d hv hd).mono fun b hb => by
    rcases hb with hb | hb
    ·exact hb
    ·unfold Blk at hb; simp at hb)
  ·cases hq
 ·subst he
  have hb : ∀ (ds : List D) (vs : List Value), qe6 (ds.map O.d) vs = [] := fun ds => by
   induction ds with
   | nil => intro vs; cases vs <;> rfl
   | cons d ds ih => intro vs; cases vs with
     | nil => rfl
     | cons v vs => exact ih vs
  unfold Ret at hret
  rw [hb] at hret
  simp only at hret
  subst hret
  have hv : u = .bool true := by
   cases hro with
   | d _ _ h => cases h; rfl
  subst hv
  exact ⟨rfl, hfr.os, hfr.tape, hfr.output, hfr.ext.size, fun k hk => hfr.ext.same k hk (by unfold Blk; simp)⟩
end Go.Ev
namespace Go.Ev
open Go.ChangeShapes Go.WideShapes Go.ChangeAt Go.RowKit Go.Proofs
section
variable {H : Type} {enc : TypeId × Value → H} {P : Program} {w : World} {sp : Nat → Bool} {held : Bool}
theorem rdI {t : TypeId} {k : IntKind} (ht : P.underlying t = some (.int k)) {fuel : Nat} {cs : List Value} {x : DataW H × List MemPlace} (h : DataW.trod enc P w 0 sp held fuel t cs = some x) : ∃ n : Int, True ∧ RDs w cs [.i k n] :=
 let ⟨n, _, h⟩ := qbi5 ht h; ⟨n, trivial, h⟩
theorem rdB {t : TypeId} (ht : P.underlying t = some .bool) {fuel : Nat} {cs : List Value} {x : DataW H × List MemPlace} (h : DataW.trod enc P w 0 sp held fuel t cs = some x) : ∃ n : Bool, True ∧ RDs w cs [.b n] :=
 let ⟨n, h⟩ := qbep ht h; ⟨n, trivial, h⟩
theorem rdS {t : TypeId} (ht : P.underlying t = some .string) {fuel : Nat} {cs : List Value} {x : DataW H × List MemPlace} (h : DataW.trod enc P w 0 sp held fuel t cs = some x) : ∃ n : ByteArray, True ∧ RDs w cs [.s n] :=
 let ⟨n, _, h⟩ := q49 ht h; ⟨n, trivial, h⟩
theorem rdL {t e : TypeId} {α : Type} {encf : α → D} {sz : Nat} (ht : P.underlying t = some (.slice e)) (hsz : P.cellsOf e = sz) (h0 : 0 < sz) (hc : ∀ r, (encf r).cells.length = sz)
 (he : ∀ (fuel : Nat) (cs : List Value) (x : DataW H × List MemPlace), DataW.trod enc P w 0 sp held fuel e cs = some x → ∃ r, True ∧ RDs w cs (encf r).cells)
 {fuel : Nat} {cs : List Value} {x : DataW H × List MemPlace} (h : DataW.trod enc P w 0 sp held fuel t cs = some x) : ∃ l : List α, True ∧ RDs w cs [.sl sz (l.map encf)] :=
 let ⟨l, _, _, h⟩ := qbaf (Ok := fun _ => True) ht hsz h0 hc he h; ⟨l, trivial, h⟩
theorem q5a {fuel : Nat} {cs : List Value} {x : DataW H × List MemPlace} (h : DataW.trod enc Tryz.prog w 0 sp held fuel 50 cs = some x) : ∃ r : Change, True ∧ RDs w cs (q0s r).cells := by
 obtain ⟨xs, n, _, _, hl, hx, hf⟩ := DataW.trod_struct Tryz.underlying50 h
 rw [q04 Ty.sz50] at hl
 obtain ⟨y0, hy0⟩ := qc9 hx (i := 0) (by decide)
 have f0 : DataW.trod enc Tryz.prog w 0 sp held n 9 ((cs.drop 0).take (Tryz.prog.cellsOf 9)) = xs[0]? := hf 0 _ rfl
 rw [q04 Ty.sz9, hy0] at f0
 obtain ⟨a0, _, d0⟩ := rdS Tryz.underlying9 f0
 obtain ⟨y1, hy1⟩ := qc9 hx (i := 1) (by decide)
 have f1 : DataW.trod enc Tryz.prog w 0 sp held n 3 ((cs.drop 1).take (Tryz.prog.cellsOf 3)) = xs[1]? := hf 1 _ rfl
 rw [q04 Ty.sz3, hy1] at f1
 obtain ⟨a1, _, d1⟩ := rdI (k := .i64) Tryz.underlying3 f1
 obtain ⟨y2, hy2⟩ := qc9 hx (i := 2) (by decide)
 have f2 : DataW.trod enc Tryz.prog w 0 sp held n 3 ((cs.drop 2).take (Tryz.prog.cellsOf 3)) = xs[2]? := hf 2 _ rfl
 rw [q04 Ty.sz3, hy2] at f2
 obtain ⟨a2, _, d2⟩ := rdI (k := .i64) Tryz.underlying3 f2
 obtain ⟨y3, hy3⟩ := qc9 hx (i := 3) (by decide)
 have f3 : DataW.trod enc Tryz.prog w 0 sp held n 9 ((cs.drop 3).take (Tryz.prog.cellsOf 9)) = xs[3]? := hf 3 _ rfl
 rw [q04 Ty.sz9, hy3] at f3
 obtain ⟨a3, _, d3⟩ := rdS Tryz.underlying9 f3
 obtain ⟨y4, hy4⟩ := qc9 hx (i := 4) (by decide)
 have f4 : DataW.trod enc Tryz.prog w 0 sp held n 9 ((cs.drop 4).take (Tryz.prog.cellsOf 9)) = xs[4]? := hf 4 _ rfl
 rw [q04 Ty.sz9, hy4] at f4
 obtain ⟨a4, _, d4⟩ := rdS Tryz.underlying9 f4
 exact ⟨⟨a0, a1, a2, a3, a4⟩, trivial, (RDs.join d0 (RDs.join d1 (RDs.join d2 (RDs.join d3 (RDs.join d4 (RDs.last hl) rfl) rfl) rfl) rfl) rfl)⟩
theorem qrj {fuel : Nat} {cs : List Value} {x : DataW H × List MemPlace} (h : DataW.trod enc Tryz.prog w 0 sp held fuel 52 cs = some x) : ∃ r : Entry, True ∧ RDs w cs (q0h r).cells := by
 obtain ⟨xs, n, _, _, hl, hx, hf⟩ := DataW.trod_struct Tryz.underlying52 h
 rw [q04 Ty.sz52] at hl
 obtain ⟨y0, hy0⟩ := qc9 hx (i := 0) (by decide)
 have f0 : DataW.trod enc Tryz.prog w 0 sp held n 3 ((cs.drop 0).take (Tryz.prog.cellsOf 3)) = xs[0]? := hf 0 _ rfl
 rw [q04 Ty.sz3, hy0] at f0
 obtain ⟨a0, _, d0⟩ := rdI (k := .i64) Tryz.underlying3 f0
 obtain ⟨y1, hy1⟩ := qc9 hx (i := 1) (by decide)
 have f1 : DataW.trod enc Tryz.prog w 0 sp held n 3 ((cs.drop 1).take (Tryz.prog.cellsOf 3)) = xs[1]? := hf 1 _ rfl
 rw [q04 Ty.sz3, hy1] at f1
 obtain ⟨a1, _, d1⟩ := rdI (k := .i64) Tryz.underlying3 f1
 obtain ⟨y2, hy2⟩ := qc9 hx (i := 2) (by decide)
 have f2 : DataW.trod enc Tryz.prog w 0 sp held n 3 ((cs.drop 2).take (Tryz.prog.cellsOf 3)) = xs[2]? := hf 2 _ rfl
 rw [q04 Ty.sz3, hy2] at f2
 obtain ⟨a2, _, d2⟩ := rdI (k := .i64) Tryz.underlying3 f2
 obtain ⟨y3, hy3⟩ := qc9 hx (i := 3) (by decide)
 have f3 : DataW.trod enc Tryz.prog w 0 sp held n 50 ((cs.drop 3).take (Tryz.prog.cellsOf 50)) = xs[3]? := hf 3 _ rfl
 rw [q04 Ty.sz50, hy3] at f3
 obtain ⟨a3, _, d3⟩ := q5a f3
 exact ⟨⟨a0, a1, a2, a3⟩, trivial, (RDs.join d0 (RDs.join d1 (RDs.join d2 (RDs.join d3 (RDs.last hl) rfl) rfl) rfl) rfl)⟩
theorem q5b {fuel : Nat} {cs : List Value} {x : DataW H × List MemPlace} (h : DataW.trod enc Tryz.prog w 0 sp held fuel 59 cs = some x) : ∃ r : Packet, True ∧ RDs w cs (qbf r).cells := by
 obtain ⟨xs, n, _, _, hl, hx, hf⟩ := DataW.trod_struct Tryz.underlying59 h
 rw [q04 Ty.sz59] at hl
 obtain ⟨y0, hy0⟩ := qc9 hx (i := 0) (by decide)
 have f0 : DataW.trod enc Tryz.prog w 0 sp held n 3 ((cs.drop 0).take (Tryz.prog.cellsOf 3)) = xs[0]? := hf 0 _ rfl
 rw [q04 Ty.sz3, hy0] at f0
 obtain ⟨a0, _, d0⟩ := rdI (k := .i64) Tryz.underlying3 f0
 obtain ⟨y1, hy1⟩ := qc9 hx (i := 1) (by decide)
 have f1 : DataW.trod enc Tryz.prog w 0 sp held n 3 ((cs.drop 1).take (Tryz.prog.cellsOf 3)) = xs[1]? := hf 1 _ rfl
 rw [q04 Ty.sz3, hy1] at f1
 obtain ⟨a1, _, d1⟩ := rdI (k := .i64) Tryz.underlying3 f1
 exact ⟨⟨a0, a1⟩, trivial, (RDs.join d0 (RDs.join d1 (RDs.last hl) rfl) rfl)⟩
theorem qpu {fuel : Nat} {cs : List Value} {x : DataW H × List MemPlace} (h : DataW.trod enc Tryz.prog w 0 sp held fuel 25 cs = some x) : ∃ r : Remote, True ∧ RDs w cs (qbb r).cells := by
 obtain ⟨xs, n, _, _, hl, hx, hf⟩ := DataW.trod_struct Tryz.underlying25 h
 rw [q04 Ty.sz25] at hl
 obtain ⟨y0, hy0⟩ := qc9 hx (i := 0) (by decide)
 have f0 : DataW.trod enc Tryz.prog w 0 sp held n 4 ((cs.drop 0).take (Tryz.prog.cellsOf 4)) = xs[0]? := hf 0 _ rfl
 rw [q04 Ty.sz4, hy0] at f0
 obtain ⟨a0, _, d0⟩ := rdB Tryz.underlying4 f0
 obtain ⟨y1, hy1⟩ := qc9 hx (i := 1) (by decide)
 have f1 : DataW.trod enc Tryz.prog w 0 sp held n 22 ((cs.drop 1).take (Tryz.prog.cellsOf 22)) = xs[1]? := hf 1 _ rfl
 rw [q04 Ty.sz22, hy1] at f1
 obtain ⟨a1, _, d1⟩ := rdL (sz := 8) Tryz.underlying22 (q04 Ty.sz52) (by decide) (fun _ => rfl) (fun _ _ _ h => qrj h) f1
 obtain ⟨y2, hy2⟩ := qc9 hx (i := 2) (by decide)
 have f2 : DataW.trod enc Tryz.prog w 0 sp held n 22 ((cs.drop 2).take (Tryz.prog.cellsOf 22)) = xs[2]? := hf 2 _ rfl
 rw [q04 Ty.sz22, hy2] at f2
 obtain ⟨a2, _, d2⟩ := rdL (sz := 8) Tryz.underlying22 (q04 Ty.sz52) (by decide) (fun _ => rfl) (fun _ _ _ h => qrj h) f2
 obtain ⟨y3, hy3⟩ := qc9 hx (i := 3) (by decide)
 have f3 : DataW.trod enc Tryz.prog w 0 sp held n 3 ((cs.drop 3).take (Tryz.prog.cellsOf 3)) = xs[3]? := hf 3 _ rfl
 rw [q04 Ty.sz3, hy3] at f3
 obtain ⟨a3, _, d3⟩ := rdI (k := .i64) Tryz.underlying3 f3
 obtain ⟨y4, hy4⟩ := qc9 hx (i := 4) (by decide)
 have f4 : DataW.trod enc Tryz.prog w 0 sp held n 3 ((cs.drop 4).take (Tryz.prog.cellsOf 3)) = xs[4]? := hf 4 _ rfl
 rw [q04 Ty.sz3, hy4] at f4
 obtain ⟨a4, _, d4⟩ := rdI (k := .i64) Tryz.underlying3 f4
 obtain ⟨y5, hy5⟩ := qc9 hx (i := 5) (by decide)
 have f5 : DataW.trod enc Tryz.prog w 0 sp held n 23 ((cs.drop 5).take (Tryz.prog.cellsOf 23)) = xs[5]? := hf 5 _ rfl
 rw [q04 Ty.sz23, hy5] at f5
 obtain ⟨a5, _, d5⟩ := rdL (sz := 2) Tryz.underlying23 (q04 Ty.sz59) (by decide) (fun _ => rfl) (fun _ _ _ h => q5b h) f5
 exact ⟨⟨a0, a1, a2, a3, a4, a5⟩, trivial, (RDs.join d0 (RDs.join d1 (RDs.join d2 (RDs.join d3 (RDs.join d4 (RDs.join d5 (RDs.last hl) rfl) rfl) rfl) rfl) rfl) rfl)⟩
theorem qbag {fuel : Nat} {cs : List Value} {x : DataW H × List MemPlace} (h : DataW.trod enc Tryz.prog w 0 sp held fuel 126 cs = some x) : ∃ r : DType, True ∧ RDs w cs (qbi r).cells := by
 obtain ⟨xs, n, _, _, hl, hx, hf⟩ := DataW.trod_struct Tryz.underlying126 h
 rw [q04 Ty.sz126] at hl
 obtain ⟨y0, hy0⟩ := qc9 hx (i := 0) (by decide)
 have f0 : DataW.trod enc Tryz.prog w 0 sp held n 3 ((cs.drop 0).take (Tryz.prog.cellsOf 3)) = xs[0]? := hf 0 _ rfl
 rw [q04 Ty.sz3, hy0] at f0
 obtain ⟨a0, _, d0⟩ := rdI (k := .i64) Tryz.underlying3 f0
 obtain ⟨y1, hy1⟩ := qc9 hx (i := 1) (by decide)
 have f1 : DataW.trod enc Tryz.prog w 0 sp held n 3 ((cs.drop 1).take (Tryz.prog.cellsOf 3)) = xs[1]? := hf 1 _ rfl
 rw [q04 Ty.sz3, hy1] at f1
 obtain ⟨a1, _, d1⟩ := rdI (k := .i64) Tryz.underlying3 f1
 obtain ⟨y2, hy2⟩ := qc9 hx (i := 2) (by decide)
 have f2 : DataW.trod enc Tryz.prog w 0 sp held n 3 ((cs.drop 2).take (Tryz.prog.cellsOf 3)) = xs[2]? := hf 2 _ rfl
 rw [q04 Ty.sz3, hy2] at f2
 obtain ⟨a2, _, d2⟩ := rdI (k := .i64) Tryz.underlying3 f2
 exact ⟨⟨a0, a1, a2⟩, trivial, (RDs.join d0 (RDs.join d1 (RDs.join d2 (RDs.last hl) rfl) rfl) rfl)⟩
theorem qbah {fuel : Nat} {cs : List Value} {x : DataW H × List MemPlace} (h : DataW.trod enc Tryz.prog w 0 sp held fuel 128 cs = some x) : ∃ r : Field, True ∧ RDs w cs (q01 r).cells := by
 obtain ⟨xs, n, _, _, hl, hx, hf⟩ := DataW.trod_struct Tryz.underlying128 h
 rw [q04 Ty.sz128] at hl
 obtain ⟨y0, hy0⟩ := qc9 hx (i := 0) (by decide)
 have f0 : DataW.trod enc Tryz.prog w 0 sp held n 9 ((cs.drop 0).take (Tryz.prog.cellsOf 9)) = xs[0]? := hf 0 _ rfl
 rw [q04 Ty.sz9, hy0] at f0
 obtain ⟨a0, _, d0⟩ := rdS Tryz.underlying9 f0
 obtain ⟨y1, hy1⟩ := qc9 hx (i := 1) (by decide)
 have f1 : DataW.trod enc Tryz.prog w 0 sp held n 126 ((cs.drop 1).take (Tryz.prog.cellsOf 126)) = xs[1]? := hf 1 _ rfl
 rw [q04 Ty.sz126, hy1] at f1
 obtain ⟨a1, _, d1⟩ := qbag f1
 exact ⟨⟨a0, a1⟩, trivial, (RDs.join d0 (RDs.join d1 (RDs.last hl) rfl) rfl)⟩
theorem qbi6 {fuel : Nat} {cs : List Value} {x : DataW H × List MemPlace} (h : DataW.trod enc Tryz.prog w 0 sp held fuel 63 cs = some x) : ∃ r : Fmt, True ∧ RDs w cs (qb1 r).cells := by
 obtain ⟨xs, n, _, _, hl, hx, hf⟩ := DataW.trod_struct Tryz.underlying63 h
 rw [q04 Ty.sz63] at hl
 obtain ⟨y0, hy0⟩ := qc9 hx (i := 0) (by decide)
 have f0 : DataW.trod enc Tryz.prog w 0 sp held n 9 ((cs.drop 0).take (Tryz.prog.cellsOf 9)) = xs[0]? := hf 0 _ rfl
 rw [q04 Ty.sz9, hy0] at f0
 obtain ⟨a0, _, d0⟩ := rdS Tryz.underlying9 f0
 obtain ⟨y1, hy1⟩ := qc9 hx (i := 1) (by decide)
 have f1 : DataW.trod enc Tryz.prog w 0 sp held n 61 ((cs.drop 1).take (Tryz.prog.cellsOf 61)) = xs[1]? := hf 1 _ rfl
 rw [q04 Ty.sz61, hy1] at f1
 obtain ⟨a1, _, d1⟩ := rdL (sz := 4) Tryz.underlying61 (q04 Ty.sz128) (by decide) (fun _ => rfl) (fun _ _ _ h => qbah h) f1
 exact ⟨⟨a0, a1⟩, trivial, (RDs.join d0 (RDs.join d1 (RDs.last hl) rfl) rfl)⟩
theorem q5c {fuel : Nat} {cs : List Value} {x : DataW H × List MemPlace} (h : DataW.trod enc Tryz.prog w 0 sp held fuel 131 cs = some x) : ∃ r : KField, True ∧ RDs w cs (q06 r).cells := by
 obtain ⟨xs, n, _, _, hl, hx, hf⟩ := DataW.trod_struct Tryz.underlying131 h
 rw [q04 Ty.sz131] at hl
 obtain ⟨y0, hy0⟩ := qc9 hx (i := 0) (by decide)
 have f0 : DataW.trod enc Tryz.prog w 0 sp held n 9 ((cs.drop 0).take (Tryz.prog.cellsOf 9)) = xs[0]? := hf 0 _ rfl
 rw [q04 Ty.sz9, hy0] at f0
 obtain ⟨a0, _, d0⟩ := rdS Tryz.underlying9 f0
 obtain ⟨y1, hy1⟩ := qc9 hx (i := 1) (by decide)
 have f1 : DataW.trod enc Tryz.prog w 0 sp held n 4 ((cs.drop 1).take (Tryz.prog.cellsOf 4)) = xs[1]? := hf 1 _ rfl
 rw [q04 Ty.sz4, hy1] at f1
 obtain ⟨a1, _, d1⟩ := rdB Tryz.underlying4 f1
 exact ⟨⟨a0, a1⟩, trivial, (RDs.join d0 (RDs.join d1 (RDs.last hl) rfl) rfl)⟩
theorem qber {fuel : Nat} {cs : List Value} {x : DataW H × List MemPlace} (h : DataW.trod enc Tryz.prog w 0 sp held fuel 66 cs = some x) : ∃ r : File, True ∧ RDs w cs (qcb r).cells := by
 obtain ⟨xs, n, _, _, hl, hx, hf⟩ := DataW.trod_struct Tryz.underlying66 h
 rw [q04 Ty.sz66] at hl
 obtain ⟨y0, hy0⟩ := qc9 hx (i := 0) (by decide)
 have f0 : DataW.trod enc Tryz.prog w 0 sp held n 9 ((cs.drop 0).take (Tryz.prog.cellsOf 9)) = xs[0]? := hf 0 _ rfl
 rw [q04 Ty.sz9, hy0] at f0
 obtain ⟨a0, _, d0⟩ := rdS Tryz.underlying9 f0
 obtain ⟨y1, hy1⟩ := qc9 hx (i := 1) (by decide)
 have f1 : DataW.trod enc Tryz.prog w 0 sp held n 63 ((cs.drop 1).take (Tryz.prog.cellsOf 63)) = xs[1]? := hf 1 _ rfl
 rw [q04 Ty.sz63, hy1] at f1
 obtain ⟨a1, _, d1⟩ := qbi6 f1
 obtain ⟨y2, hy2⟩ := qc9 hx (i := 2) (by decide)
 have f2 : DataW.trod enc Tryz.prog w 0 sp held n 64 ((cs.drop 3).take (Tryz.prog.cellsOf 64)) = xs[2]? := hf 2 _ rfl
 rw [q04 Ty.sz64, hy2] at f2
 obtain ⟨a2, _, d2⟩ := rdL (sz := 2) Tryz.underlying64 (q04 Ty.sz131) (by decide) (fun _ => rfl) (fun _ _ _ h => q5c h) f2
 obtain ⟨y3, hy3⟩ := qc9 hx (i := 3) (by decide)
 have f3 : DataW.trod enc Tryz.prog w 0 sp held n 4 ((cs.drop 4).take (Tryz.prog.cellsOf 4)) = xs[3]? := hf 3 _ rfl
 rw [q04 Ty.sz4, hy3] at f3
 obtain ⟨a3, _, d3⟩ := rdB Tryz.underlying4 f3
 exact ⟨⟨a0, a1, a2, a3⟩, trivial, (RDs.join d0 (RDs.join d1 (RDs.join d2 (RDs.join d3 (RDs.last hl) rfl) rfl) rfl) rfl)⟩
theorem qbi7 {fuel : Nat} {cs : List Value} {x : DataW H × List MemPlace} (h : DataW.trod enc Tryz.prog w 0 sp held fuel 71 cs = some x) : ∃ r : Rec, True ∧ RDs w cs (qbt r).cells := by
 obtain ⟨xs, n, _, _, hl, hx, hf⟩ := DataW.trod_struct Tryz.underlying71 h
 rw [q04 Ty.sz71] at hl
 obtain ⟨y0, hy0⟩ := qc9 hx (i := 0) (by decide)
 have f0 : DataW.trod enc Tryz.prog w 0 sp held n 4 ((cs.drop 0).take (Tryz.prog.cellsOf 4)) = xs[0]? := hf 0 _ rfl
 rw [q04 Ty.sz4, hy0] at f0
 obtain ⟨a0, _, d0⟩ := rdB Tryz.underlying4 f0
 obtain ⟨y1, hy1⟩ := qc9 hx (i := 1) (by decide)
 have f1 : DataW.trod enc Tryz.prog w 0 sp held n 9 ((cs.drop 1).take (Tryz.prog.cellsOf 9)) = xs[1]? := hf 1 _ rfl
 rw [q04 Ty.sz9, hy1] at f1
 obtain ⟨a1, _, d1⟩ := rdS Tryz.underlying9 f1
 exact ⟨⟨a0, a1⟩, trivial, (RDs.join d0 (RDs.join d1 (RDs.last hl) rfl) rfl)⟩
theorem qrk {fuel : Nat} {cs : List Value} {x : DataW H × List MemPlace} (h : DataW.trod enc Tryz.prog w 0 sp held fuel 69 cs = some x) : ∃ r : Table, True ∧ RDs w cs (q0c r).cells := by
 obtain ⟨xs, n, _, _, hl, hx, hf⟩ := DataW.trod_struct Tryz.underlying69 h
 rw [q04 Ty.sz69] at hl
 obtain ⟨y0, hy0⟩ := qc9 hx (i := 0) (by decide)
 have f0 : DataW.trod enc Tryz.prog w 0 sp held n 66 ((cs.drop 0).take (Tryz.prog.cellsOf 66)) = xs[0]? := hf 0 _ rfl
 rw [q04 Ty.sz66, hy0] at f0
 obtain ⟨a0, _, d0⟩ := qber f0
 obtain ⟨y1, hy1⟩ := qc9 hx (i := 1) (by decide)
 have f1 : DataW.trod enc Tryz.prog w 0 sp held n 67 ((cs.drop 5).take (Tryz.prog.cellsOf 67)) = xs[1]? := hf 1 _ rfl
 rw [q04 Ty.sz67, hy1] at f1
 obtain ⟨a1, _, d1⟩ := rdL (sz := 2) Tryz.underlying67 (q04 Ty.sz71) (by decide) (fun _ => rfl) (fun _ _ _ h => qbi7 h) f1
 exact ⟨⟨a0, a1⟩, trivial, (RDs.join d0 (RDs.join d1 (RDs.last hl) rfl) rfl)⟩
end
end Go.Ev
