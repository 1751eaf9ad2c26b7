/- Tools and contracts under the laws of this seat: DtT, DevRead, DevReadT37, DevRowX. -/
import Derived.Test.YtlejldoefoppaaaGreatDoorE07
import Derived.Test.YtlejldoefoppaaaGreatDoorE08
import Derived.Test.YtlejldoefoppaaaGreatDoorE09
import Derived.Test.YtlejldoefoppaaaGreatDoorE10
import Derived.Test.YtlejldoefoppaaaGreatDoorE11
import Derived.Test.YtlejldoefoppaaaGreatDoorE02
import Derived.ProofKit
import Derived.ChangeArms
import Derived.Test.YtlejldoefoppaaaGreatDoorE00
import Derived.Test.YtlejldoefoppaaaGreatDoorE03
import Derived.Test.YtlejldoefoppaaaGreatDoorProg
import Derived.Handed
import Derived.Shelf.Vars
import Derived.KernelRfl
set_option linter.unusedVariables false
set_option linter.unusedSimpArgs false
namespace Go.Ev
open Go.Proofs Ty
set_option maxRecDepth 10000
set_option maxHeartbeats 4000000
theorem q5q : TabOk Tryz.prog qzc := Tad (f := 91) (e := e91) ((TabOk.nil _)) ⟨_, Tryz.func91, rfl, rfl⟩ (fun args p r h hp => by
 unfold e91 at h; split at h
 ·cases h; exact qbcb (q0v (TabOk.nil _) follows) _ _ _
 ·cases h)
theorem q5r : TabOk Tryz.prog qzd := Tad (f := 82) (e := e82) (q5q) ⟨_, Tryz.func82, rfl, rfl⟩ (fun args p r h hp => by
 unfold e82 at h; split at h
 ·cases h; exact qbcc (q0v q5q follows) _
 ·cases h)
theorem q5s : TabOk Tryz.prog qze := Tad (f := 43) (e := e43) (q5r) ⟨_, Tryz.func43, rfl, rfl⟩ (fun args p r h hp => by
 unfold e43 at h; split at h
 ·cases h; exact qbcd (q0v q5r follows) _
 ·cases h)
theorem q5t : TabOk Tryz.prog qzf := Tad (f := 92) (e := e92) (q5s) ⟨_, Tryz.func92, rfl, rfl⟩ (fun args p r h hp => by
 unfold e92 at h; split at h
 ·cases h; exact qbce (q0v q5s follows) _
 ·cases h)
theorem q5u : TabOk Tryz.prog qzg := Tad (f := 99) (e := e99) (q5t) ⟨_, Tryz.func99, rfl, rfl⟩ (fun args p r h hp => by
 unfold e99 at h; split at h
 ·cases h; exact qbcf (q0v q5t follows) _
 ·cases h)
theorem q5v : TabOk Tryz.prog qzh := Tad (f := 48) (e := e48) (q5u) ⟨_, Tryz.func48, rfl, rfl⟩ (fun args p r h hp => by
 unfold e48 at h; split at h
 ·cases h; exact qbcg (q0v q5u follows) _
 ·cases h)
theorem q5w : TabOk Tryz.prog qzi := Tad (f := 87) (e := e87) (q5v) ⟨_, Tryz.func87, rfl, rfl⟩ (fun args p r h hp => by
 unfold e87 at h; split at h
 ·cases h; exact qbch (q0v q5v follows) _
 ·cases h)
theorem qbba : TabOk Tryz.prog q13 := Tad (f := 100) (e := e100) (q5w) ⟨_, Tryz.func100, rfl, rfl⟩ (fun args p r h hp => by
 unfold e100 at h; split at h
 ·cases h; exact qbav (q0v q5w follows) _
 ·cases h)
theorem en13 : qee Tryz.prog 13 := ⟨_, Tryz.func13, rfl, by kernel_rfl⟩
theorem so13 (args : List O) (p : Prop) (r : O) (h : e13 args = some (p, r)) (hp : p) : Sem Tryz.prog 13 args r := by
 unfold e13 at h; split at h
 ·cases h; exact q12
 ·cases h
theorem qbda : TabOk Tryz.prog q5l := Tad (qbba) en13 so13
theorem qbdb : qee Tryz.prog 132 := ⟨_, Tryz.func132, rfl, by kernel_rfl⟩
theorem qbdc (args : List O) (p : Prop) (r : O) (h : e132 args = some (p, r)) (hp : p) : Sem Tryz.prog 132 args r := by
 unfold e132 at h; split at h
 ·cases h; obtain ⟨h1, rfl, rfl⟩ := hp; exact q70 h1
 ·cases h
theorem qbbb : TabOk Tryz.prog q2b := Tad (qbda) qbdb qbdc
theorem qbdd : qee Tryz.prog 133 := ⟨_, Tryz.func133, rfl, by kernel_rfl⟩
theorem qbde (args : List O) (p : Prop) (r : O) (h : e133 args = some (p, r)) (hp : p) : Sem Tryz.prog 133 args r := by
 unfold e133 at h; split at h
 ·split at h
  ·rename_i h_x; cases h; obtain ⟨h1, h2, rfl⟩ := hp; exact (q4m h1 h2).le ⟨qfz q61 h_x, qbz _, trivial⟩ (q0y _)
  ·cases h
 ·cases h
theorem q2o : TabOk Tryz.prog qv2 := Tad (qbbb) qbdd qbde
theorem q5x : TabOk Tryz.prog qzn := Tad (f := 89) (e := e89) (q2o) ⟨_, Tryz.func89, rfl, rfl⟩ (fun args p r h hp => by
 unfold e89 at h; split at h
 ·cases h; exact qbci (q0v q2o follows) _ _ _
 ·cases h)
theorem q5y : TabOk Tryz.prog qzo := Tad (f := 64) (e := e64) (q5x) ⟨_, Tryz.func64, rfl, rfl⟩ (fun args p r h hp => by
 unfold e64 at h; split at h
 ·cases h; exact qbcj (q0v q5x follows) _ _
 ·cases h)
theorem q5z : TabOk Tryz.prog qzp := Tad (f := 62) (e := e62) (q5y) ⟨_, Tryz.func62, rfl, rfl⟩ (fun args p r h hp => by
 unfold e62 at h; split at h
 ·split at h
  ·rename_i h_l; cases h; exact (qbck (q0v q5y follows) _ hp).le ⟨qfz qil h_l, trivial⟩ (q0y _)
  ·cases h
 ·cases h)
theorem q2p : TabOk Tryz.prog qv3 := Tad (f := 139) (e := e139) (q5z) ⟨_, Tryz.func139, rfl, rfl⟩ (fun args p r h hp => by
 unfold e139 at h; split at h
 ·cases h; exact qbaw (q0v q5z follows) _
 ·cases h)
theorem q2q : TabOk Tryz.prog qv4 := Tad (f := 50) (e := e50a) (q2p) ⟨_, Tryz.func50, rfl, rfl⟩ (fun args p r h hp => by
 unfold e50a at h; split at h
 ·split at h
  ·rename_i h_l; cases h; exact (qbax (q0v q2p follows) _ () hp).le ⟨qfz qil h_l, qbz _, trivial⟩ (q0y _)
  ·cases h
 ·cases h)
theorem qye : TabOk Tryz.prog qrt := Tad (f := 138) (e := qqq) (q2q) ⟨_, Tryz.func138, rfl, rfl⟩ (fun args p r h hp => by
 unfold qqq at h; split at h
 ·split at h
  ·rename_i h_l; cases h; exact (q8j (q0v q2q follows) _ () hp).le ⟨qfz qil h_l, qbz _, trivial⟩ (q0y _)
  ·cases h
 ·cases h)
theorem q2r : TabOk Tryz.prog qv5 := Tad (f := 124) (e := e124) (qye) ⟨_, Tryz.func124, rfl, rfl⟩ (fun args p r h hp => by
 unfold e124 at h; split at h
 ·cases h; exact qbay (q0v qye follows) _ hp
 ·cases h)
theorem q2s : TabOk Tryz.prog qv6 := Tad (f := 146) (e := e146) (q2r) ⟨_, Tryz.func146, rfl, rfl⟩ (fun args p r h hp => by
 unfold e146 at h; split at h
 ·cases h; exact qbaz (q0v q2r follows) _
 ·cases h)
theorem q2t : TabOk Tryz.prog qv7 := Tad (f := 50) (e := e50b) (q2s) ⟨_, Tryz.func50, rfl, rfl⟩ (fun args p r h hp => by
 unfold e50b at h; split at h
 ·split at h
  ·rename_i h_l; cases h; exact (qba0 (q0v q2s follows) _ () hp).le ⟨qfz qil h_l, qbz _, trivial⟩ (q0y _)
  ·cases h
 ·cases h)
theorem qyf : TabOk Tryz.prog qru := Tad (f := 138) (e := qqr) (q2t) ⟨_, Tryz.func138, rfl, rfl⟩ (fun args p r h hp => by
 unfold qqr at h; split at h
 ·split at h
  ·rename_i h_l; cases h; exact (q8k (q0v q2t follows) _ () hp).le ⟨qfz qil h_l, qbz _, trivial⟩ (q0y _)
  ·cases h
 ·cases h)
theorem q2u : TabOk Tryz.prog qv8 := Tad (f := 131) (e := e131) (qyf) ⟨_, Tryz.func131, rfl, rfl⟩ (fun args p r h hp => by
 unfold e131 at h; split at h
 ·cases h; exact qba1 (q0v qyf follows) _ hp
 ·cases h)
theorem q2v : TabOk Tryz.prog qv9 := Tad (f := 112) (e := e112) (q2u) ⟨_, Tryz.func112, rfl, rfl⟩ (fun args p r h hp => by
 unfold e112 at h; split at h
 ·cases h; exact qba2 (q0v q2u follows) _ hp
 ·cases h)
theorem q2w : TabOk Tryz.prog qwa := Tad (f := 115) (e := e115) (q2v) ⟨_, Tryz.func115, rfl, rfl⟩ (fun args p r h hp => by
 unfold e115 at h; split at h
 ·split at h
  ·rename_i h_v; cases h; exact (qba3 (q0v q2v follows) _ hp).le ⟨qif h_v, trivial⟩ (q0y _)
  ·cases h
 ·cases h)
theorem q2x : TabOk Tryz.prog qwb := Tad (f := 105) (e := e105) (q2w) ⟨_, Tryz.func105, rfl, rfl⟩ (fun args p r h hp => by
 unfold e105 at h; split at h
 ·split at h
  ·rename_i h_p; cases h; exact (qba4 (q0v q2w follows) _ hp).le ⟨qju h_p, trivial⟩ (q0y _)
  ·cases h
 ·cases h)
theorem q50 : TabOk Tryz.prog qzq := Tad (f := 63) (e := e63) (q2x) ⟨_, Tryz.func63, rfl, rfl⟩ (fun args p r h hp => by
 unfold e63 at h; split at h
 ·split at h
  ·rename_i h_c; cases h; exact (qbcl (q0v q2x follows) _ hp).le ⟨qcl h_c, trivial⟩ (q0y _)
  ·cases h
 ·cases h)
theorem q2y : TabOk Tryz.prog qwc := Tad (f := 113) (e := e113) (q50) ⟨_, Tryz.func113, rfl, rfl⟩ (fun args p r h hp => by
 unfold e113 at h; split at h
 ·split at h
  ·rename_i h_p; cases h; exact (qba5 (q0v q50 follows) _ hp).le ⟨qju h_p, trivial⟩ (q0y _)
  ·cases h
 ·cases h)
theorem q51 : TabOk Tryz.prog qzr := Tad (f := 75) (e := e75) (q2y) ⟨_, Tryz.func75, rfl, rfl⟩ (fun args p r h hp => by
 unfold e75 at h; split at h
 ·split at h
  ·rename_i h_c; cases h; exact (qbcm (q0v q2y follows) _ hp).le ⟨qcl h_c, trivial⟩ (q0y _)
  ·cases h
 ·cases h)
theorem q52 : TabOk Tryz.prog qzs := Tad (f := 36) (e := e36) (q51) ⟨_, Tryz.func36, rfl, rfl⟩ (fun args p r h hp => by
 unfold e36 at h; split at h
 ·split at h
  ·rename_i h_c; cases h; exact (qbcn (q0v q51 follows) _ hp).le ⟨qcl h_c, trivial⟩ (q0y _)
  ·cases h
 ·cases h)
theorem q2z : TabOk Tryz.prog qwd := Tad (f := 114) (e := e114) (q52) ⟨_, Tryz.func114, rfl, rfl⟩ (fun args p r h hp => by
 unfold e114 at h; split at h
 ·cases h; exact qba6 (q0v q52 follows) _ hp
 ·cases h)
theorem q53 : TabOk Tryz.prog qzt := Tad (f := 79) (e := e79) (q2z) ⟨_, Tryz.func79, rfl, rfl⟩ (fun args p r h hp => by
 unfold e79 at h; split at h
 ·split at h
  ·rename_i h_v; cases h; exact (qbco (q0v q2z follows) _ hp).le ⟨qif h_v, trivial⟩ (q0y _)
  ·cases h
 ·cases h)
theorem q54 : TabOk Tryz.prog qzu := Tad (f := 34) (e := e34) (q53) ⟨_, Tryz.func34, rfl, rfl⟩ (fun args p r h hp => by
 unfold e34 at h; split at h
 ·split at h
  ·rename_i h_c; cases h; exact (qbcp (q0v q53 follows) _ hp).le ⟨qcl h_c, trivial⟩ (q0y _)
  ·cases h
 ·cases h)
theorem q55 : TabOk Tryz.prog qzv := Tad (f := 77) (e := e77) (q54) ⟨_, Tryz.func77, rfl, rfl⟩ (fun args p r h hp => by
 unfold e77 at h; split at h
 ·split at h
  ·rename_i h_v; cases h; exact (qbcq (q0v q54 follows) _ hp).le ⟨qif h_v, trivial⟩ (q0y _)
  ·cases h
 ·cases h)
theorem q56 : TabOk Tryz.prog qzw := Tad (f := 31) (e := e31) (q55) ⟨_, Tryz.func31, rfl, rfl⟩ (fun args p r h hp => by
 unfold e31 at h; split at h
 ·split at h
  ·rename_i h_c; cases h; exact (qbcr (q0v q55 follows) _ hp).le ⟨qcl h_c, trivial⟩ (q0y _)
  ·cases h
 ·cases h)
theorem q57 : TabOk Tryz.prog qzx := Tad (f := 23) (e := e23) (q56) ⟨_, Tryz.func23, rfl, rfl⟩ (fun args p r h hp => by
 unfold e23 at h; split at h
 ·split at h
  ·rename_i h_c; cases h; exact (qbcs (q0v q56 follows) _ hp).le ⟨qcl h_c, trivial⟩ (q0y _)
  ·cases h
 ·cases h)
theorem q58 : TabOk Tryz.prog qzy := Tad (f := 21) (e := e21) (q57) ⟨_, Tryz.func21, rfl, rfl⟩ (fun args p r h hp => by
 unfold e21 at h; split at h
 ·split at h
  ·rename_i h_c; cases h; exact (qbct (q0v q57 follows) _).le ⟨qcl h_c, trivial⟩ (q0y _)
  ·cases h
 ·cases h)
theorem tok9 : TabOk Tryz.prog tab9 := Tad (f := 9) (e := e9) (q58) ⟨_, Tryz.func9, rfl, rfl⟩ (fun args p r h hp => by
 unfold e9 at h; split at h
 ·split at h
  ·rename_i h_c; cases h; exact (con9 (q0v q58 follows) _).le ⟨qcl h_c, trivial⟩ (q0y _)
  ·cases h
 ·cases h)
theorem qbdf : qee Tryz.prog 127 := ⟨_, Tryz.func127, rfl, by kernel_rfl⟩
theorem qbdg (args : List O) (p : Prop) (r : O) (h : e127 args = some (p, r)) (hp : p) : Sem Tryz.prog 127 args r := by
 unfold e127 at h; split at h
 ·cases h; exact q10 hp.1 hp.2
 ·cases h
theorem q20 : TabOk Tryz.prog qwe := Tad (tok9) qbdf qbdg
theorem q21 : TabOk Tryz.prog qwf := Tad (f := 126) (e := e126) (q20) ⟨_, Tryz.func126, rfl, rfl⟩ (fun args p r h hp => by
 unfold e126 at h; split at h
 ·cases h; exact qba8 (q0v q20 follows) _
 ·cases h)
theorem q59 : TabOk Tryz.prog qzz := Tad (f := 96) (e := e96) (q21) ⟨_, Tryz.func96, rfl, rfl⟩ (fun args p r h hp => by
 unfold e96 at h; split at h
 ·split at h
  ·rename_i h_r; cases h; exact (qbcu (q0v q21 follows) _ _ hp).le ⟨q3w h_r, qbz _, trivial⟩ (q0y _)
  ·cases h
 ·cases h)
theorem q6a : TabOk Tryz.prog qz0 := Tad (f := 54) (e := e54) (q59) ⟨_, Tryz.func54, rfl, rfl⟩ (fun args p r h hp => by
 unfold e54 at h; split at h
 ·split at h
  ·rename_i h_r; cases h; exact (qbcv (q0v q59 follows) _ _ _).le ⟨qfs h_r, qbz _, qbz _, trivial⟩ (q0y _)
  ·cases h
 ·cases h)
theorem q6b : TabOk Tryz.prog qz1 := Tad (f := 53) (e := e53) (q6a) ⟨_, Tryz.func53, rfl, rfl⟩ (fun args p r h hp => by
 unfold e53 at h; split at h
 ·split at h
  ·rename_i h_r; cases h; exact (qbcw (q0v q6a follows) _ hp).le ⟨qfs h_r, trivial⟩ (q0y _)
  ·cases h
 ·cases h)
theorem q6c : TabOk Tryz.prog qz2 := Tad (f := 95) (e := e95) (q6b) ⟨_, Tryz.func95, rfl, rfl⟩ (fun args p r h hp => by
 unfold e95 at h; split at h
 ·split at h
  ·rename_i h_r; cases h; exact (qbcx (q0v q6b follows) _ hp).le ⟨qfs h_r, trivial⟩ (q0y _)
  ·cases h
 ·cases h)
theorem q6d : TabOk Tryz.prog qz3 := Tad (f := 51) (e := e51) (q6c) ⟨_, Tryz.func51, rfl, rfl⟩ (fun args p r h hp => by
 unfold e51 at h; split at h
 ·cases h; exact qbcy (q0v q6c follows) _
 ·cases h)
theorem q6e : TabOk Tryz.prog qz4 := Tad (f := 50) (e := e50) (q6d) ⟨_, Tryz.func50, rfl, rfl⟩ (fun args p r h hp => by
 unfold e50 at h; split at h
 ·split at h
  ·rename_i h_l; cases h; exact (qbcz (q0v q6d follows) _ () hp).le ⟨qfz qil h_l, qbz _, trivial⟩ (q0y _)
  ·cases h
 ·cases h)
theorem q22 : TabOk Tryz.prog qwg := Tad (f := 128) (e := e128) (q6e) ⟨_, Tryz.func128, rfl, rfl⟩ (fun args p r h hp => by
 unfold e128 at h; split at h
 ·split at h
  ·rename_i h_r; cases h; exact (qba9 (q0v q6e follows) _ hp).le ⟨qfs h_r, trivial⟩ (q0y _)
  ·cases h
 ·cases h)
theorem q6f : TabOk Tryz.prog qz5 := Tad (f := 98) (e := e98) (q22) ⟨_, Tryz.func98, rfl, rfl⟩ (fun args p r h hp => by
 unfold e98 at h; split at h
 ·split at h
  ·rename_i h_r; cases h; exact (qbc0 (q0v q22 follows) _ _ hp).le ⟨qfs h_r, qbz _, trivial⟩ (q0y _)
  ·cases h
 ·cases h)
theorem q6g : TabOk Tryz.prog qz6 := Tad (f := 52) (e := e52) (q6f) ⟨_, Tryz.func52, rfl, rfl⟩ (fun args p r h hp => by
 unfold e52 at h; split at h
 ·split at h
  ·rename_i h_r; cases h; exact (qbc1 (q0v q6f follows) _ hp).le ⟨qfs h_r, trivial⟩ (q0y _)
  ·cases h
 ·cases h)
theorem q6h : TabOk Tryz.prog qz7 := Tad (f := 97) (e := e97) (q6g) ⟨_, Tryz.func97, rfl, rfl⟩ (fun args p r h hp => by
 unfold e97 at h; split at h
 ·split at h
  ·rename_i h_r; cases h; exact (qbc2 (q0v q6g follows) _ hp).le ⟨qfs h_r, trivial⟩ (q0y _)
  ·cases h
 ·cases h)
theorem q6i : TabOk Tryz.prog qz8 := Tad (f := 55) (e := e55) (q6h) ⟨_, Tryz.func55, rfl, rfl⟩ (fun args p r h hp => by
 unfold e55 at h; split at h
 ·split at h
  ·rename_i h_r; cases h; exact (qbc3 (q0v q6h follows) _ hp).le ⟨qfs h_r, trivial⟩ (q0y _)
  ·cases h
 ·cases h)
theorem q6j : TabOk Tryz.prog qz9 := Tad (f := 18) (e := e18) (q6i) ⟨_, Tryz.func18, rfl, rfl⟩ (fun args p r h hp => by
 unfold e18 at h; split at h
 ·cases h; exact qbc4 (q0v q6i follows) _
 ·cases h)
theorem q6k : TabOk Tryz.prog q00a := Tad (f := 20) (e := e20) (q6j) ⟨_, Tryz.func20, rfl, rfl⟩ (fun args p r h hp => by
 unfold e20 at h; split at h
 ·split at h
  ·rename_i h_a h_b; cases h; exact (qbc5 (q0v q6j follows) _ _ hp).le ⟨qcl h_a, qcl h_b, trivial⟩ (q0y _)
  ·cases h
 ·cases h)
theorem q6l : TabOk Tryz.prog q00f := Tad (f := 41) (e := e41) (q6k) ⟨_, Tryz.func41, rfl, rfl⟩ (fun args p r h hp => by
 unfold e41 at h; split at h
 ·split at h
  ·rename_i h_c; cases h; exact (qbc6 (q0v q6k follows) _ hp).le ⟨qcl h_c, trivial⟩ (q0y _)
  ·cases h
 ·cases h)
theorem q6m : TabOk Tryz.prog q00g := Tad (f := 11) (e := e11) (q6l) ⟨_, Tryz.func11, rfl, rfl⟩ (fun args p r h hp => by
 unfold e11 at h; split at h
 ·split at h
  ·rename_i h_c; cases h; exact (qbc7 (q0v q6l follows) _ _).le ⟨qcl h_c, qbz _, trivial⟩ (q0y _)
  ·cases h
 ·cases h)
theorem qbdh : TabOk Tryz.prog q00k := Tad (f := 42) (e := e42) (q6m) ⟨_, Tryz.func42, rfl, rfl⟩ (fun args p r h hp => by
 unfold e42 at h; split at h
 ·cases h; exact qbc8 (q0v q6m follows) _ _ hp
 ·cases h)
end Go.Ev
namespace Go.Ev
open Go.ChangeShapes Go.WideShapes Go.ChangeAt Go.RowKit
section
variable {H : Type} {enc : TypeId × Value → H} {P : Program} {w : World} {sp : Nat → Bool} {held : Bool}
def RDs (w : World) (cs : List Value) (ds : List D) : Prop := cs.length = ds.length ∧ ∀ (j : Nat) (v : Value) (d : D), cs[j]? = some v → ds[j]? = some d → RD w (fun _ => False) v d ∧ d.one = true
theorem RDs.nil : RDs w [] [] := ⟨rfl, fun j v d h => by simp at h⟩
theorem RDs.one {v : Value} {d : D} (h : RD w (fun _ => False) v d) (h1 : d.one = true) : RDs w [v] [d] := ⟨rfl, fun j u e hj he => by
 match j with
 | 0 => simp at hj he; subst hj; subst he; exact ⟨h, h1⟩
 | j + 1 => simp at hj⟩
theorem RDs.append {a b : List Value} {x y : List D} (h : RDs w a x) (k : RDs w b y) : RDs w (a ++ b) (x ++ y) := by
 refine ⟨by rw [List.length_append, List.length_append, h.1, k.1], fun j v d hj hd => ?_⟩
 by_cases hl : j < a.length
 ·rw [List.getElem?_append_left hl] at hj
  rw [List.getElem?_append_left (by rw [← h.1]; exact hl)] at hd
  exact h.2 j v d hj hd
 ·rw [List.getElem?_append_right (by omega)] at hj
  rw [List.getElem?_append_right (by rw [← h.1]; omega)] at hd
  rw [h.1] at hj
  exact k.2 _ v d hj hd
theorem q49 {t : TypeId} {k : IntKind} (ht : P.underlying t = some (.int k)) {fuel : Nat} {cs : List Value} {x : DataW H × List MemPlace} (h : DataW.trod enc P w 0 sp held fuel t cs = some x) :
 ∃ n, (Lit.int k n).wf = true ∧ RDs w cs [.i k n] := by
 obtain ⟨n, rfl, _, hw⟩ := DataW.trod_int ht h
 exact ⟨n, hw, RDs.one (.i k n) rfl⟩
theorem qxd {t : TypeId} (ht : P.underlying t = some .string) {fuel : Nat} {cs : List Value} {x : DataW H × List MemPlace} (h : DataW.trod enc P w 0 sp held fuel t cs = some x) :
 ∃ s : ByteArray, s.size ≤ maxLen ∧ RDs w cs [.s s] := by
 obtain ⟨n, rfl, _, hs⟩ := DataW.trod_string ht h
 exact ⟨n, hs, RDs.one (.s n) rfl⟩
theorem q23 {a : Addr} {v : Value} (h : w.cell? a = some v) : a.spot = none := by
 unfold World.cell? at h
 split at h
 ·split at h
  ·cases h
  ·rename_i hs; simpa using hs
 ·cases h
theorem q00l {t e : TypeId} {α : Type} {encf : α → D} {Ok : α → Prop} {sz : Nat} (ht : P.underlying t = some (.slice e)) (hsz : P.cellsOf e = sz) (h0 : 0 < sz) (hc : ∀ r, (encf r).cells.length = sz)
 (he : ∀ (fuel : Nat) (cs : List Value) (x : DataW H × List MemPlace), DataW.trod enc P w 0 sp held fuel e cs = some x → ∃ r, Ok r ∧ RDs w cs (encf r).cells)
 {fuel : Nat} {cs : List Value} {x : DataW H × List MemPlace} (h : DataW.trod enc P w 0 sp held fuel t cs = some x) :
 ∃ l : List α, (∀ r ∈ l, Ok r) ∧ l.length ≤ maxLen ∧ RDs w cs [.sl sz (l.map encf)] := by
 rcases DataW.trod_slice ht h with ⟨rfl, _⟩ | ⟨a, len, cap, qfj, rest, n, rfl, rfl, _, _, hlc, hcm, hel, hg, _, _⟩
 ·exact ⟨[], by simp, Nat.zero_le _, RDs.one (.sl0 sz) rfl⟩
 ·have key : ∀ i, i < len → ∃ r, Ok r ∧ ∃ cs', w.cells? 0 (a.add (i * sz)) sz = some cs' ∧ RDs w cs' (encf r).cells := fun i hi => by
   have h1 := hg i hi
   rw [hsz, List.getElem?_eq_getElem (by omega), Option.bind_eq_some_iff] at h1
   obtain ⟨cs', h2, h3⟩ := h1
   obtain ⟨r, hr, hd⟩ := he _ _ _ h3
   exact ⟨r, hr, cs', h2, hd⟩
  let f : ∀ i, i < len → α := fun i hi => Classical.choose (key i hi)
  have hf1 : ∀ i hi, Ok (f i hi) := fun i hi => (Classical.choose_spec (key i hi)).1
  have hf2 : ∀ i hi, ∃ cs', w.cells? 0 (a.add (i * sz)) sz = some cs' ∧ RDs w cs' (encf (f i hi)).cells := fun i hi => (Classical.choose_spec (key i hi)).2
  clear_value f
  have hspot : 0 < len → a.spot = none := fun hl => by
   obtain ⟨cs', h3, _⟩ := hf2 0 hl
   obtain ⟨_, h5, h6⟩ := World.cells?_some h3
   have h9 := h6 0 h0
   rw [List.getElem?_eq_getElem (by omega)] at h9
   have := q23 h9
   simpa [Addr.add] using this
  let l : List α := List.ofFn fun i : Fin len => f i.1 i.2
  have hll : l.length = len := by simp [l]
  have hli : ∀ i (hi : i < len), l[i]? = some (f i hi) := fun i hi => by simp [l, hi]
  have hfl : (flat (l.map encf)).length = len * sz := by
   rw [q02 (sz := sz) (fun d hd => by
    obtain ⟨r, _, rfl⟩ := List.mem_map.1 hd
    exact hc r), List.length_map, hll]
  have hcell : ∀ (k : Nat) (d : D), (flat (l.map encf))[k]? = some d → a.spot = none ∧ ∃ v, w.cell? ⟨a.block, a.off + k, none⟩ = some v ∧ RD w (fun _ => False) v d ∧ d.one = true := fun k d hk => by
   have hk1 : k < len * sz := by rw [← hfl]; exact (List.getElem?_eq_some_iff.1 hk).1
   have hi : k / sz < len := Nat.div_lt_of_lt_mul (by rwa [Nat.mul_comm])
   have hm : k % sz < sz := Nat.mod_lt _ h0
   have hkk : k / sz * sz + k % sz = k := by rw [Nat.mul_comm]; exact Nat.div_add_mod k sz
   have hj : (l.map encf)[k / sz]? = some (encf (f (k / sz) hi)) := by rw [List.getElem?_map, hli _ hi]; rfl
   have h2 := qex (sz := sz) (fun d hd => by
    obtain ⟨r, _, rfl⟩ := List.mem_map.1 hd
    exact hc r) hj hm
   rw [hkk, hk] at h2
   obtain ⟨cs', h3, h4⟩ := hf2 (k / sz) hi
   obtain ⟨_, h5, h6⟩ := World.cells?_some h3
   have h7 := h6 (k % sz) hm
   have hlt : k % sz < cs'.length := by omega
   rw [List.getElem?_eq_getElem hlt] at h7
   have h8 := h4.2 (k % sz) _ d (List.getElem?_eq_getElem hlt) h2.symm
   have hsp : a.spot = none := hspot (Nat.lt_of_le_of_lt (Nat.zero_le _) hi)
   refine ⟨hsp, _, ?_, h8⟩
   rw [← h7]
   congr 1
   obtain ⟨b, o, s⟩ := a
   simp only at hsp
   subst hsp
   unfold Addr.add
   (repeat' split) <;> simp <;> omega
  refine ⟨l, fun r hr => ?_, by omega, RDs.one ?_ rfl⟩
  ·obtain ⟨i, hi⟩ := List.mem_ofFn.1 hr
   rw [← hi]; exact hf1 _ _
  ·have hlm : len = (l.map encf).length := by simp [hll]
   rw [hlm]
   refine .sl a cap sz (l.map encf) (fun k => (w.cell? ⟨a.block, a.off + k, none⟩).getD default) (by omega) h0 (fun d hd => ?_) (fun hl => ⟨hspot ?_, fun hx => hx⟩) (fun k d hk => ?_) (fun k d hk => ?_)
   ·obtain ⟨r, hr, rfl⟩ := List.mem_map.1 hd
    refine ⟨hc r, fun c hcm => ?_⟩
    obtain ⟨i, hi⟩ := List.mem_ofFn.1 hr
    obtain ⟨cs', _, h4⟩ := hf2 i.1 i.2
    rw [← hi] at hcm
    obtain ⟨j, hj, hjc⟩ := List.getElem_of_mem hcm
    have hlt : j < cs'.length := by rw [h4.1]; exact hj
    exact (h4.2 j _ c (List.getElem?_eq_getElem hlt) (by rw [List.getElem?_eq_getElem hj, hjc])).2
   ·rcases Nat.eq_zero_or_pos len with e | e
    ·exact absurd (List.length_eq_zero_iff.1 (by omega)) hl
    ·exact e
   ·obtain ⟨_, v, hv, _⟩ := hcell k d hk
    rw [hv]; rfl
   ·obtain ⟨_, v, hv, h1, _⟩ := hcell k d hk
    rw [hv]; exact h1
theorem RDs.join {cs : List Value} {o n m : Nat} {a b : List D} (h : RDs w ((cs.drop o).take n) a) (k : RDs w (cs.drop m) b) (hm : o + n = m) : RDs w (cs.drop o) (a ++ b) := by
 subst hm
 have := RDs.append h k
 rwa [← List.drop_drop, List.take_append_drop] at this
theorem RDs.single {v : Value} {d : D} (h : RDs w [v] [d]) : RD w (fun _ => False) v d := (h.2 0 v d rfl rfl).1
theorem RDs.whole {cs : Array Value} {l : List D} (h : RDs w cs.toList l) : RD w (fun _ => False) (.agg cs) (.agg l) :=
 .agg cs l (by simpa using h.1) fun j v d hj hd => (h.2 j v d (by simpa using hj) hd).1
theorem RDs.last {cs : List Value} {n : Nat} (h : cs.length = n) : RDs w (cs.drop n) [] := by
 rw [List.drop_of_length_le (by omega)]; exact .nil
theorem qcx {t n : Nat} (h : q0u P t = some n) : P.cellsOf t = n := by
 unfold q0u at h
 unfold Program.cellsOf
 rw [h]; rfl
theorem qhl {α : Type} {xs : List α} {n i : Nat} (h : xs.length = n) (hi : i < n) : ∃ y, xs[i]? = some y := ⟨xs[i]'(by omega), by simp⟩
end
theorem q24 {P : Program} {f : FuncId} {ds : List D} {vs : Array Value} {w : World} (h : Sem P f (ds.map .d) (.d (.b true))) (hn : vs.size = ds.length)
 (hr : ∀ (j : Nat) (v : Value) (d : D), vs[j]? = some v → ds[j]? = some d → RD w (fun _ => False) v d) (hgi : GI w (fun _ => False)) :
 Calls P f vs w fun e w' => e = .returned (.bool true) ∧ Below w.heap.size w w' := by
 refine Calls.mono (h w vs (fun _ => False) [] (fun _ hf => hf.elim) (fun i j b hi => by simp at hi) (fun _ _ hf => hf) ⟨by simpa using hn, List.replicate ds.length [], by simp, by simp, fun j v o q hv ho hq => ?_⟩ (hgi.mono fun b hb => hb.elim id fun k => by unfold Blk at k; simp at k)) fun e w' ⟨v, u, os', he, hret, hro, _, _, hfr⟩ => ?_
 ·rw [List.getElem?_replicate] at hq
  split at hq
  ·cases hq
   rw [List.getElem?_map, Option.map_eq_some_iff] at ho
   obtain ⟨d, hd, rfl⟩ := ho
   exact .d v d ((hr j v d hv hd).mono fun b hb => by
    rcases hb with hb | hb
    ·exact hb
    ·unfold Blk at hb; simp at hb)
  ·cases hq
 ·subst he
  have hb : ∀ (ds : List D) (vs : List Value), qbj (ds.map O.d) vs = [] := fun ds => by
   induction ds with
   | nil => intro vs; cases vs <;> rfl
   | cons d ds ih => intro vs; cases vs with
     | nil => rfl
     | cons v vs => exact ih vs
  unfold Ret at hret
  rw [hb] at hret
  simp only at hret
  subst hret
  have hv : u = .bool true := by
   cases hro with
   | d _ _ h => cases h; rfl
  subst hv
  exact ⟨rfl, hfr.os, hfr.tape, hfr.output, hfr.ext.size, fun k hk => hfr.ext.same k hk (by unfold Blk; simp)⟩
end Go.Ev
namespace Go.Ev
open Go.ChangeShapes Go.WideShapes Go.ChangeAt Go.RowKit Go.Proofs
section
variable {H : Type} {enc : TypeId × Value → H} {P : Program} {w : World} {sp : Nat → Bool} {held : Bool}
theorem rdI {t : TypeId} {k : IntKind} (ht : P.underlying t = some (.int k)) {fuel : Nat} {cs : List Value} {x : DataW H × List MemPlace} (h : DataW.trod enc P w 0 sp held fuel t cs = some x) : ∃ n : Int, True ∧ RDs w cs [.i k n] :=
 let ⟨n, _, h⟩ := q49 ht h; ⟨n, trivial, h⟩
theorem rdS {t : TypeId} (ht : P.underlying t = some .string) {fuel : Nat} {cs : List Value} {x : DataW H × List MemPlace} (h : DataW.trod enc P w 0 sp held fuel t cs = some x) : ∃ n : ByteArray, True ∧ RDs w cs [.s n] :=
 let ⟨n, _, h⟩ := qxd ht h; ⟨n, trivial, h⟩
theorem rdL {t e : TypeId} {α : Type} {encf : α → D} {sz : Nat} (ht : P.underlying t = some (.slice e)) (hsz : P.cellsOf e = sz) (h0 : 0 < sz) (hc : ∀ r, (encf r).cells.length = sz)
 (he : ∀ (fuel : Nat) (cs : List Value) (x : DataW H × List MemPlace), DataW.trod enc P w 0 sp held fuel e cs = some x → ∃ r, True ∧ RDs w cs (encf r).cells)
 {fuel : Nat} {cs : List Value} {x : DataW H × List MemPlace} (h : DataW.trod enc P w 0 sp held fuel t cs = some x) : ∃ l : List α, True ∧ RDs w cs [.sl sz (l.map encf)] :=
 let ⟨l, _, _, h⟩ := q00l (Ok := fun _ => True) ht hsz h0 hc he h; ⟨l, trivial, h⟩
theorem q25 {fuel : Nat} {cs : List Value} {x : DataW H × List MemPlace} (h : DataW.trod enc Tryz.prog w 0 sp held fuel 76 cs = some x) : ∃ r : CVal, True ∧ RDs w cs (q0k r).cells := by
 obtain ⟨xs, n, _, _, hl, hx, hf⟩ := DataW.trod_struct Tryz.underlying76 h
 rw [qcx Ty.sz76] at hl
 obtain ⟨y0, hy0⟩ := qhl hx (i := 0) (by decide)
 have f0 : DataW.trod enc Tryz.prog w 0 sp held n 3 ((cs.drop 0).take (Tryz.prog.cellsOf 3)) = xs[0]? := hf 0 _ rfl
 rw [qcx Ty.sz3, hy0] at f0
 obtain ⟨a0, _, d0⟩ := rdI (k := .i64) Tryz.underlying3 f0
 obtain ⟨y1, hy1⟩ := qhl hx (i := 1) (by decide)
 have f1 : DataW.trod enc Tryz.prog w 0 sp held n 9 ((cs.drop 1).take (Tryz.prog.cellsOf 9)) = xs[1]? := hf 1 _ rfl
 rw [qcx Ty.sz9, hy1] at f1
 obtain ⟨a1, _, d1⟩ := rdS Tryz.underlying9 f1
 exact ⟨⟨a0, a1⟩, trivial, (RDs.join d0 (RDs.join d1 (RDs.last hl) rfl) rfl)⟩
theorem q00m {fuel : Nat} {cs : List Value} {x : DataW H × List MemPlace} (h : DataW.trod enc Tryz.prog w 0 sp held fuel 70 cs = some x) : ∃ r : CPart, True ∧ RDs w cs (q0d r).cells := by
 obtain ⟨xs, n, _, _, hl, hx, hf⟩ := DataW.trod_struct Tryz.underlying70 h
 rw [qcx Ty.sz70] at hl
 obtain ⟨y0, hy0⟩ := qhl hx (i := 0) (by decide)
 have f0 : DataW.trod enc Tryz.prog w 0 sp held n 9 ((cs.drop 0).take (Tryz.prog.cellsOf 9)) = xs[0]? := hf 0 _ rfl
 rw [qcx Ty.sz9, hy0] at f0
 obtain ⟨a0, _, d0⟩ := rdS Tryz.underlying9 f0
 obtain ⟨y1, hy1⟩ := qhl hx (i := 1) (by decide)
 have f1 : DataW.trod enc Tryz.prog w 0 sp held n 68 ((cs.drop 1).take (Tryz.prog.cellsOf 68)) = xs[1]? := hf 1 _ rfl
 rw [qcx Ty.sz68, hy1] at f1
 obtain ⟨a1, _, d1⟩ := rdL (sz := 2) Tryz.underlying68 (qcx Ty.sz76) (by decide) (fun _ => rfl) (fun _ _ _ h => q25 h) f1
 exact ⟨⟨a0, a1⟩, trivial, (RDs.join d0 (RDs.join d1 (RDs.last hl) rfl) rfl)⟩
theorem q26 {fuel : Nat} {cs : List Value} {x : DataW H × List MemPlace} (h : DataW.trod enc Tryz.prog w 0 sp held fuel 33 cs = some x) : ∃ r : CStr, True ∧ RDs w cs (q05 r).cells := by
 obtain ⟨xs, n, _, _, hl, hx, hf⟩ := DataW.trod_struct Tryz.underlying33 h
 rw [qcx Ty.sz33] at hl
 obtain ⟨y0, hy0⟩ := qhl hx (i := 0) (by decide)
 have f0 : DataW.trod enc Tryz.prog w 0 sp held n 9 ((cs.drop 0).take (Tryz.prog.cellsOf 9)) = xs[0]? := hf 0 _ rfl
 rw [qcx Ty.sz9, hy0] at f0
 obtain ⟨a0, _, d0⟩ := rdS Tryz.underlying9 f0
 obtain ⟨y1, hy1⟩ := qhl hx (i := 1) (by decide)
 have f1 : DataW.trod enc Tryz.prog w 0 sp held n 31 ((cs.drop 1).take (Tryz.prog.cellsOf 31)) = xs[1]? := hf 1 _ rfl
 rw [qcx Ty.sz31, hy1] at f1
 obtain ⟨a1, _, d1⟩ := rdL (sz := 2) Tryz.underlying31 (qcx Ty.sz70) (by decide) (fun _ => rfl) (fun _ _ _ h => q00m h) f1
 exact ⟨⟨a0, a1⟩, trivial, (RDs.join d0 (RDs.join d1 (RDs.last hl) rfl) rfl)⟩
end
end Go.Ev
namespace Go
variable {H : Type} {enc : TypeId × Value → H}
theorem qng {a : Assume} {C : Checked} {os : Os} {f : FuncId} {fn : Func} {s : ChangeSpec} {conds : List PathCond} {apart fresh handsOn again : Bool} {X : World → Array Value → Prop}
 (hX : ∀ (w w' : World) (args : Array Value), w.heap = w'.heap → X w args → X w' args)
 (own : ownKnob C.prog.godebug = none) (started : os.Started) (noInit : C.prog.inits.idxOf? f = none) (hfn : C.prog.funcs[f]? = some fn)
 (witness : ∃ (w : World) (tape : Tape) (i : Input), w.os = os ∧ (w.forCall tape i).Shaped C.prog ∧ i.vars = [] ∧ Input.okWide C.prog (w.forCall tape i) .any w.heap.size f i ∧
   ((s.pre enc C.prog fn conds apart (w.forCall tape i).memory i.args ∧ X (w.forCall tape i).memory i.args) ∧ sizedMet enc C.prog fn (OpenSpec.ofChange s) apart (w.forCall tape i).memory i.args) ∧ a.holds C.prog (lone (Frame.enter C.prog f i.args .normal) [] (w.forCall tape i)))
 (contract : ∀ (W : World) (base : Nat) (args : Array Value) (ds gs : List (DataW H)) (before : List MemPlace),
   (∀ (j : Nat) t v, fn.params[j]? = some t → args[j]? = some v → Value.okWide C.prog W .any base t v) →
   DataW.Whole enc C.prog fn.params.toList s.vars apart W args.toList ds gs before → X W args → W.ShapedOpen C.prog →
   Calls C.prog f args W fun e W' => ∃ v, e = .returned v ∧ s.post enc C.prog fn apart fresh handsOn again W args v W') :
 ReturnsInHanded a C os f .any (fun w args => (s.pre enc C.prog fn conds apart w args ∧ X w args) ∧ sizedMet enc C.prog fn (OpenSpec.ofChange s) apart w args) (s.post enc C.prog fn apart fresh handsOn again) := by
 refine returnsInHanded_of_calls own started noInit witness ?_
 intro w tape i _ shape _ ok pre _
 obtain ⟨_, _, _, fn', g, _, _, _, _, val⟩ := ok
 obtain rfl : fn' = fn := Option.some.inj (g.symm.trans hfn)
 obtain ⟨⟨⟨ds, gs, before, k, _⟩, x⟩, _⟩ := pre
 refine Calls.mono (contract (w.forCall tape i) w.heap.size i.args ds gs before val (DataW.Whole.of_heap (w' := w.forCall tape i) (by rfl) k) (hX _ _ _ (by rfl) x) shape) ?_
 rintro _ W' ⟨v, rfl, h⟩
 exact ChangeSpec.post_blind h
end Go
namespace Go.Ev
open Go.Proofs
theorem q00n (w : World) (h : w.ShapedOpen Tryz.prog) : qjz w :=
 cell_of_shapedOpen_int (g := 1) (t := 3) (zero := #[.int .i64 0]) h (of_decide_eq_true (by kernel_rfl)) (by kernel_rfl) rfl (by kernel_rfl) (by kernel_rfl) (by kernel_rfl)
theorem gi37 (w : World) (h : w.ShapedOpen Tryz.prog) : GI w (fun _ => False) := ⟨q00n w h, fun _ _ h => h⟩
end Go.Ev
