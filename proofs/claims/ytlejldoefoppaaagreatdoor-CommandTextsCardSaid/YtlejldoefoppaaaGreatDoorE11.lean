/- Tools and contracts under the laws of this seat: DtT, DevRead, DevReadT37, DevRowX. -/
import Derived.Test.YtlejldoefoppaaaGreatDoorE07
import Derived.Test.YtlejldoefoppaaaGreatDoorE08
import Derived.Test.YtlejldoefoppaaaGreatDoorE09
import Derived.Test.YtlejldoefoppaaaGreatDoorE10
import Derived.Test.YtlejldoefoppaaaGreatDoorE02
import Derived.ProofKit
import Derived.ChangeArms
import Derived.Test.YtlejldoefoppaaaGreatDoorE00
import Derived.Test.YtlejldoefoppaaaGreatDoorE03
import Derived.Test.YtlejldoefoppaaaGreatDoorProg
import Derived.Handed
import Derived.Shelf.Vars
import Derived.KernelRfl
set_option linter.unusedVariables false
set_option linter.unusedSimpArgs false
namespace Go.Ev
open Go.Proofs Ty
set_option maxRecDepth 10000
set_option maxHeartbeats 4000000
theorem qzx : TabOk Tryz.prog quy := Tad (f := 91) (e := e91) ((TabOk.nil _)) ⟨_, Tryz.func91, rfl, rfl⟩ (fun args p r h hp => by
 unfold e91 at h; split at h
 ·cases h; exact q47 (q04 (TabOk.nil _) follows) _ _ _
 ·cases h)
theorem qzy : TabOk Tryz.prog quz := Tad (f := 82) (e := e82) (qzx) ⟨_, Tryz.func82, rfl, rfl⟩ (fun args p r h hp => by
 unfold e82 at h; split at h
 ·cases h; exact q48 (q04 qzx follows) _
 ·cases h)
theorem qzz : TabOk Tryz.prog qu0 := Tad (f := 43) (e := e43) (qzy) ⟨_, Tryz.func43, rfl, rfl⟩ (fun args p r h hp => by
 unfold e43 at h; split at h
 ·cases h; exact q49 (q04 qzy follows) _
 ·cases h)
theorem qz0 : TabOk Tryz.prog qu1 := Tad (f := 92) (e := e92) (qzz) ⟨_, Tryz.func92, rfl, rfl⟩ (fun args p r h hp => by
 unfold e92 at h; split at h
 ·cases h; exact q5a (q04 qzz follows) _
 ·cases h)
theorem qz1 : TabOk Tryz.prog qu2 := Tad (f := 99) (e := e99) (qz0) ⟨_, Tryz.func99, rfl, rfl⟩ (fun args p r h hp => by
 unfold e99 at h; split at h
 ·cases h; exact q5b (q04 qz0 follows) _
 ·cases h)
theorem qz2 : TabOk Tryz.prog qu3 := Tad (f := 48) (e := e48) (qz1) ⟨_, Tryz.func48, rfl, rfl⟩ (fun args p r h hp => by
 unfold e48 at h; split at h
 ·cases h; exact q5c (q04 qz1 follows) _
 ·cases h)
theorem qz3 : TabOk Tryz.prog qu4 := Tad (f := 87) (e := e87) (qz2) ⟨_, Tryz.func87, rfl, rfl⟩ (fun args p r h hp => by
 unfold e87 at h; split at h
 ·cases h; exact q5d (q04 qz2 follows) _
 ·cases h)
theorem q3y : TabOk Tryz.prog qw1 := Tad (f := 100) (e := e100) (qz3) ⟨_, Tryz.func100, rfl, rfl⟩ (fun args p r h hp => by
 unfold e100 at h; split at h
 ·cases h; exact q3l (q04 qz3 follows) _
 ·cases h)
theorem en13 : qdp Tryz.prog 13 := ⟨_, Tryz.func13, rfl, by kernel_rfl⟩
theorem so13 (args : List O) (p : Prop) (r : O) (h : e13 args = some (p, r)) (hp : p) : Sem Tryz.prog 13 args r := by
 unfold e13 at h; split at h
 ·cases h; exact qw0
 ·cases h
theorem q5q : TabOk Tryz.prog qzu := Tad (q3y) en13 so13
theorem q5r : qdp Tryz.prog 132 := ⟨_, Tryz.func132, rfl, by kernel_rfl⟩
theorem q5s (args : List O) (p : Prop) (r : O) (h : e132 args = some (p, r)) (hp : p) : Sem Tryz.prog 132 args r := by
 unfold e132 at h; split at h
 ·cases h; obtain ⟨h1, rfl, rfl⟩ := hp; exact q1l h1
 ·cases h
theorem q3z : TabOk Tryz.prog qw9 := Tad (q5q) q5r q5s
theorem q5t : qdp Tryz.prog 133 := ⟨_, Tryz.func133, rfl, by kernel_rfl⟩
theorem q5u (args : List O) (p : Prop) (r : O) (h : e133 args = some (p, r)) (hp : p) : Sem Tryz.prog 133 args r := by
 unfold e133 at h; split at h
 ·split at h
  ·rename_i h_x; cases h; obtain ⟨h1, h2, rfl⟩ := hp; exact (qy7 h1 h2).le ⟨qfg q00t h_x, qc5 _, trivial⟩ (qbb _)
  ·cases h
 ·cases h
theorem qxc : TabOk Tryz.prog qr8 := Tad (q3z) q5t q5u
theorem qz4 : TabOk Tryz.prog qu9 := Tad (f := 89) (e := e89) (qxc) ⟨_, Tryz.func89, rfl, rfl⟩ (fun args p r h hp => by
 unfold e89 at h; split at h
 ·cases h; exact q5e (q04 qxc follows) _ _ _
 ·cases h)
theorem qz5 : TabOk Tryz.prog qva := Tad (f := 64) (e := e64) (qz4) ⟨_, Tryz.func64, rfl, rfl⟩ (fun args p r h hp => by
 unfold e64 at h; split at h
 ·cases h; exact q5f (q04 qz4 follows) _ _
 ·cases h)
theorem qz6 : TabOk Tryz.prog qvb := Tad (f := 62) (e := e62) (qz5) ⟨_, Tryz.func62, rfl, rfl⟩ (fun args p r h hp => by
 unfold e62 at h; split at h
 ·split at h
  ·rename_i h_l; cases h; exact (q5g (q04 qz5 follows) _ hp).le ⟨qfg qif h_l, trivial⟩ (qbb _)
  ·cases h
 ·cases h)
theorem qxd : TabOk Tryz.prog qr9 := Tad (f := 139) (e := e139) (qz6) ⟨_, Tryz.func139, rfl, rfl⟩ (fun args p r h hp => by
 unfold e139 at h; split at h
 ·cases h; exact q3m (q04 qz6 follows) _
 ·cases h)
theorem qxe : TabOk Tryz.prog qsa := Tad (f := 50) (e := e50a) (qxd) ⟨_, Tryz.func50, rfl, rfl⟩ (fun args p r h hp => by
 unfold e50a at h; split at h
 ·split at h
  ·rename_i h_l; cases h; exact (q3n (q04 qxd follows) _ () hp).le ⟨qfg qif h_l, qc5 _, trivial⟩ (qbb _)
  ·cases h
 ·cases h)
theorem qt0 : TabOk Tryz.prog qoi := Tad (f := 138) (e := qnt) (qxe) ⟨_, Tryz.func138, rfl, rfl⟩ (fun args p r h hp => by
 unfold qnt at h; split at h
 ·split at h
  ·rename_i h_l; cases h; exact (q1w (q04 qxe follows) _ () hp).le ⟨qfg qif h_l, qc5 _, trivial⟩ (qbb _)
  ·cases h
 ·cases h)
theorem qxf : TabOk Tryz.prog qsb := Tad (f := 124) (e := e124) (qt0) ⟨_, Tryz.func124, rfl, rfl⟩ (fun args p r h hp => by
 unfold e124 at h; split at h
 ·cases h; exact q3o (q04 qt0 follows) _ hp
 ·cases h)
theorem qxg : TabOk Tryz.prog qsc := Tad (f := 146) (e := e146) (qxf) ⟨_, Tryz.func146, rfl, rfl⟩ (fun args p r h hp => by
 unfold e146 at h; split at h
 ·cases h; exact q3p (q04 qxf follows) _
 ·cases h)
theorem qxh : TabOk Tryz.prog qsd := Tad (f := 50) (e := e50b) (qxg) ⟨_, Tryz.func50, rfl, rfl⟩ (fun args p r h hp => by
 unfold e50b at h; split at h
 ·split at h
  ·rename_i h_l; cases h; exact (q3q (q04 qxg follows) _ () hp).le ⟨qfg qif h_l, qc5 _, trivial⟩ (qbb _)
  ·cases h
 ·cases h)
theorem qt1 : TabOk Tryz.prog qoj := Tad (f := 138) (e := qnu) (qxh) ⟨_, Tryz.func138, rfl, rfl⟩ (fun args p r h hp => by
 unfold qnu at h; split at h
 ·split at h
  ·rename_i h_l; cases h; exact (q1x (q04 qxh follows) _ () hp).le ⟨qfg qif h_l, qc5 _, trivial⟩ (qbb _)
  ·cases h
 ·cases h)
theorem qxi : TabOk Tryz.prog qse := Tad (f := 131) (e := e131) (qt1) ⟨_, Tryz.func131, rfl, rfl⟩ (fun args p r h hp => by
 unfold e131 at h; split at h
 ·cases h; exact q3r (q04 qt1 follows) _ hp
 ·cases h)
theorem qxj : TabOk Tryz.prog qsf := Tad (f := 112) (e := e112) (qxi) ⟨_, Tryz.func112, rfl, rfl⟩ (fun args p r h hp => by
 unfold e112 at h; split at h
 ·cases h; exact q3s (q04 qxi follows) _ hp
 ·cases h)
theorem qxk : TabOk Tryz.prog qsg := Tad (f := 115) (e := e115) (qxj) ⟨_, Tryz.func115, rfl, rfl⟩ (fun args p r h hp => by
 unfold e115 at h; split at h
 ·split at h
  ·rename_i h_v; cases h; exact (q3t (q04 qxj follows) _ hp).le ⟨qgw h_v, trivial⟩ (qbb _)
  ·cases h
 ·cases h)
theorem qxl : TabOk Tryz.prog qsh := Tad (f := 105) (e := e105) (qxk) ⟨_, Tryz.func105, rfl, rfl⟩ (fun args p r h hp => by
 unfold e105 at h; split at h
 ·split at h
  ·rename_i h_p; cases h; exact (q3u (q04 qxk follows) _ hp).le ⟨qh1 h_p, trivial⟩ (qbb _)
  ·cases h
 ·cases h)
theorem qz7 : TabOk Tryz.prog qvc := Tad (f := 63) (e := e63) (qxl) ⟨_, Tryz.func63, rfl, rfl⟩ (fun args p r h hp => by
 unfold e63 at h; split at h
 ·split at h
  ·rename_i h_c; cases h; exact (q5h (q04 qxl follows) _ hp).le ⟨qdz h_c, trivial⟩ (qbb _)
  ·cases h
 ·cases h)
theorem qxm : TabOk Tryz.prog qsi := Tad (f := 113) (e := e113) (qz7) ⟨_, Tryz.func113, rfl, rfl⟩ (fun args p r h hp => by
 unfold e113 at h; split at h
 ·split at h
  ·rename_i h_p; cases h; exact (q3v (q04 qz7 follows) _ hp).le ⟨qh1 h_p, trivial⟩ (qbb _)
  ·cases h
 ·cases h)
theorem qz8 : TabOk Tryz.prog qvd := Tad (f := 75) (e := e75) (qxm) ⟨_, Tryz.func75, rfl, rfl⟩ (fun args p r h hp => by
 unfold e75 at h; split at h
 ·split at h
  ·rename_i h_c; cases h; exact (q5i (q04 qxm follows) _ hp).le ⟨qdz h_c, trivial⟩ (qbb _)
  ·cases h
 ·cases h)
theorem qz9 : TabOk Tryz.prog qve := Tad (f := 36) (e := e36) (qz8) ⟨_, Tryz.func36, rfl, rfl⟩ (fun args p r h hp => by
 unfold e36 at h; split at h
 ·split at h
  ·rename_i h_c; cases h; exact (q5j (q04 qz8 follows) _ hp).le ⟨qdz h_c, trivial⟩ (qbb _)
  ·cases h
 ·cases h)
theorem qxn : TabOk Tryz.prog qsj := Tad (f := 114) (e := e114) (qz9) ⟨_, Tryz.func114, rfl, rfl⟩ (fun args p r h hp => by
 unfold e114 at h; split at h
 ·cases h; exact q3w (q04 qz9 follows) _ hp
 ·cases h)
theorem q00a : TabOk Tryz.prog qvf := Tad (f := 79) (e := e79) (qxn) ⟨_, Tryz.func79, rfl, rfl⟩ (fun args p r h hp => by
 unfold e79 at h; split at h
 ·split at h
  ·rename_i h_v; cases h; exact (q5k (q04 qxn follows) _ hp).le ⟨qgw h_v, trivial⟩ (qbb _)
  ·cases h
 ·cases h)
theorem q00b : TabOk Tryz.prog qvg := Tad (f := 34) (e := e34) (q00a) ⟨_, Tryz.func34, rfl, rfl⟩ (fun args p r h hp => by
 unfold e34 at h; split at h
 ·split at h
  ·rename_i h_c; cases h; exact (q5l (q04 q00a follows) _ hp).le ⟨qdz h_c, trivial⟩ (qbb _)
  ·cases h
 ·cases h)
theorem q00c : TabOk Tryz.prog qvh := Tad (f := 77) (e := e77) (q00b) ⟨_, Tryz.func77, rfl, rfl⟩ (fun args p r h hp => by
 unfold e77 at h; split at h
 ·split at h
  ·rename_i h_v; cases h; exact (q5m (q04 q00b follows) _ hp).le ⟨qgw h_v, trivial⟩ (qbb _)
  ·cases h
 ·cases h)
theorem q00d : TabOk Tryz.prog qvi := Tad (f := 31) (e := e31) (q00c) ⟨_, Tryz.func31, rfl, rfl⟩ (fun args p r h hp => by
 unfold e31 at h; split at h
 ·split at h
  ·rename_i h_c; cases h; exact (q5n (q04 q00c follows) _ hp).le ⟨qdz h_c, trivial⟩ (qbb _)
  ·cases h
 ·cases h)
theorem q00e : TabOk Tryz.prog qvj := Tad (f := 23) (e := e23) (q00d) ⟨_, Tryz.func23, rfl, rfl⟩ (fun args p r h hp => by
 unfold e23 at h; split at h
 ·split at h
  ·rename_i h_c; cases h; exact (q5o (q04 q00d follows) _ hp).le ⟨qdz h_c, trivial⟩ (qbb _)
  ·cases h
 ·cases h)
theorem q5v : TabOk Tryz.prog qvk := Tad (f := 21) (e := e21) (q00e) ⟨_, Tryz.func21, rfl, rfl⟩ (fun args p r h hp => by
 unfold e21 at h; split at h
 ·split at h
  ·rename_i h_c; cases h; exact (q5p (q04 q00e follows) _).le ⟨qdz h_c, trivial⟩ (qbb _)
  ·cases h
 ·cases h)
end Go.Ev
namespace Go.Ev
open Go.ChangeShapes Go.WideShapes Go.ChangeAt Go.RowKit
section
variable {H : Type} {enc : TypeId × Value → H} {P : Program} {w : World} {sp : Nat → Bool} {held : Bool}
def RDs (w : World) (cs : List Value) (ds : List D) : Prop := cs.length = ds.length ∧ ∀ (j : Nat) (v : Value) (d : D), cs[j]? = some v → ds[j]? = some d → RD w (fun _ => False) v d ∧ d.one = true
theorem RDs.nil : RDs w [] [] := ⟨rfl, fun j v d h => by simp at h⟩
theorem RDs.one {v : Value} {d : D} (h : RD w (fun _ => False) v d) (h1 : d.one = true) : RDs w [v] [d] := ⟨rfl, fun j u e hj he => by
 match j with
 | 0 => simp at hj he; subst hj; subst he; exact ⟨h, h1⟩
 | j + 1 => simp at hj⟩
theorem RDs.append {a b : List Value} {x y : List D} (h : RDs w a x) (k : RDs w b y) : RDs w (a ++ b) (x ++ y) := by
 refine ⟨by rw [List.length_append, List.length_append, h.1, k.1], fun j v d hj hd => ?_⟩
 by_cases hl : j < a.length
 ·rw [List.getElem?_append_left hl] at hj
  rw [List.getElem?_append_left (by rw [← h.1]; exact hl)] at hd
  exact h.2 j v d hj hd
 ·rw [List.getElem?_append_right (by omega)] at hj
  rw [List.getElem?_append_right (by rw [← h.1]; omega)] at hd
  rw [h.1] at hj
  exact k.2 _ v d hj hd
theorem qzk {t : TypeId} {k : IntKind} (ht : P.underlying t = some (.int k)) {fuel : Nat} {cs : List Value} {x : DataW H × List MemPlace} (h : DataW.trod enc P w 0 sp held fuel t cs = some x) :
 ∃ n, (Lit.int k n).wf = true ∧ RDs w cs [.i k n] := by
 obtain ⟨n, rfl, _, hw⟩ := DataW.trod_int ht h
 exact ⟨n, hw, RDs.one (.i k n) rfl⟩
theorem qs1 {t : TypeId} (ht : P.underlying t = some .string) {fuel : Nat} {cs : List Value} {x : DataW H × List MemPlace} (h : DataW.trod enc P w 0 sp held fuel t cs = some x) :
 ∃ s : ByteArray, s.size ≤ maxLen ∧ RDs w cs [.s s] := by
 obtain ⟨n, rfl, _, hs⟩ := DataW.trod_string ht h
 exact ⟨n, hs, RDs.one (.s n) rfl⟩
theorem qxo {a : Addr} {v : Value} (h : w.cell? a = some v) : a.spot = none := by
 unfold World.cell? at h
 split at h
 ·split at h
  ·cases h
  ·rename_i hs; simpa using hs
 ·cases h
theorem qvl {t e : TypeId} {α : Type} {encf : α → D} {Ok : α → Prop} {sz : Nat} (ht : P.underlying t = some (.slice e)) (hsz : P.cellsOf e = sz) (h0 : 0 < sz) (hc : ∀ r, (encf r).cells.length = sz)
 (he : ∀ (fuel : Nat) (cs : List Value) (x : DataW H × List MemPlace), DataW.trod enc P w 0 sp held fuel e cs = some x → ∃ r, Ok r ∧ RDs w cs (encf r).cells)
 {fuel : Nat} {cs : List Value} {x : DataW H × List MemPlace} (h : DataW.trod enc P w 0 sp held fuel t cs = some x) :
 ∃ l : List α, (∀ r ∈ l, Ok r) ∧ l.length ≤ maxLen ∧ RDs w cs [.sl sz (l.map encf)] := by
 rcases DataW.trod_slice ht h with ⟨rfl, _⟩ | ⟨a, len, cap, qeg, rest, n, rfl, rfl, _, _, hlc, hcm, hel, hg, _, _⟩
 ·exact ⟨[], by simp, Nat.zero_le _, RDs.one (.sl0 sz) rfl⟩
 ·have key : ∀ i, i < len → ∃ r, Ok r ∧ ∃ cs', w.cells? 0 (a.add (i * sz)) sz = some cs' ∧ RDs w cs' (encf r).cells := fun i hi => by
   have h1 := hg i hi
   rw [hsz, List.getElem?_eq_getElem (by omega), Option.bind_eq_some_iff] at h1
   obtain ⟨cs', h2, h3⟩ := h1
   obtain ⟨r, hr, hd⟩ := he _ _ _ h3
   exact ⟨r, hr, cs', h2, hd⟩
  let f : ∀ i, i < len → α := fun i hi => Classical.choose (key i hi)
  have hf1 : ∀ i hi, Ok (f i hi) := fun i hi => (Classical.choose_spec (key i hi)).1
  have hf2 : ∀ i hi, ∃ cs', w.cells? 0 (a.add (i * sz)) sz = some cs' ∧ RDs w cs' (encf (f i hi)).cells := fun i hi => (Classical.choose_spec (key i hi)).2
  clear_value f
  have hspot : 0 < len → a.spot = none := fun hl => by
   obtain ⟨cs', h3, _⟩ := hf2 0 hl
   obtain ⟨_, h5, h6⟩ := World.cells?_some h3
   have h9 := h6 0 h0
   rw [List.getElem?_eq_getElem (by omega)] at h9
   have := qxo h9
   simpa [Addr.add] using this
  let l : List α := List.ofFn fun i : Fin len => f i.1 i.2
  have hll : l.length = len := by simp [l]
  have hli : ∀ i (hi : i < len), l[i]? = some (f i hi) := fun i hi => by simp [l, hi]
  have hfl : (flat (l.map encf)).length = len * sz := by
   rw [q0p (sz := sz) (fun d hd => by
    obtain ⟨r, _, rfl⟩ := List.mem_map.1 hd
    exact hc r), List.length_map, hll]
  have hcell : ∀ (k : Nat) (d : D), (flat (l.map encf))[k]? = some d → a.spot = none ∧ ∃ v, w.cell? ⟨a.block, a.off + k, none⟩ = some v ∧ RD w (fun _ => False) v d ∧ d.one = true := fun k d hk => by
   have hk1 : k < len * sz := by rw [← hfl]; exact (List.getElem?_eq_some_iff.1 hk).1
   have hi : k / sz < len := Nat.div_lt_of_lt_mul (by rwa [Nat.mul_comm])
   have hm : k % sz < sz := Nat.mod_lt _ h0
   have hkk : k / sz * sz + k % sz = k := by rw [Nat.mul_comm]; exact Nat.div_add_mod k sz
   have hj : (l.map encf)[k / sz]? = some (encf (f (k / sz) hi)) := by rw [List.getElem?_map, hli _ hi]; rfl
   have h2 := qds (sz := sz) (fun d hd => by
    obtain ⟨r, _, rfl⟩ := List.mem_map.1 hd
    exact hc r) hj hm
   rw [hkk, hk] at h2
   obtain ⟨cs', h3, h4⟩ := hf2 (k / sz) hi
   obtain ⟨_, h5, h6⟩ := World.cells?_some h3
   have h7 := h6 (k % sz) hm
   have hlt : k % sz < cs'.length := by omega
   rw [List.getElem?_eq_getElem hlt] at h7
   have h8 := h4.2 (k % sz) _ d (List.getElem?_eq_getElem hlt) h2.symm
   have hsp : a.spot = none := hspot (Nat.lt_of_le_of_lt (Nat.zero_le _) hi)
   refine ⟨hsp, _, ?_, h8⟩
   rw [← h7]
   congr 1
   obtain ⟨b, o, s⟩ := a
   simp only at hsp
   subst hsp
   unfold Addr.add
   (repeat' split) <;> simp <;> omega
  refine ⟨l, fun r hr => ?_, by omega, RDs.one ?_ rfl⟩
  ·obtain ⟨i, hi⟩ := List.mem_ofFn.1 hr
   rw [← hi]; exact hf1 _ _
  ·have hlm : len = (l.map encf).length := by simp [hll]
   rw [hlm]
   refine .sl a cap sz (l.map encf) (fun k => (w.cell? ⟨a.block, a.off + k, none⟩).getD default) (by omega) h0 (fun d hd => ?_) (fun hl => ⟨hspot ?_, fun hx => hx⟩) (fun k d hk => ?_) (fun k d hk => ?_)
   ·obtain ⟨r, hr, rfl⟩ := List.mem_map.1 hd
    refine ⟨hc r, fun c hcm => ?_⟩
    obtain ⟨i, hi⟩ := List.mem_ofFn.1 hr
    obtain ⟨cs', _, h4⟩ := hf2 i.1 i.2
    rw [← hi] at hcm
    obtain ⟨j, hj, hjc⟩ := List.getElem_of_mem hcm
    have hlt : j < cs'.length := by rw [h4.1]; exact hj
    exact (h4.2 j _ c (List.getElem?_eq_getElem hlt) (by rw [List.getElem?_eq_getElem hj, hjc])).2
   ·rcases Nat.eq_zero_or_pos len with e | e
    ·exact absurd (List.length_eq_zero_iff.1 (by omega)) hl
    ·exact e
   ·obtain ⟨_, v, hv, _⟩ := hcell k d hk
    rw [hv]; rfl
   ·obtain ⟨_, v, hv, h1, _⟩ := hcell k d hk
    rw [hv]; exact h1
theorem RDs.join {cs : List Value} {o n m : Nat} {a b : List D} (h : RDs w ((cs.drop o).take n) a) (k : RDs w (cs.drop m) b) (hm : o + n = m) : RDs w (cs.drop o) (a ++ b) := by
 subst hm
 have := RDs.append h k
 rwa [← List.drop_drop, List.take_append_drop] at this
theorem RDs.whole {cs : Array Value} {l : List D} (h : RDs w cs.toList l) : RD w (fun _ => False) (.agg cs) (.agg l) :=
 .agg cs l (by simpa using h.1) fun j v d hj hd => (h.2 j v d (by simpa using hj) hd).1
theorem RDs.last {cs : List Value} {n : Nat} (h : cs.length = n) : RDs w (cs.drop n) [] := by
 rw [List.drop_of_length_le (by omega)]; exact .nil
theorem qb9 {t n : Nat} (h : q0l P t = some n) : P.cellsOf t = n := by
 unfold q0l at h
 unfold Program.cellsOf
 rw [h]; rfl
theorem qf5 {α : Type} {xs : List α} {n i : Nat} (h : xs.length = n) (hi : i < n) : ∃ y, xs[i]? = some y := ⟨xs[i]'(by omega), by simp⟩
end
theorem qxp {P : Program} {f : FuncId} {ds : List D} {vs : Array Value} {w : World} (h : Sem P f (ds.map .d) (.d (.b true))) (hn : vs.size = ds.length)
 (hr : ∀ (j : Nat) (v : Value) (d : D), vs[j]? = some v → ds[j]? = some d → RD w (fun _ => False) v d) (hgi : GI w (fun _ => False)) :
 Calls P f vs w fun e w' => e = .returned (.bool true) ∧ Below w.heap.size w w' := by
 refine Calls.mono (h w vs (fun _ => False) [] (fun _ hf => hf.elim) (fun i j b hi => by simp at hi) (fun _ _ hf => hf) ⟨by simpa using hn, List.replicate ds.length [], by simp, by simp, fun j v o q hv ho hq => ?_⟩ (hgi.mono fun b hb => hb.elim id fun k => by unfold Blk at k; simp at k)) fun e w' ⟨v, u, os', he, hret, hro, _, _, hfr⟩ => ?_
 ·rw [List.getElem?_replicate] at hq
  split at hq
  ·cases hq
   rw [List.getElem?_map, Option.map_eq_some_iff] at ho
   obtain ⟨d, hd, rfl⟩ := ho
   exact .d v d ((hr j v d hv hd).mono fun b hb => by
    rcases hb with hb | hb
    ·exact hb
    ·unfold Blk at hb; simp at hb)
  ·cases hq
 ·subst he
  have hb : ∀ (ds : List D) (vs : List Value), q07 (ds.map O.d) vs = [] := fun ds => by
   induction ds with
   | nil => intro vs; cases vs <;> rfl
   | cons d ds ih => intro vs; cases vs with
     | nil => rfl
     | cons v vs => exact ih vs
  unfold Ret at hret
  rw [hb] at hret
  simp only at hret
  subst hret
  have hv : u = .bool true := by
   cases hro with
   | d _ _ h => cases h; rfl
  subst hv
  exact ⟨rfl, hfr.os, hfr.tape, hfr.output, hfr.ext.size, fun k hk => hfr.ext.same k hk (by unfold Blk; simp)⟩
end Go.Ev
namespace Go.Ev
open Go.ChangeShapes Go.WideShapes Go.ChangeAt Go.RowKit Go.Proofs
section
variable {H : Type} {enc : TypeId × Value → H} {P : Program} {w : World} {sp : Nat → Bool} {held : Bool}
theorem rdI {t : TypeId} {k : IntKind} (ht : P.underlying t = some (.int k)) {fuel : Nat} {cs : List Value} {x : DataW H × List MemPlace} (h : DataW.trod enc P w 0 sp held fuel t cs = some x) : ∃ n : Int, True ∧ RDs w cs [.i k n] :=
 let ⟨n, _, h⟩ := qzk ht h; ⟨n, trivial, h⟩
theorem rdS {t : TypeId} (ht : P.underlying t = some .string) {fuel : Nat} {cs : List Value} {x : DataW H × List MemPlace} (h : DataW.trod enc P w 0 sp held fuel t cs = some x) : ∃ n : ByteArray, True ∧ RDs w cs [.s n] :=
 let ⟨n, _, h⟩ := qs1 ht h; ⟨n, trivial, h⟩
theorem rdL {t e : TypeId} {α : Type} {encf : α → D} {sz : Nat} (ht : P.underlying t = some (.slice e)) (hsz : P.cellsOf e = sz) (h0 : 0 < sz) (hc : ∀ r, (encf r).cells.length = sz)
 (he : ∀ (fuel : Nat) (cs : List Value) (x : DataW H × List MemPlace), DataW.trod enc P w 0 sp held fuel e cs = some x → ∃ r, True ∧ RDs w cs (encf r).cells)
 {fuel : Nat} {cs : List Value} {x : DataW H × List MemPlace} (h : DataW.trod enc P w 0 sp held fuel t cs = some x) : ∃ l : List α, True ∧ RDs w cs [.sl sz (l.map encf)] :=
 let ⟨l, _, _, h⟩ := qvl (Ok := fun _ => True) ht hsz h0 hc he h; ⟨l, trivial, h⟩
theorem qxq {fuel : Nat} {cs : List Value} {x : DataW H × List MemPlace} (h : DataW.trod enc Tryz.prog w 0 sp held fuel 76 cs = some x) : ∃ r : CVal, True ∧ RDs w cs (q0t r).cells := by
 obtain ⟨xs, n, _, _, hl, hx, hf⟩ := DataW.trod_struct Tryz.underlying76 h
 rw [qb9 Ty.sz76] at hl
 obtain ⟨y0, hy0⟩ := qf5 hx (i := 0) (by decide)
 have f0 : DataW.trod enc Tryz.prog w 0 sp held n 3 ((cs.drop 0).take (Tryz.prog.cellsOf 3)) = xs[0]? := hf 0 _ rfl
 rw [qb9 Ty.sz3, hy0] at f0
 obtain ⟨a0, _, d0⟩ := rdI (k := .i64) Tryz.underlying3 f0
 obtain ⟨y1, hy1⟩ := qf5 hx (i := 1) (by decide)
 have f1 : DataW.trod enc Tryz.prog w 0 sp held n 9 ((cs.drop 1).take (Tryz.prog.cellsOf 9)) = xs[1]? := hf 1 _ rfl
 rw [qb9 Ty.sz9, hy1] at f1
 obtain ⟨a1, _, d1⟩ := rdS Tryz.underlying9 f1
 exact ⟨⟨a0, a1⟩, trivial, (RDs.join d0 (RDs.join d1 (RDs.last hl) rfl) rfl)⟩
theorem qvm {fuel : Nat} {cs : List Value} {x : DataW H × List MemPlace} (h : DataW.trod enc Tryz.prog w 0 sp held fuel 70 cs = some x) : ∃ r : CPart, True ∧ RDs w cs (q0d r).cells := by
 obtain ⟨xs, n, _, _, hl, hx, hf⟩ := DataW.trod_struct Tryz.underlying70 h
 rw [qb9 Ty.sz70] at hl
 obtain ⟨y0, hy0⟩ := qf5 hx (i := 0) (by decide)
 have f0 : DataW.trod enc Tryz.prog w 0 sp held n 9 ((cs.drop 0).take (Tryz.prog.cellsOf 9)) = xs[0]? := hf 0 _ rfl
 rw [qb9 Ty.sz9, hy0] at f0
 obtain ⟨a0, _, d0⟩ := rdS Tryz.underlying9 f0
 obtain ⟨y1, hy1⟩ := qf5 hx (i := 1) (by decide)
 have f1 : DataW.trod enc Tryz.prog w 0 sp held n 68 ((cs.drop 1).take (Tryz.prog.cellsOf 68)) = xs[1]? := hf 1 _ rfl
 rw [qb9 Ty.sz68, hy1] at f1
 obtain ⟨a1, _, d1⟩ := rdL (sz := 2) Tryz.underlying68 (qb9 Ty.sz76) (by decide) (fun _ => rfl) (fun _ _ _ h => qxq h) f1
 exact ⟨⟨a0, a1⟩, trivial, (RDs.join d0 (RDs.join d1 (RDs.last hl) rfl) rfl)⟩
theorem qxr {fuel : Nat} {cs : List Value} {x : DataW H × List MemPlace} (h : DataW.trod enc Tryz.prog w 0 sp held fuel 33 cs = some x) : ∃ r : CStr, True ∧ RDs w cs (q08 r).cells := by
 obtain ⟨xs, n, _, _, hl, hx, hf⟩ := DataW.trod_struct Tryz.underlying33 h
 rw [qb9 Ty.sz33] at hl
 obtain ⟨y0, hy0⟩ := qf5 hx (i := 0) (by decide)
 have f0 : DataW.trod enc Tryz.prog w 0 sp held n 9 ((cs.drop 0).take (Tryz.prog.cellsOf 9)) = xs[0]? := hf 0 _ rfl
 rw [qb9 Ty.sz9, hy0] at f0
 obtain ⟨a0, _, d0⟩ := rdS Tryz.underlying9 f0
 obtain ⟨y1, hy1⟩ := qf5 hx (i := 1) (by decide)
 have f1 : DataW.trod enc Tryz.prog w 0 sp held n 31 ((cs.drop 1).take (Tryz.prog.cellsOf 31)) = xs[1]? := hf 1 _ rfl
 rw [qb9 Ty.sz31, hy1] at f1
 obtain ⟨a1, _, d1⟩ := rdL (sz := 2) Tryz.underlying31 (qb9 Ty.sz70) (by decide) (fun _ => rfl) (fun _ _ _ h => qvm h) f1
 exact ⟨⟨a0, a1⟩, trivial, (RDs.join d0 (RDs.join d1 (RDs.last hl) rfl) rfl)⟩
end
end Go.Ev
namespace Go
variable {H : Type} {enc : TypeId × Value → H}
theorem qky {a : Assume} {C : Checked} {os : Os} {f : FuncId} {fn : Func} {s : ChangeSpec} {conds : List PathCond} {apart fresh handsOn again : Bool} {X : World → Array Value → Prop}
 (hX : ∀ (w w' : World) (args : Array Value), w.heap = w'.heap → X w args → X w' args)
 (own : ownKnob C.prog.godebug = none) (started : os.Started) (noInit : C.prog.inits.idxOf? f = none) (hfn : C.prog.funcs[f]? = some fn)
 (witness : ∃ (w : World) (tape : Tape) (i : Input), w.os = os ∧ (w.forCall tape i).Shaped C.prog ∧ i.vars = [] ∧ Input.okWide C.prog (w.forCall tape i) .any w.heap.size f i ∧
   ((s.pre enc C.prog fn conds apart (w.forCall tape i).memory i.args ∧ X (w.forCall tape i).memory i.args) ∧ sizedMet enc C.prog fn (OpenSpec.ofChange s) apart (w.forCall tape i).memory i.args) ∧ a.holds C.prog (lone (Frame.enter C.prog f i.args .normal) [] (w.forCall tape i)))
 (contract : ∀ (W : World) (base : Nat) (args : Array Value) (ds gs : List (DataW H)) (before : List MemPlace),
   (∀ (j : Nat) t v, fn.params[j]? = some t → args[j]? = some v → Value.okWide C.prog W .any base t v) →
   DataW.Whole enc C.prog fn.params.toList s.vars apart W args.toList ds gs before → X W args → W.ShapedOpen C.prog →
   Calls C.prog f args W fun e W' => ∃ v, e = .returned v ∧ s.post enc C.prog fn apart fresh handsOn again W args v W') :
 ReturnsInHanded a C os f .any (fun w args => (s.pre enc C.prog fn conds apart w args ∧ X w args) ∧ sizedMet enc C.prog fn (OpenSpec.ofChange s) apart w args) (s.post enc C.prog fn apart fresh handsOn again) := by
 refine returnsInHanded_of_calls own started noInit witness ?_
 intro w tape i _ shape _ ok pre _
 obtain ⟨_, _, _, fn', g, _, _, _, _, val⟩ := ok
 obtain rfl : fn' = fn := Option.some.inj (g.symm.trans hfn)
 obtain ⟨⟨⟨ds, gs, before, k, _⟩, x⟩, _⟩ := pre
 refine Calls.mono (contract (w.forCall tape i) w.heap.size i.args ds gs before val (DataW.Whole.of_heap (w' := w.forCall tape i) (by rfl) k) (hX _ _ _ (by rfl) x) shape) ?_
 rintro _ W' ⟨v, rfl, h⟩
 exact ChangeSpec.post_blind h
end Go
namespace Go.Ev
open Go.Proofs
theorem qvn (w : World) (h : w.ShapedOpen Tryz.prog) : qh4 w :=
 cell_of_shapedOpen_int (g := 1) (t := 3) (zero := #[.int .i64 0]) h (of_decide_eq_true (by kernel_rfl)) (by kernel_rfl) rfl (by kernel_rfl) (by kernel_rfl) (by kernel_rfl)
theorem gi37 (w : World) (h : w.ShapedOpen Tryz.prog) : GI w (fun _ => False) := ⟨qvn w h, fun _ _ h => h⟩
end Go.Ev
