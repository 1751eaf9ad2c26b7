/- Tools and contracts under the laws of this seat: DevSemF, DevLaysSx, DevStr37, DevAwake37, DevFold37, DtE, DtE1, DevRs37, DtE2. -/
import Derived.Test.YtlejldoefoppaaaGreatDoorE06
import Derived.Test.YtlejldoefoppaaaGreatDoorProg
import Derived.Shelf.Strings.OnBuilder
import Derived.Shelf.Strings.Search1
import Derived.KernelRfl
import Derived.Test.YtlejldoefoppaaaGreatDoorE00
import Derived.Test.YtlejldoefoppaaaGreatDoorE05
import Derived.Test.YtlejldoefoppaaaGreatDoorE03
import Derived.Laws.IdiomStrings
import Derived.WalkKit
import Derived.WalkSpells
import Derived.Deep.LoopGhost
import Derived.Shelf.Abstract
set_option linter.unusedVariables false
set_option linter.unusedSimpArgs false
namespace Go.Ev
open Go.RowKit
def encF : D → Value
 | .b x => .bool x
 | .i k n => .int k n
 | .s x => .string x
 | _ => .bool false
def D.sc : D → Bool
 | .b _ | .i _ _ | .s _ => true
 | _ => false
theorem q002 {w : World} {X : Nat → Prop} {v : Value} {d : D} (h : RD w X v d) (hd : d.sc = true) : v = encF d := by
 cases h <;> first | rfl | cases hd
theorem q003 {w : World} {X : Nat → Prop} : ∀ {d : D}, d.sc = true → RD w X (encF d) d
 | .b _, _ => .b _
 | .i _ _, _ => .i _ _
 | .s _, _ => .s _
theorem qli : ∀ (l : List D) (vs : List Value), q06 (l.map O.d) vs = []
 | [], vs => by cases vs <;> rfl
 | d :: l, [] => rfl
 | d :: l, v :: vs => by
   show q06 (l.map O.d) vs = []
   exact qli l vs
theorem q3z {w : World} {X : Nat → Prop} {v : Value} {d : D} {os : List (Option Nat)} (h : RO w X v (.d d) os) : os = [] ∧ RD w X v d := by
 cases h with
 | d _ _ h => exact ⟨rfl, h⟩
theorem ql0 {P : Program} {f : FuncId} {l : List D} {r : D} (hl : l.all D.sc = true) (hr : r.sc = true)
 (h : ∀ w, Calls P f (l.map encF).toArray w fun e w' => e = .returned (encF r) ∧ Below w.heap.size w w') : Sem P f (l.map O.d) (.d r) := by
 intro w vs X os hX hA hd ⟨hn, oss, h1, h2, h3⟩ hgi
 have hvs : vs = (l.map encF).toArray := by
  refine Array.ext (by simpa using hn) fun i hi hi' => ?_
  have hil : i < l.length := by simpa using hi'
  obtain ⟨_, hrd⟩ := q3z (d := l[i]) (h3 i vs[i] (.d l[i]) (oss[i]'(by rw [h1]; simpa using hil)) (by simp [hi]) (by simp [hil]) (by simp [h1, hil]))
  have := q002 hrd (List.all_eq_true.1 hl _ (List.getElem_mem hil))
  simpa using this
 subst hvs
 refine Calls.mono (h w) ?_
 rintro e w' ⟨rfl, hb⟩
 refine ⟨encF r, encF r, [], rfl, ?_, .d _ _ (q003 hr), ?_, ?_, qye hb⟩
 ·unfold Ret
  rw [qli]
 ·intro i j b hi; simp at hi
 ·intro b hb'; cases hb'
end Go.Ev
namespace Go.Ev
open Go.Proofs Go.Shelf
def qpj : Go.Shelf.Ren := ⟨fun | 158 => 127 | 165 => 140 | 166 => 141 | 167 => 142 | 169 => 143 | 230 => 144 | 203 => 145 | 240 => 154 | 241 => 155 | 197 => 156 | 118 => 157 | 168 => 158 | 270 => 159 | 262 => 160 | 276 => 169 | 277 => 170 | 260 => 171 | 242 => 172 | 313 => 173 | 278 => 185 | 274 => 186 | 275 => 187 | n => n, fun | 9 => 9 | 4 => 4 | 3 => 3 | 5 => 5 | 72 => 159 | 0 => 0 | 76 => 163 | 75 => 162 | 107 => 167 | 70 => 157 | 20 => 20 | 37 => 86 | 127 => 174 | 21 => 21 | 105 => 175 | 164 => 183 | 162 => 189 | 203 => 187 | 119 => 200 | 46 => 201 | 139 => 204 | 138 => 203 | 51 => 205 | 160 => 206 | 208 => 224 | 206 => 222 | 80 => 100 | n => n, fun | 13 => 0 | 3 => 2 | 4 => 3 | n => n⟩
theorem layUp : Lays.n158 Tryz.prog qpj := {
 mixed := by kernel_rfl,
 f118 := Tryz.func157.trans (congrArg some (by kernel_rfl)),
 f158 := Tryz.func127.trans (congrArg some (by kernel_rfl)),
 f165 := Tryz.func140.trans (congrArg some (by kernel_rfl)),
 f166 := Tryz.func141.trans (congrArg some (by kernel_rfl)),
 f167 := Tryz.func142.trans (congrArg some (by kernel_rfl)),
 f168 := Tryz.func158.trans (congrArg some (by kernel_rfl)),
 f169 := Tryz.func143.trans (congrArg some (by kernel_rfl)),
 f197 := Tryz.func156.trans (congrArg some (by kernel_rfl)),
 f203 := Tryz.func145.trans (congrArg some (by kernel_rfl)),
 f230 := Tryz.func144.trans (congrArg some (by kernel_rfl)),
 f240 := Tryz.func154.trans (congrArg some (by kernel_rfl)),
 f241 := Tryz.func155.trans (congrArg some (by kernel_rfl)),
 f242 := Tryz.func172.trans (congrArg some (by kernel_rfl)),
 f260 := Tryz.func171.trans (congrArg some (by kernel_rfl)),
 f262 := Tryz.func160.trans (congrArg some (by kernel_rfl)),
 f270 := Tryz.func159.trans (congrArg some (by kernel_rfl)),
 f274 := Tryz.func186.trans (congrArg some (by kernel_rfl)),
 f275 := Tryz.func187.trans (congrArg some (by kernel_rfl)),
 f276 := Tryz.func169.trans (congrArg some (by kernel_rfl)),
 f277 := Tryz.func170.trans (congrArg some (by kernel_rfl)),
 f278 := Tryz.func185.trans (congrArg some (by kernel_rfl)),
 f313 := Tryz.func173.trans (congrArg some (by kernel_rfl)),
 t0 := Tryz.underlying0,
 a0 := Tryz.isAgg0,
 z0 := Tryz.sizeOf0,
 v0 := Tryz.zeroValue0,
 t3 := Tryz.underlying3,
 a3 := Tryz.isAgg3,
 z3 := Tryz.sizeOf3,
 v3 := Tryz.zeroValue3,
 t4 := Tryz.underlying4,
 a4 := Tryz.isAgg4,
 z4 := Tryz.sizeOf4,
 v4 := Tryz.zeroValue4,
 t5 := Tryz.underlying5,
 a5 := Tryz.isAgg5,
 z5 := Tryz.sizeOf5,
 v5 := Tryz.zeroValue5,
 t9 := Tryz.underlying9,
 a9 := Tryz.isAgg9,
 z9 := Tryz.sizeOf9,
 v9 := Tryz.zeroValue9,
 t20 := Tryz.underlying20,
 a20 := Tryz.isAgg20,
 z20 := Tryz.sizeOf20,
 v20 := Tryz.zeroValue20,
 t21 := Tryz.underlying21,
 a21 := Tryz.isAgg21,
 z21 := Tryz.sizeOf21,
 v21 := Tryz.zeroValue21,
 t37 := Tryz.underlying86,
 a37 := Tryz.isAgg86,
 z37 := Tryz.sizeOf86,
 v37 := Tryz.zeroValue86,
 t46 := Tryz.underlying201,
 a46 := Tryz.isAgg201,
 z46 := Tryz.sizeOf201,
 v46 := Tryz.zeroValue201,
 t51 := Tryz.underlying205,
 a51 := Tryz.isAgg205,
 z51 := Tryz.sizeOf205,
 v51 := Tryz.zeroValue205,
 t70 := Tryz.underlying157,
 a70 := Tryz.isAgg157,
 z70 := Tryz.sizeOf157,
 v70 := Tryz.zeroValue157,
 t72 := Tryz.underlying159,
 a72 := Tryz.isAgg159,
 z72 := Tryz.sizeOf159,
 v72 := Tryz.zeroValue159,
 t75 := Tryz.underlying162,
 a75 := Tryz.isAgg162,
 z75 := Tryz.sizeOf162,
 v75 := Tryz.zeroValue162,
 t76 := Tryz.underlying163,
 a76 := Tryz.isAgg163,
 z76 := Tryz.sizeOf163,
 v76 := Tryz.zeroValue163,
 t105 := Tryz.underlying175,
 a105 := Tryz.isAgg175,
 z105 := Tryz.sizeOf175,
 v105 := Tryz.zeroValue175,
 t107 := Tryz.underlying167,
 a107 := Tryz.isAgg167,
 z107 := Tryz.sizeOf167,
 v107 := Tryz.zeroValue167,
 t119 := Tryz.underlying200,
 a119 := Tryz.isAgg200,
 z119 := Tryz.sizeOf200,
 t127 := Tryz.underlying174,
 a127 := Tryz.isAgg174,
 z127 := Tryz.sizeOf174,
 v127 := Tryz.zeroValue174,
 t138 := Tryz.underlying203,
 a138 := Tryz.isAgg203,
 z138 := Tryz.sizeOf203,
 v138 := Tryz.zeroValue203,
 t139 := Tryz.underlying204,
 a139 := Tryz.isAgg204,
 z139 := Tryz.sizeOf204,
 v139 := Tryz.zeroValue204,
 t160 := Tryz.underlying206,
 a160 := Tryz.isAgg206,
 z160 := Tryz.sizeOf206,
 v160 := Tryz.zeroValue206,
 t162 := Tryz.underlying189,
 a162 := Tryz.isAgg189,
 z162 := Tryz.sizeOf189,
 v162 := Tryz.zeroValue189,
 t164 := Tryz.underlying183,
 a164 := Tryz.isAgg183,
 z164 := Tryz.sizeOf183,
 v164 := Tryz.zeroValue183,
 t203 := Tryz.underlying187,
 a203 := Tryz.isAgg187,
 z203 := Tryz.sizeOf187,
 v203 := Tryz.zeroValue187,
 t206 := Tryz.underlying222,
 a206 := Tryz.isAgg222,
 z206 := Tryz.sizeOf222,
 v206 := Tryz.zeroValue222,
 t208 := Tryz.underlying224,
 a208 := Tryz.isAgg224,
 z208 := Tryz.sizeOf224,
 v208 := Tryz.zeroValue224,
 g3 := by kernel_rfl,
 g4 := by kernel_rfl,
 g13 := by kernel_rfl }
def qwr : Go.Shelf.Ren := ⟨fun | 217 => 188 | 266 => 199 | n => n, fun | 9 => 9 | 5 => 5 | 3 => 3 | n => n, fun n => n⟩
theorem q30 : Lays.n217 Tryz.prog qwr := {
 mixed := by kernel_rfl,
 f217 := Tryz.func188.trans (congrArg some (by kernel_rfl)),
 f266 := Tryz.func199.trans (congrArg some (by kernel_rfl)),
 t3 := Tryz.underlying3,
 a3 := Tryz.isAgg3,
 z3 := Tryz.sizeOf3,
 v3 := Tryz.zeroValue3,
 t5 := Tryz.underlying5,
 a5 := Tryz.isAgg5,
 z5 := Tryz.sizeOf5,
 v5 := Tryz.zeroValue5,
 t9 := Tryz.underlying9,
 a9 := Tryz.isAgg9,
 z9 := Tryz.sizeOf9,
 v9 := Tryz.zeroValue9 }
theorem q004 : Builder.Extra Tryz.prog qpj where
 sizeBuilder := by kernel_rfl
 liesBuilder := by kernel_rfl
 t5 := layUp.t5
 a5 := layUp.a5
 z5 := layUp.z5
 v5 := layUp.v5
 infoByte := by kernel_rfl
 cellsByte := by kernel_rfl
 sizeByte := by kernel_rfl
 neB5 := by decide
end Go.Ev
namespace Go.Ev
open Go.Proofs Go.RowKit
theorem qws {s : ByteArray} (h1 : s.size ≤ 140737488355328) (h2 : ∀ b ∈ s.data.toList, b.toNat < 128) : Sem Tryz.prog 127 [.d (.s s)] (.d (.s ⟨(Lib.toUpperA s.data.toList).toArray⟩)) :=
 ql0 (l := [.s s]) (r := .s ⟨(Lib.toUpperA s.data.toList).toArray⟩) rfl rfl fun w =>
  Any.strings_ToUpper_ascii layUp q004 s w h1 fun _ b hb => h2 b (List.mem_of_getElem? hb)
theorem q2v {s : ByteArray} {c : Int} : Sem Tryz.prog 188 [.d (.s s), .d (.i .u8 c)] (.d (.i .i64 (Lib.indexByte s.data.toList c.toNat.toUInt8))) :=
 ql0 (l := [.s s, .i .u8 c]) (r := .i .i64 (Lib.indexByte s.data.toList c.toNat.toUInt8)) rfl rfl fun w =>
  Calls.mono (Any.stringslite_IndexByte q30 s c w) fun _ _ ⟨h1, h2⟩ => ⟨h1, by subst h2; exact Below.refl _ _⟩
def tabS : FuncId → List O → Option O := fun f os => bif Nat.beq f 127 then (match os with
    | [.d (.s x)] => bif Nat.ble x.data.toList.length 140737488355328 && x.data.toList.all (fun b => Nat.blt b.toNat 128) then some (.d (.s ⟨(Lib.toUpperA x.data.toList).toArray⟩)) else none
    | _ => none) else bif Nat.beq f 188 then (match os with
    | [.d (.s x), .d (.i .u8 c)] => some (.d (.i .i64 (Lib.indexByte x.data.toList c.toNat.toUInt8)))
    | _ => none) else none
theorem q005 (f : FuncId) (os : List O) (r : O) (h : tabS f os = some r) : Sem Tryz.prog f os r ∧ qdy Tryz.prog f := by
 unfold tabS at h
 cases h1 : Nat.beq f 127 with
 | true =>
   rw [h1] at h
   simp only [cond_true] at h
   have := Nat.eq_of_beq_eq_true h1
   subst this
   split at h
   ·rename_i x
    cases hb : (Nat.ble x.data.toList.length 140737488355328 && x.data.toList.all (fun b => Nat.blt b.toNat 128)) with
    | false => rw [hb] at h; cases h
    | true =>
      rw [hb] at h
      cases h
      rw [Bool.and_eq_true, List.all_eq_true] at hb
      exact ⟨qws (Nat.le_of_ble_eq_true hb.1) fun b hb' => Nat.le_of_ble_eq_true (hb.2 b hb'), ⟨_, Tryz.func127, rfl, by kernel_rfl⟩⟩
   ·cases h
 | false =>
   rw [h1] at h
   simp only [cond_false] at h
   cases h2 : Nat.beq f 188 with
   | true =>
     rw [h2] at h
     simp only [cond_true] at h
     have := Nat.eq_of_beq_eq_true h2
     subst this
     split at h
     ·cases h
      exact ⟨q2v, ⟨_, Tryz.func188, rfl, by kernel_rfl⟩⟩
     ·cases h
   | false => rw [h2] at h; cases h
end Go.Ev
namespace Go.Ev
open Go.Proofs
def q31 : FuncId → Nat → List (Nat × TypeId × Nat) := fun f j => if f = 52 ∨ f = 53 ∨ f = 54 ∨ f = 55 ∨ f = 95 ∨ f = 97 ∨ f = 98 ∨ f = 128 then (if j = 0 then [(4242, 99, 0)] else []) else if f = 65 ∨ f = 106 then (if j = 0 then [(4242, 112, 0), (5, 71, 1), (6, 4, 1)] else []) else []
def q32 : FuncId → Nat → List (Nat × TypeId × Nat) := fun f j => if f = 53 ∨ f = 54 then (if j = 0 then [(4242, 99, 0)] else []) else if f = 52 ∨ f = 55 ∨ f = 95 ∨ f = 97 ∨ f = 98 ∨ f = 128 then (if j = 1 then [(4242, 99, 0)] else []) else if f = 65 then (if j = 1 then [(4242, 112, 0), (5, 71, 1), (6, 4, 1)] else []) else if f = 106 then (if j = 2 then [(4242, 112, 0), (5, 71, 1), (6, 4, 1)] else []) else []
def H37 : Hand := ⟨q31, q32, tabS⟩
theorem qwt : runT Tryz.prog H37 400 24 13 [] = some (True, .d (.b true)) := by kernel_rfl
theorem qwu : Sem Tryz.prog 13 [] (.d (.b true)) := (qky (H := H37) (by kernel_rfl) q005 24 qwt).2.1
end Go.Ev
namespace Go.Ev
open Go.Proofs Go.RowKit
set_option maxHeartbeats 1000000
set_option maxRecDepth 100000
theorem qsk (c : Int) (w : World) : Calls Tryz.prog 99 #[.int .u8 c] w fun e w' => e = .returned (.bool (decide (97 ≤ c) && decide (c ≤ 122))) ∧ w' = w := by
 have t4 := Tryz.underlying4
 have t5 := Tryz.underlying5
 go_enter Tryz.func99, Tryz.ntmps99
 go_wp2
 all_goals go_ret
 ·rename_i k; exact ⟨by rw [decide_eq_true k]; rfl, rfl⟩
 ·rename_i k; exact ⟨by rw [decide_eq_false (by omega : ¬ 97 ≤ c)]; rfl, rfl⟩
def FoldRow (s : ByteArray) (bk i : Nat) (w : World) : Prop := ∃ cs : Array Value, w.heap[bk]? = some (.cells cs 5 (cs.size, cs.size + 1)) ∧ s.size ≤ cs.size ∧
 ∀ j, j < s.size → cs[j]? = some (.int .u8 (if j < i then ((Go.Lib.upperB (s.data.toList.getD j 0)).toNat : Int) else chr s j))
theorem FoldRow.cell {s : ByteArray} {bk i : Nat} {w : World} (h : FoldRow s bk i w) (hi : i < s.size) : w.cell? ⟨bk, i, none⟩ = some (.int .u8 (chr s i)) ∧ w.frozen? ⟨bk, i, none⟩ = false := by
 obtain ⟨cs, h1, h2, h3⟩ := h
 have := h3 i hi
 rw [if_neg (by omega)] at this
 refine ⟨by unfold World.cell?; simp only [h1]; exact this, ?_⟩
 unfold World.frozen?
 simp only [h1]
 simp
 omega
theorem FoldRow.set {s : ByteArray} {bk i : Nat} {w : World} (h : FoldRow s bk i w) (hi : i < s.size) {v : Int} (hv : v = ((Go.Lib.upperB (s.data.toList.getD i 0)).toNat : Int)) : FoldRow s bk (i + 1) (w.setCell ⟨bk, i, none⟩ (.int .u8 v)) := by
 obtain ⟨cs, h1, h2, h3⟩ := h
 refine ⟨cs.setIfInBounds i (.int .u8 v), ?_, by simpa using h2, fun j hj => ?_⟩
 ·unfold World.setCell
  simp only [Array.getElem?_modify, h1]
  simp
 ·rw [Array.getElem?_setIfInBounds]
  by_cases e : i = j
  ·subst e
   rw [if_pos rfl, if_pos (by omega), if_pos (by omega), hv]
  ·rw [if_neg e, h3 j hj]
   by_cases k : j < i
   ·rw [if_pos k, if_pos (by omega)]
   ·rw [if_neg k, if_neg (by omega)]
theorem FoldRow.skip {s : ByteArray} {bk i : Nat} {w : World} (h : FoldRow s bk i w) (hv : chr s i = ((Go.Lib.upperB (s.data.toList.getD i 0)).toNat : Int)) : FoldRow s bk (i + 1) w := by
 obtain ⟨cs, h1, h2, h3⟩ := h
 refine ⟨cs, h1, h2, fun j hj => ?_⟩
 rw [h3 j hj]
 by_cases e : j = i
 ·subst e
  rw [if_neg (by omega), if_pos (by omega), hv]
 ·by_cases k : j < i
  ·rw [if_pos k, if_pos (by omega)]
  ·rw [if_neg k, if_neg (by omega)]
theorem qwv {b : UInt8} (h : 97 ≤ (b.toNat : Int) ∧ (b.toNat : Int) ≤ 122) : ((Go.Lib.upperB b).toNat : Int) = (b.toNat : Int) - 97 + 65 := by
 rw [Go.Lib.upperB_int b (by rw [Go.Lib.isLowerB_int, decide_eq_true h.1, decide_eq_true h.2]; rfl)]; omega
theorem qyf {b : UInt8} (h : 97 ≤ (b.toNat : Int) → 122 < (b.toNat : Int)) : Go.Lib.upperB b = b := by
 refine Go.Lib.upperB_of_not b ?_
 rw [Go.Lib.isLowerB_int]
 by_cases k : 97 ≤ (b.toNat : Int)
 ·rw [decide_eq_false (by have := h k; omega : ¬ (b.toNat : Int) ≤ 122)]; simp
 ·rw [decide_eq_false k]; rfl
theorem qui (s : ByteArray) (w : World) (hs : s.size ≤ 400) (h : ∀ b ∈ s.data.toList, b.toNat < 128) : Calls Tryz.prog 57 #[.string s] w fun e w' => e = .returned (.string (upS s)) ∧ Below w.heap.size w w' := by
 have hc := run_bytes_of_string (P := Tryz.prog) w 9 86 5 s Tryz.underlying9 Tryz.underlying86 Tryz.underlying5
 have t4 := Tryz.underlying4
 have t5 := Tryz.underlying5
 have e99 : ∀ args w, (callFunc 99 args).run Tryz.prog w = .ok (.enter 99 args) w := enters_of Tryz.func99 (by kernel_rfl) rfl
 go_enter Tryz.func57, Tryz.ntmps57
 go_wp2
 go_loopg [4] s.size (fun g s4 wx => ∃ i : Nat, s4 = .int .i64 i ∧ i + g = s.size ∧ Hid (Below w.heap.size w wx) ∧ Hid (FoldRow s w.heap.size i wx))
 case atStart =>
  refine ⟨0, rfl, by omega, ?_, ?_⟩
  ·exact (((Below.refl w.heap.size w).alloc (Nat.le_refl _) _).drew : Below w.heap.size w _)
  ·have hge := grownCap_ge w s.size 0 5
   refine ⟨bytesRow s (grownCap w s.size 0 5), ?_, ?_, fun j hj => ?_⟩
   ·show (w.heap.push _)[w.heap.size]? = _
    simp
   ·simp [bytesRow]
   ·rw [bytesRow_at s _ j hj, if_neg (by omega)]
    unfold chr
    rw [show s.data.toList.getD j 0 = s.data[j] from by
     have : s.data.toList.length = s.data.size := rfl
     simp only [List.getD]
     rw [List.getElem?_eq_getElem (by rw [this]; exact hj)]
     simp]
 case round =>
  obtain ⟨i, rfl, hg, hB, hF⟩ := hrel
  cases gk with
  | zero =>
    have hback := run_convert_bytes_back (P := Tryz.prog) wr 86 9 5 ⟨w.heap.size, 0, none⟩ (grownCap w s.size 0 5) (s.data.toList.map Go.Lib.upperB) Tryz.underlying86 Tryz.underlying5 Tryz.underlying9 (fun j hj => by
     obtain ⟨cs, h1, h2, h3⟩ := hF.out
     rw [List.length_map] at hj
     have hj' : j < s.size := hj
     have := h3 j hj'
     rw [if_pos (by omega)] at this
     unfold World.cell?
     rw [show (⟨w.heap.size, 0, none⟩ : Addr).add j = ⟨w.heap.size, j, none⟩ from by simp only [Addr.add_lit, Nat.zero_add]]
     simp only [h1, Option.isSome_none, Bool.false_eq_true, if_false]
     rw [this, List.getElem_map]
     rw [show s.data.toList.getD j 0 = s.data.toList[j] from by simp only [List.getD]; rw [List.getElem?_eq_getElem hj]; rfl])
    rw [List.length_map, show s.data.toList.length = s.size from rfl] at hback
    have hni : ¬ (i : Int) < (s.size : Int) := by omega
    go_wp2
    go_ret
    exact ⟨rfl, hB.out⟩
  | succ g =>
    have hi : i < s.size := by omega
    obtain ⟨hcell, hfz⟩ := hF.out.cell hi
    have hlt : (i : Int) < (s.size : Int) := by omega
    have h0 : (0 : Int) ≤ (i : Int) := by omega
    go_wp2_with (first | (go_at_fn 99; refine (qsk _ _).mono ?_; rintro e w' ⟨rfl, rfl⟩))
    ·rename_i k
     go_roundg g
     case measure => omega
     case rel => exact ⟨i + 1, by first | rfl | simp, by omega, hB.out.setCell (p := ⟨w.heap.size, i, none⟩) (Nat.le_refl _) _, hF.out.set hi (qwv k).symm⟩
    ·rename_i k
     go_roundg g
     case measure => omega
     case rel =>
      have k2 : chr s i < 97 ∨ 122 < chr s i := by simpa using k
      have k3 : 97 ≤ ((s.data.toList.getD i 0).toNat : Int) → 122 < ((s.data.toList.getD i 0).toNat : Int) := fun z => by
       unfold chr at k2; omega
      exact ⟨i + 1, by first | rfl | simp, by omega, hB.out, hF.out.skip (by rw [qyf k3]; rfl)⟩
theorem qyg {s : ByteArray} (h1 : s.size ≤ 400) (h2 : ∀ b ∈ s.data.toList, b.toNat < 128) : Sem Tryz.prog 57 [.d (.s s)] (.d (.s (upS s))) :=
 ql0 (l := [.s s]) (r := .s (upS s)) rfl rfl fun w => qui s w h1 h2
end Go.Ev
namespace Go.Ev
noncomputable section
open Go.Proofs Ty
set_option maxRecDepth 10000
set_option maxHeartbeats 4000000
theorem q0e {P Q : Prop} (h : P) (e : P = Q := by simp only [Bool.or_eq_true, Bool.and_eq_true, Bool.or_eq_false_iff, Bool.and_eq_false_iff, Bool.not_eq_true', Bool.not_eq_false', Bool.not_eq_true, Bool.not_eq_false, decide_eq_true_eq, decide_eq_false_iff_not, beq_iff_eq, bne_iff_ne, beq_eq_false_iff_ne, bne_eq_false_iff_eq, ne_eq, Int.not_lt, Int.not_le, D.b.injEq, D.i.injEq, D.s.injEq, D.agg.injEq, D.sl.injEq, true_and, and_true, List.cons.injEq, gt_iff_lt, ge_iff_le,  Bool.cond_true_left, Bool.cond_false_right, Bool.cond_true_right, Bool.cond_false_left, qn6, qn7, qys, qyt, qyq, qyr]; exact rfl) : Q := e.mp h
theorem qbm {P Q : Prop} (q : Q) (e : P = Q := by simp only [Bool.or_eq_true, Bool.and_eq_true, Bool.or_eq_false_iff, Bool.and_eq_false_iff, Bool.not_eq_true', Bool.not_eq_false', Bool.not_eq_true, Bool.not_eq_false, decide_eq_true_eq, decide_eq_false_iff_not, beq_iff_eq, bne_iff_ne, beq_eq_false_iff_ne, bne_eq_false_iff_eq, ne_eq, Int.not_lt, Int.not_le, D.b.injEq, D.i.injEq, D.s.injEq, D.agg.injEq, D.sl.injEq, true_and, and_true, List.cons.injEq, gt_iff_lt, ge_iff_le,  Bool.cond_true_left, Bool.cond_false_right, Bool.cond_true_right, Bool.cond_false_left, qn6, qn7, qys, qyt, qyq, qyr]; exact rfl) : P := e.mpr q
theorem siQ {P Q : Prop} (q : Q) (e : P = Q := by simp (maxSteps := 1000000) only [go_sem, ↓reduceIte, reduceCtorEq, Nat.reduceEqDiff, Nat.reduceLT, Nat.reduceLeDiff, Nat.reduceMul, Nat.reduceAdd, Nat.reduceSub, reduceDIte, Nat.reduceBEq, Nat.reduceBNe]; exact rfl) : P := e.mpr q
theorem subQ {P Q : Prop} (q : Q) (e : P = Q := by simp (maxSteps := 1000000) only [forall_eq, V.ptr.injEq, V.row.injEq, V.rp.injEq, V.mref.injEq, exists_eq_left', and_assoc, rhoV, qiy, qt6, rhoO, qt7, qmv, rho1, HS.obj?, forall_eq', qkm, qkn, qmr, nfL, vs, vss, vds, vd1, os, aget, go_sem, ↓reduceIte, reduceCtorEq, Nat.reduceEqDiff, Nat.reduceLT, Nat.reduceLeDiff, Nat.reduceMul, Nat.reduceAdd, Nat.reduceSub, reduceDIte, Nat.reduceBEq, Nat.reduceBNe]; exact rfl) : P := e.mpr q
theorem inQ {P Q : Prop} (q : Q) (e : P = Q := by simp only [qfn, qcj, inO, inO2, inO1, inOs, List.append_nil, List.nil_append, Nat.mul_zero, List.cons_append, Nat.zero_add, Nat.reduceAdd, Nat.reduceMul, List.length_map, q0s, q0v, qd0, qo0, qsz, q00e]; exact rfl) : P := e.mpr q
theorem follows : Tryz.prog.follows .mixedOrders = true := by kernel_rfl
def mvs : FuncId → Nat → List (Nat × TypeId × Nat) := fun f => if f = 52 then (fun j => if j = 0 then [(4242, 99, 0)] else []) else if f = 53 then (fun j => if j = 0 then [(4242, 99, 0)] else []) else if f = 54 then (fun j => if j = 0 then [(4242, 99, 0)] else []) else if f = 55 then (fun j => if j = 0 then [(4242, 99, 0)] else []) else if f = 95 then (fun j => if j = 0 then [(4242, 99, 0)] else []) else if f = 97 then (fun j => if j = 0 then [(4242, 99, 0)] else []) else if f = 98 then (fun j => if j = 0 then [(4242, 99, 0)] else []) else if f = 128 then (fun j => if j = 0 then [(4242, 99, 0)] else []) else if f = 59 then (fun j => if j = 0 then [(4242, 105, 0)] else []) else if f = 56 then (fun j => if j = 0 then [(4242, 105, 0)] else []) else if f = 58 then (fun j => if j = 0 then [(4242, 105, 0)] else []) else if f = 102 then (fun j => if j = 0 then [(4242, 105, 0)] else []) else if f = 101 then (fun j => if j = 0 then [(4242, 105, 0)] else []) else if f = 60 then (fun j => if j = 0 then [(4242, 105, 0)] else []) else fun _ => []
def e127 : List O → Option (Prop × O)
 | [.d (.s x)] => some (x.size ≤ 140737488355328 ∧ (∀ b ∈ x.data.toList, b.toNat < 128), .d (.s (upS x)))
 | _ => none
def qru : FuncId → List O → Option (Prop × O) := addT (fun _ _ => none) 127 e127
def e126 : List O → Option (Prop × O)
 | [.d (.i .u8 c)] => some (True, .d (.b (endC c)))
 | _ => none
def qrv : FuncId → List O → Option (Prop × O) := addT qru 126 e126
def e96 : List O → Option (Prop × O)
 | [.d (.cp [.s s_r, .i .i64 a_r, .i .i64 p_r, .i .i64 e_r]), .d (.i .u8 c)] => match qb1 s_r a_r p_r e_r with
   | some r => some (r.pos ≤ 401 ∧ r.s.size ≤ 400, .d (.b (isAt r.s r.pos c)))
   | _ => none
 | _ => none
def quj : FuncId → List O → Option (Prop × O) := addT qrv 96 e96
def e54 : List O → Option (Prop × O)
 | [.bx 99 [.d (.s s_r), .d (.i .i64 a_r), .d (.i .i64 p_r), .d (.i .i64 e_r)], .d (.i .i64 place), .d (.i .i64 e)] => match qb1 s_r a_r p_r e_r with
   | some r => some (True, .tup [.bx 99 [.d (.s r.s), .d (.i .i64 (r.pos : Int)), .d (.i .i64 (fP r.err r.place place)), .d (.i .i64 (fE r.err e))]])
   | _ => none
 | _ => none
def quk : FuncId → List O → Option (Prop × O) := addT quj 54 e54
def e53 : List O → Option (Prop × O)
 | [.bx 99 [.d (.s s_r), .d (.i .i64 a_r), .d (.i .i64 p_r), .d (.i .i64 e_r)]] => match qb1 s_r a_r p_r e_r with
   | some r => some (r.pos ≤ 401 ∧ r.s.size ≤ 400, .tup [.bx 99 [.d (.s r.blanks.s), .d (.i .i64 (r.blanks.pos : Int)), .d (.i .i64 r.blanks.place), .d (.i .i64 r.blanks.err)]])
   | _ => none
 | _ => none
def qul : FuncId → List O → Option (Prop × O) := addT quk 53 e53
def e95 : List O → Option (Prop × O)
 | [.bx 99 [.d (.s s_r), .d (.i .i64 a_r), .d (.i .i64 p_r), .d (.i .i64 e_r)]] => match qb1 s_r a_r p_r e_r with
   | some r => some (r.pos ≤ r.s.size ∧ asc r.s, .tup [.d (.s r.wtxt), .bx 99 [.d (.s r.word.s), .d (.i .i64 (r.word.pos : Int)), .d (.i .i64 r.word.place), .d (.i .i64 r.word.err)]])
   | _ => none
 | _ => none
def qum : FuncId → List O → Option (Prop × O) := addT qul 95 e95
def e91 : List O → Option (Prop × O)
 | [.d (.i .i64 n), .d (.i .i64 least), .d (.i .i64 most)] => some (True, .d (.b (decide (least ≤ n) && decide (n ≤ most))))
 | _ => none
def qun : FuncId → List O → Option (Prop × O) := addT qum 91 e91
def e82 : List O → Option (Prop × O)
 | [.d (.b b)] => some (True, .d (.i .i64 (if b = true then 1 else 0)))
 | _ => none
def qup : FuncId → List O → Option (Prop × O) := addT qun 82 e82
def e43 : List O → Option (Prop × O)
 | [.d (.i .u8 c)] => some (True, .d (.b (decide (65 ≤ c) && decide (c ≤ 90))))
 | _ => none
def quq : FuncId → List O → Option (Prop × O) := addT qup 43 e43
def e92 : List O → Option (Prop × O)
 | [.d (.i .u8 c)] => some (True, .d (.b (decide (48 ≤ c) && decide (c ≤ 57))))
 | _ => none
def qur : FuncId → List O → Option (Prop × O) := addT quq 92 e92
def e99 : List O → Option (Prop × O)
 | [.d (.i .u8 c)] => some (True, .d (.b (decide (97 ≤ c) && decide (c ≤ 122))))
 | _ => none
def qus : FuncId → List O → Option (Prop × O) := addT qur 99 e99
def e48 : List O → Option (Prop × O)
 | [.d (.s s)] => some (True, .d (.b (qbq s)))
 | _ => none
def qut : FuncId → List O → Option (Prop × O) := addT qus 48 e48
def e87 : List O → Option (Prop × O)
 | [.d (.s s)] => some (True, .d (.b (qbq s)))
 | _ => none
def quu : FuncId → List O → Option (Prop × O) := addT qut 87 e87
def e51 : List O → Option (Prop × O)
 | [.d (.i .u8 c)] => some (True, .d (.b (decide (c < 32) || decide (126 < c))))
 | _ => none
def quv : FuncId → List O → Option (Prop × O) := addT quu 51 e51
def e50 : List O → Option (Prop × O)
 | [.d x_l, .d (.fn 51 [])] => match decL 1 (decI .u8) x_l with
   | some l => some (l.length ≤ 1000000, .d (.i .i64 (idxP badC l)))
   | _ => none
 | _ => none
def quw : FuncId → List O → Option (Prop × O) := addT quv 50 e50
def e128 : List O → Option (Prop × O)
 | [.bx 99 [.d (.s s_r), .d (.i .i64 a_r), .d (.i .i64 p_r), .d (.i .i64 e_r)]] => match qb1 s_r a_r p_r e_r with
   | some r => some (r.pos < r.s.size ∧ asc r.s, .tup [.d (q0s r.qval), .bx 99 [.d (.s r.quoted.s), .d (.i .i64 (r.quoted.pos : Int)), .d (.i .i64 r.quoted.place), .d (.i .i64 r.quoted.err)]])
   | _ => none
 | _ => none
def qrw : FuncId → List O → Option (Prop × O) := addT quw 128 e128
def e98 : List O → Option (Prop × O)
 | [.bx 99 [.d (.s s_r), .d (.i .i64 a_r), .d (.i .i64 p_r), .d (.i .i64 e_r)], .d (.b op)] => match qb1 s_r a_r p_r e_r with
   | some r => some (r.pos ≤ r.s.size ∧ asc r.s, .tup [.d (q0s r.valV), .bx 99 [.d (.s (r.valR.stop op).s), .d (.i .i64 ((r.valR.stop op).pos : Int)), .d (.i .i64 (r.valR.stop op).place), .d (.i .i64 (r.valR.stop op).err)]])
   | _ => none
 | _ => none
def qux : FuncId → List O → Option (Prop × O) := addT qrw 98 e98
def e52 : List O → Option (Prop × O)
 | [.bx 99 [.d (.s s_r), .d (.i .i64 a_r), .d (.i .i64 p_r), .d (.i .i64 e_r)]] => match qb1 s_r a_r p_r e_r with
   | some r => some (r.pos ≤ r.s.size ∧ asc r.s, .tup [.d (.s r.nmT), .bx 99 [.d (.s r.nmR.s), .d (.i .i64 (r.nmR.pos : Int)), .d (.i .i64 r.nmR.place), .d (.i .i64 r.nmR.err)]])
   | _ => none
 | _ => none
def quy : FuncId → List O → Option (Prop × O) := addT qux 52 e52
def e97 : List O → Option (Prop × O)
 | [.bx 99 [.d (.s s_r), .d (.i .i64 a_r), .d (.i .i64 p_r), .d (.i .i64 e_r)]] => match qb1 s_r a_r p_r e_r with
   | some r => some (r.pos < r.s.size ∧ r.s.size ≤ 400 ∧ asc r.s ∧ r.err = 0, .tup [.d (.sl 2 (r.list.2.map q0s)), .bx 99 [.d (.s r.list.1.s), .d (.i .i64 (r.list.1.pos : Int)), .d (.i .i64 r.list.1.place), .d (.i .i64 r.list.1.err)]])
   | _ => none
 | _ => none
def quz : FuncId → List O → Option (Prop × O) := addT quy 97 e97
def e55 : List O → Option (Prop × O)
 | [.bx 99 [.d (.s s_r), .d (.i .i64 a_r), .d (.i .i64 p_r), .d (.i .i64 e_r)]] => match qb1 s_r a_r p_r e_r with
   | some r => some (r.pos ≤ r.s.size ∧ r.s.size ≤ 400 ∧ asc r.s ∧ r.err = 0, .tup [.d (q0v r.partV), .bx 99 [.d (.s r.partR.s), .d (.i .i64 (r.partR.pos : Int)), .d (.i .i64 r.partR.place), .d (.i .i64 r.partR.err)]])
   | _ => none
 | _ => none
def qu0 : FuncId → List O → Option (Prop × O) := addT quz 55 e55
def mkC (n : Nat) (t : FuncId → List O → Option (Prop × O)) : Cfg := ⟨Tryz.prog, n, t, (fun _ _ => []), [], (fun _ => none)⟩
attribute [go_sem] qxc qvp qxd qvq qty e1_n e1_g qqx qvs qvr qsd qtz qzy qvt qxe aget qvu qvv qt0 q24 qvw qse qzz qvx qz0 qxf q1z qz1 qxg qsf qxh qz2 qqy qxi qqz qxj qxk qpt qxl qt3 qsg qt4 qz3 qxn V.cells V.one D.one D.cells newObj nm HS.isFree HS.isLive qtw qtv List.map_cons List.map_nil Option.bind_some Option.bind_none putL List.cons_append List.nil_append qq2 qvz qt5 qmt qq3 qfb true_and and_true q0m qbr cval Option.map_some Option.map_none loadAt storeAt ldV ldD mkAgg V.asD q0o List.take_succ_cons List.take_zero List.drop_succ_cons List.drop_zero List.getElem?_cons_zero List.getElem?_cons_succ List.getElem?_nil List.all_cons List.all_nil Bool.and_true Bool.true_and Bool.and_self List.length_cons List.length_nil vals qbi qce argO toD3 toD2 toD1 toDs O.ok O.ok2 O.ok1 O.flat O.flat1 D.flat D.flatA inO inO2 inO1 inOs List.filterMap_nil List.filterMap_cons List.filter_nil List.filter_cons List.nodup_nil decide_true decide_false Bool.not_true Bool.not_false not_true_eq_false not_false_eq_true or_false false_or and_false false_and ne_eq List.append_nil optB qeu qbx beq_self_eq_true List.mapM_cons List.mapM_nil Option.pure_def Option.bind_eq_bind true_or or_true or_self q0l ite_self not_true not_false_iff ite_true ite_false if_true if_false Bool.false_eq_true Bool.true_eq_false List.any_nil List.any_cons List.contains_nil List.contains_cons eq_self qdi qdq qez qe5 qfs qg7 qdp q0w qhh lenOf binD qjg unD qg8 qt2 qt1 qq0 qec qed qsn qjh qvy qq1 qxm List.range_zero Nat.zero_le Nat.zero_mul Nat.zero_add Nat.add_zero List.length_append List.take_length List.isEmpty_nil List.isEmpty_cons V.neg List.flatMap_nil and_self List.range_succ forall_const implies_true Nat.not_lt_zero qq4 qv0 qxo qms qge qxr qv2 qcu qb3 mvAt qxp qv1 qxq ole oles dle dles List.nodup_cons List.mem_cons List.not_mem_nil List.drop_length Nat.le_refl Nat.lt_irrefl id_eq Option.some.injEq Bool.or_false Bool.false_or Bool.or_self Bool.or_true Bool.true_or false_implies Bool.and_false Bool.false_and List.reverse_cons List.reverse_nil sh1 qpu mget qc4 qbz qf9 qkc qkd Option.isSome_some Option.isSome_none Bool.cond_true_left Bool.cond_false_right Bool.cond_true_right Bool.cond_false_left beq_true beq_false Bool.not_not imp_self qd2 notB qji qdh qd6 qix D.splice kEq Option.toList_some Option.toList_none adel List.getD_cons_zero List.getD_cons_succ qfa bxId qer hget one1 qb7 qdg
attribute [go_sem] sz5 ag5 zr5 zo5 zd5 by5 sl5 st5 bo5 pt5 ck5 sz3 ag3 zr3 zo3 zd3 by3 sl3 st3 bo3 pt3 ck3 sz9 ag9 zr9 zo9 zd9 by9 sl9 un9 st9 bo9 pt9 ck9 sz25 ag25 zr25 zo25 zd25 by25 sl25 st25 bo25 pt25 ck25 sz99 ag99 zr99 zd99 by99 sl99 st99 bo99 pt99 q2c q2d q2e q2f q2g q2h q2i q2j pl99 ek99 sz4 ag4 zr4 zo4 zd4 by4 sl4 st4 bo4 pt4 sz86 ag86 zr86 zo86 zd86 by86 el86 sl86 un86 st86 bo86 pt86 ck86 sz76 ag76 zr76 zd76 by76 sl76 st76 bo76 pt76 q18 q19 q2a q2b pl76 ek76 sz97 ag97 zr97 zo97 zd97 by97 sl97 st97 bo97 pt97 sz68 ag68 zr68 zo68 zd68 by68 el68 sl68 un68 st68 bo68 pt68 sz70 ag70 zr70 zd70 by70 sl70 st70 bo70 pt70 q14 q15 q16 q17 pl70 sz31 ag31 zr31 zo31 zd31 by31 el31 sl31 un31 st31 bo31 pt31 sz33 ag33 zr33 zd33 by33 sl33 st33 bo33 pt33 q10 q11 q12 q13 pl33 q3f q3g q3h q3i q3j q3k q3l q3m q3n qz4 qz5 qz6 qz7 qz8 qz9 q00a q00b q3o q3p q25 q26 q27 q28 q29 q3a q3b q3c q3d q3e
end
end Go.Ev
namespace Go.Ev
noncomputable section
open Go.Proofs Ty
set_option maxRecDepth 10000
set_option maxHeartbeats 4000000
def e18 : List O → Option (Prop × O)
 | [.d (.s s)] => some (True, .tup [.d (qd0 (qcb s).1), .d (.i .i64 (qcb s).2.1), .d (.i .i64 (qcb s).2.2)])
 | _ => none
def qu1 : FuncId → List O → Option (Prop × O) := addT qu0 18 e18
def e59 : List O → Option (Prop × O)
 | [.bx 105 [.d (.s s_r), .d (.i .i64 a_r), .d (.i .i64 p_r), .d (.i .i64 e_r)], .d (.i .i64 pl), .d (.i .i64 e)] => match qb1 s_r a_r p_r e_r with
   | some r => some (True, .tup [.bx 105 [.d (.s r.s), .d (.i .i64 (r.pos : Int)), .d (.i .i64 (fP r.err r.place pl)), .d (.i .i64 (fE r.err e))]])
   | _ => none
 | _ => none
def qu2 : FuncId → List O → Option (Prop × O) := addT qu1 59 e59
def e56 : List O → Option (Prop × O)
 | [.bx 105 [.d (.s s_r), .d (.i .i64 a_r), .d (.i .i64 p_r), .d (.i .i64 e_r)]] => match qb1 s_r a_r p_r e_r with
   | some r => some (r.pos ≤ 401 ∧ r.s.size ≤ 400, .tup [.d (.b r.more), .bx 105 [.d (.s r.blanks.s), .d (.i .i64 (r.blanks.pos : Int)), .d (.i .i64 r.blanks.place), .d (.i .i64 r.blanks.err)]])
   | _ => none
 | _ => none
def qu3 : FuncId → List O → Option (Prop × O) := addT qu2 56 e56
def e100 : List O → Option (Prop × O)
 | [.d (.i .u8 c)] => some (True, .d (.b (inWq c)))
 | _ => none
def qww : FuncId → List O → Option (Prop × O) := addT qu3 100 e100
def e57 : List O → Option (Prop × O)
 | [.d (.s x)] => some (x.size ≤ 400 ∧ ∀ b ∈ x.data.toList, b.toNat < 128, .d (.s (upS x)))
 | _ => none
def qu4 : FuncId → List O → Option (Prop × O) := addT qww 57 e57
def e58 : List O → Option (Prop × O)
 | [.bx 105 [.d (.s s_r), .d (.i .i64 a_r), .d (.i .i64 p_r), .d (.i .i64 e_r)]] => match qb1 s_r a_r p_r e_r with
   | some r => some (r.pos ≤ r.s.size ∧ qfc r.s, .tup [.d (.s r.wraw), .bx 105 [.d (.s r.word.s), .d (.i .i64 (r.word.pos : Int)), .d (.i .i64 r.word.place), .d (.i .i64 r.word.err)]])
   | _ => none
 | _ => none
def qu5 : FuncId → List O → Option (Prop × O) := addT qu4 58 e58
def e102 : List O → Option (Prop × O)
 | [.bx 105 [.d (.s s_r), .d (.i .i64 a_r), .d (.i .i64 p_r), .d (.i .i64 e_r)]] => match qb1 s_r a_r p_r e_r with
   | some r => some (r.pos < r.s.size ∧ r.s.size ≤ 400, .tup [.d (q0s r.qval), .bx 105 [.d (.s r.quoted.s), .d (.i .i64 (r.quoted.pos : Int)), .d (.i .i64 r.quoted.place), .d (.i .i64 r.quoted.err)]])
   | _ => none
 | _ => none
def qrx : FuncId → List O → Option (Prop × O) := addT qu5 102 e102
def e101 : List O → Option (Prop × O)
 | [.bx 105 [.d (.s s_r), .d (.i .i64 a_r), .d (.i .i64 p_r), .d (.i .i64 e_r)]] => match qb1 s_r a_r p_r e_r with
   | some r => some (r.pos < r.s.size ∧ qfc r.s, .tup [.d (.sl 2 (r.rlist.2.map q0s)), .bx 105 [.d (.s r.rlist.1.s), .d (.i .i64 (r.rlist.1.pos : Int)), .d (.i .i64 r.rlist.1.place), .d (.i .i64 r.rlist.1.err)]])
   | _ => none
 | _ => none
def qry : FuncId → List O → Option (Prop × O) := addT qrx 101 e101
def e60 : List O → Option (Prop × O)
 | [.bx 105 [.d (.s s_r), .d (.i .i64 a_r), .d (.i .i64 p_r), .d (.i .i64 e_r)]] => match qb1 s_r a_r p_r e_r with
   | some r => some (r.pos < r.s.size ∧ qfc r.s, .tup [.d (q0v r.rpart.2), .bx 105 [.d (.s r.rpart.1.s), .d (.i .i64 (r.rpart.1.pos : Int)), .d (.i .i64 r.rpart.1.place), .d (.i .i64 r.rpart.1.err)]])
   | _ => none
 | _ => none
def qu6 : FuncId → List O → Option (Prop × O) := addT qry 60 e60
def e19 : List O → Option (Prop × O)
 | [.d (.s s)] => some (True, .tup [.d (qd0 (qbs s).1), .d (.i .i64 (qbs s).2.1), .d (.i .i64 (qbs s).2.2)])
 | _ => none
def qu7 : FuncId → List O → Option (Prop × O) := addT qu6 19 e19
end
end Go.Ev
namespace Go.Ev
theorem ql1 (op : Nat) : ∀ (n : Nat) (r : Rd) (out : List CVal), (lrun op n r out).2.length ≤ out.length + n
 | 0, r, out => Nat.le_refl _
 | n + 1, r, out => by
   unfold lrun
   split
   ·split
    ·simp
    ·split
     ·simp
     ·have := ql1 op n (r.valR.stop true).blanks (out ++ [r.valV])
      rw [List.length_append, List.length_singleton] at this; omega
   ·split
    ·simp
    ·split
     ·show out.length ≤ _; omega
     ·split
      ·show out.length ≤ _; omega
      ·show out.length ≤ _; omega
theorem qwx {r : Rd} : r.partV.values.length ≤ 12 := by
 have h1 : r.list.2.length ≤ 12 := by
  have := ql1 r.pos 12 (r.to (r.pos + 1)).blanks []
  unfold Rd.list; simpa using this
 have h2 : r.word.list.2.length ≤ 12 := by
  have := ql1 r.word.pos 12 (r.word.to (r.word.pos + 1)).blanks []
  unfold Rd.list; simpa using this
 unfold Rd.partV
 split
 ·exact h1
 ·split
  ·simp [q09]
  ·split
   ·simp
   ·split
    ·simp
    ·split
     ·simp [q09]
     ·exact h2
theorem qrz : ∀ (n : Nat) (r : Rd) (out : List CPart), (prun n r out).2.length ≤ out.length + n ∧ ∀ p ∈ (prun n r out).2, p ∈ out ∨ p.values.length ≤ 12
 | 0, r, out => ⟨Nat.le_refl _, fun p hp => .inl hp⟩
 | n + 1, r, out => by
   unfold prun
   split
   ·split
    ·exact ⟨by show out.length ≤ _; omega, fun p hp => .inl hp⟩
    ·obtain ⟨h1, h2⟩ := qrz n r.partR.blanks (out ++ [r.partV])
     rw [List.length_append, List.length_singleton] at h1
     refine ⟨by omega, fun p hp => ?_⟩
     rcases h2 p hp with h | h
     ·rw [List.mem_append, List.mem_singleton] at h
      rcases h with h | h
      ·exact .inl h
      ·subst h; exact .inr qwx
     ·exact .inr h
   ·exact ⟨by show out.length ≤ _; omega, fun p hp => .inl hp⟩
def qp4 (c : CStr) : Prop := c.parts.length ≤ 1000000 ∧ ∀ j, (c.parts.getD j q09).values.length ≤ 1000000
theorem qn9 : qp4 qb8 := ⟨by simp [qb8], fun j => by simp [qb8, q09]⟩
theorem q006 (s : ByteArray) : qp4 (qcb s).1 := by
 unfold qcb
 split
 ·exact qn9
 ·split
  ·exact qn9
  ·split
   ·exact qn9
   ·obtain ⟨h1, h2⟩ := qrz 13 (rd0 s).nmR.blanks []
    refine ⟨by simp only [List.length_nil] at h1; show (prun 13 (rd0 s).nmR.blanks []).2.length ≤ _; omega, fun j => ?_⟩
    show ((prun 13 (rd0 s).nmR.blanks []).2.getD j q09).values.length ≤ _
    by_cases hj : j < (prun 13 (rd0 s).nmR.blanks []).2.length
    ·rcases h2 _ (qq6 q09 hj) with h | h
     ·cases h
     ·omega
    ·simp only [List.getD]; rw [List.getElem?_eq_none (by omega)]; simp [q09]
theorem qpk {l : List CPart} {i : Nat} (h : i < l.length) (z : D) : (l.map q0v).getD i z = q0v (l.getD i q09) := by
 simp only [List.getD, List.getElem?_map, List.getElem?_eq_getElem h]
 rfl
theorem q007 {a b : CPart} (h1 : a.keyword = b.keyword) (h2 : a.values = b.values) : a = b := by cases a; cases b; simp_all
theorem q2w {a b : CStr} (h1 : a.name = b.name) (h2 : a.parts = b.parts) : a = b := by cases a; cases b; simp_all
theorem qyh (s : ByteArray) : qbs s = qcb s := (qx1 s).symm
end Go.Ev
namespace Go.Ev
noncomputable section
open Go.Proofs Ty
set_option maxRecDepth 10000
set_option maxHeartbeats 4000000
def e20 : List O → Option (Prop × O)
 | [.d x_a, .d x_b] => match qg2 x_a, qg2 x_b with
   | some a, some b => some (qp4 a, .d (.b (decide (a = b))))
   | _, _ => none
 | _ => none
def qy0 : FuncId → List O → Option (Prop × O) := addT qu7 20 e20
def e13 : List O → Option (Prop × O)
 | [] => some (True, .d (.b true))
 | _ => none
def qy1 : FuncId → List O → Option (Prop × O) := addT qy0 13 e13
def e4 : List O → Option (Prop × O)
 | [.d (.s s)] => some (True, .d (.b true))
 | _ => none
end
end Go.Ev
