/- Tools and contracts under the laws of this seat: DevSemF to DtE2. -/
import Derived.Test.YtlejldoefoppaaaGreatDoorE06
import Derived.Test.YtlejldoefoppaaaGreatDoorProg
import Derived.Shelf.Strings.OnBuilder
import Derived.Shelf.Strings.Search1
import Derived.KernelRfl
import Derived.Test.YtlejldoefoppaaaGreatDoorE00
import Derived.Test.YtlejldoefoppaaaGreatDoorE05
import Derived.Test.YtlejldoefoppaaaGreatDoorE03
import Derived.Laws.IdiomStrings
import Derived.WalkKit
import Derived.WalkSpells
import Derived.Deep.LoopGhost
import Derived.Shelf.Abstract
import Derived.Lib.Replace
import Derived.Lib.Join
import Derived.Shelf.Strings.Replace
import Derived.Lib.SplitLaws
set_option linter.unusedVariables false
set_option linter.unusedSimpArgs false
namespace Go.Ev
open Go.RowKit
def encF : D → Value
 | .b x => .bool x
 | .i k n => .int k n
 | .s x => .string x
 | _ => .bool false
def D.sc : D → Bool
 | .b _ | .i _ _ | .s _ => true
 | _ => false
theorem qof {w : World} {X : Nat → Prop} {v : Value} {d : D} (h : RD w X v d) (hd : d.sc = true) : v = encF d := by
 cases h <;> first | rfl | cases hd
theorem qtq {w : World} {X : Nat → Prop} : ∀ {d : D}, d.sc = true → RD w X (encF d) d
 | .b _, _ => .b _
 | .i _ _, _ => .i _ _
 | .s _, _ => .s _
theorem qh3 : ∀ (l : List D) (vs : List Value), q07 (l.map O.d) vs = []
 | [], vs => by cases vs <;> rfl
 | d :: l, [] => rfl
 | d :: l, v :: vs => by
   show q07 (l.map O.d) vs = []
   exact qh3 l vs
theorem qqb {w : World} {X : Nat → Prop} {v : Value} {d : D} {os : List (Option Nat)} (h : RO w X v (.d d) os) : os = [] ∧ RD w X v d := by
 cases h with
 | d _ _ h => exact ⟨rfl, h⟩
theorem qrx {P : Program} {f : FuncId} {l : List D} {r : D} (hl : l.all D.sc = true) (hr : r.sc = true)
 (h : ∀ w, Calls P f (l.map encF).toArray w fun e w' => e = .returned (encF r) ∧ Below w.heap.size w w') : Sem P f (l.map O.d) (.d r) := by
 intro w vs X os hX hA hd ⟨hn, oss, h1, h2, h3⟩ hgi
 have hvs : vs = (l.map encF).toArray := by
  refine Array.ext (by simpa using hn) fun i hi hi' => ?_
  have hil : i < l.length := by simpa using hi'
  obtain ⟨_, hrd⟩ := qqb (d := l[i]) (h3 i vs[i] (.d l[i]) (oss[i]'(by rw [h1]; simpa using hil)) (by simp [hi]) (by simp [hil]) (by simp [h1, hil]))
  have := qof hrd (List.all_eq_true.1 hl _ (List.getElem_mem hil))
  simpa using this
 subst hvs
 refine Calls.mono (h w) ?_
 rintro e w' ⟨rfl, hb⟩
 refine ⟨encF r, encF r, [], rfl, ?_, .d _ _ (qtq hr), ?_, ?_, qlx hb⟩
 ·unfold Ret
  rw [qh3]
 ·intro i j b hi; simp at hi
 ·intro b hb'; cases hb'
end Go.Ev
namespace Go.Ev
open Go.Proofs Go.Shelf
def qpo : Go.Shelf.Ren := ⟨fun | 158 => 127 | 165 => 140 | 166 => 141 | 167 => 142 | 169 => 143 | 230 => 144 | 203 => 145 | 240 => 154 | 241 => 155 | 197 => 156 | 118 => 157 | 168 => 158 | 270 => 159 | 262 => 160 | 276 => 169 | 277 => 170 | 260 => 171 | 242 => 172 | 313 => 173 | 278 => 185 | 274 => 186 | 275 => 187 | n => n, fun | 9 => 9 | 4 => 4 | 3 => 3 | 5 => 5 | 72 => 159 | 0 => 0 | 76 => 163 | 75 => 162 | 107 => 167 | 70 => 157 | 20 => 20 | 37 => 86 | 127 => 174 | 21 => 21 | 105 => 175 | 164 => 183 | 162 => 189 | 203 => 187 | 119 => 200 | 46 => 201 | 139 => 204 | 138 => 203 | 51 => 205 | 160 => 206 | 208 => 224 | 206 => 222 | 80 => 100 | n => n, fun | 13 => 0 | 3 => 2 | 4 => 3 | n => n⟩
theorem layUp : Lays.n158 Tryz.prog qpo := {
 mixed := by kernel_rfl,
 f118 := Tryz.func157.trans (congrArg some (by kernel_rfl)),
 f158 := Tryz.func127.trans (congrArg some (by kernel_rfl)),
 f165 := Tryz.func140.trans (congrArg some (by kernel_rfl)),
 f166 := Tryz.func141.trans (congrArg some (by kernel_rfl)),
 f167 := Tryz.func142.trans (congrArg some (by kernel_rfl)),
 f168 := Tryz.func158.trans (congrArg some (by kernel_rfl)),
 f169 := Tryz.func143.trans (congrArg some (by kernel_rfl)),
 f197 := Tryz.func156.trans (congrArg some (by kernel_rfl)),
 f203 := Tryz.func145.trans (congrArg some (by kernel_rfl)),
 f230 := Tryz.func144.trans (congrArg some (by kernel_rfl)),
 f240 := Tryz.func154.trans (congrArg some (by kernel_rfl)),
 f241 := Tryz.func155.trans (congrArg some (by kernel_rfl)),
 f242 := Tryz.func172.trans (congrArg some (by kernel_rfl)),
 f260 := Tryz.func171.trans (congrArg some (by kernel_rfl)),
 f262 := Tryz.func160.trans (congrArg some (by kernel_rfl)),
 f270 := Tryz.func159.trans (congrArg some (by kernel_rfl)),
 f274 := Tryz.func186.trans (congrArg some (by kernel_rfl)),
 f275 := Tryz.func187.trans (congrArg some (by kernel_rfl)),
 f276 := Tryz.func169.trans (congrArg some (by kernel_rfl)),
 f277 := Tryz.func170.trans (congrArg some (by kernel_rfl)),
 f278 := Tryz.func185.trans (congrArg some (by kernel_rfl)),
 f313 := Tryz.func173.trans (congrArg some (by kernel_rfl)),
 t0 := Tryz.underlying0,
 a0 := Tryz.isAgg0,
 z0 := Tryz.sizeOf0,
 v0 := Tryz.zeroValue0,
 t3 := Tryz.underlying3,
 a3 := Tryz.isAgg3,
 z3 := Tryz.sizeOf3,
 v3 := Tryz.zeroValue3,
 t4 := Tryz.underlying4,
 a4 := Tryz.isAgg4,
 z4 := Tryz.sizeOf4,
 v4 := Tryz.zeroValue4,
 t5 := Tryz.underlying5,
 a5 := Tryz.isAgg5,
 z5 := Tryz.sizeOf5,
 v5 := Tryz.zeroValue5,
 t9 := Tryz.underlying9,
 a9 := Tryz.isAgg9,
 z9 := Tryz.sizeOf9,
 v9 := Tryz.zeroValue9,
 t20 := Tryz.underlying20,
 a20 := Tryz.isAgg20,
 z20 := Tryz.sizeOf20,
 v20 := Tryz.zeroValue20,
 t21 := Tryz.underlying21,
 a21 := Tryz.isAgg21,
 z21 := Tryz.sizeOf21,
 v21 := Tryz.zeroValue21,
 t37 := Tryz.underlying86,
 a37 := Tryz.isAgg86,
 z37 := Tryz.sizeOf86,
 v37 := Tryz.zeroValue86,
 t46 := Tryz.underlying201,
 a46 := Tryz.isAgg201,
 z46 := Tryz.sizeOf201,
 v46 := Tryz.zeroValue201,
 t51 := Tryz.underlying205,
 a51 := Tryz.isAgg205,
 z51 := Tryz.sizeOf205,
 v51 := Tryz.zeroValue205,
 t70 := Tryz.underlying157,
 a70 := Tryz.isAgg157,
 z70 := Tryz.sizeOf157,
 v70 := Tryz.zeroValue157,
 t72 := Tryz.underlying159,
 a72 := Tryz.isAgg159,
 z72 := Tryz.sizeOf159,
 v72 := Tryz.zeroValue159,
 t75 := Tryz.underlying162,
 a75 := Tryz.isAgg162,
 z75 := Tryz.sizeOf162,
 v75 := Tryz.zeroValue162,
 t76 := Tryz.underlying163,
 a76 := Tryz.isAgg163,
 z76 := Tryz.sizeOf163,
 v76 := Tryz.zeroValue163,
 t105 := Tryz.underlying175,
 a105 := Tryz.isAgg175,
 z105 := Tryz.sizeOf175,
 v105 := Tryz.zeroValue175,
 t107 := Tryz.underlying167,
 a107 := Tryz.isAgg167,
 z107 := Tryz.sizeOf167,
 v107 := Tryz.zeroValue167,
 t119 := Tryz.underlying200,
 a119 := Tryz.isAgg200,
 z119 := Tryz.sizeOf200,
 t127 := Tryz.underlying174,
 a127 := Tryz.isAgg174,
 z127 := Tryz.sizeOf174,
 v127 := Tryz.zeroValue174,
 t138 := Tryz.underlying203,
 a138 := Tryz.isAgg203,
 z138 := Tryz.sizeOf203,
 v138 := Tryz.zeroValue203,
 t139 := Tryz.underlying204,
 a139 := Tryz.isAgg204,
 z139 := Tryz.sizeOf204,
 v139 := Tryz.zeroValue204,
 t160 := Tryz.underlying206,
 a160 := Tryz.isAgg206,
 z160 := Tryz.sizeOf206,
 v160 := Tryz.zeroValue206,
 t162 := Tryz.underlying189,
 a162 := Tryz.isAgg189,
 z162 := Tryz.sizeOf189,
 v162 := Tryz.zeroValue189,
 t164 := Tryz.underlying183,
 a164 := Tryz.isAgg183,
 z164 := Tryz.sizeOf183,
 v164 := Tryz.zeroValue183,
 t203 := Tryz.underlying187,
 a203 := Tryz.isAgg187,
 z203 := Tryz.sizeOf187,
 v203 := Tryz.zeroValue187,
 t206 := Tryz.underlying222,
 a206 := Tryz.isAgg222,
 z206 := Tryz.sizeOf222,
 v206 := Tryz.zeroValue222,
 t208 := Tryz.underlying224,
 a208 := Tryz.isAgg224,
 z208 := Tryz.sizeOf224,
 v208 := Tryz.zeroValue224,
 g3 := by kernel_rfl,
 g4 := by kernel_rfl,
 g13 := by kernel_rfl }
def qwy : Go.Shelf.Ren := ⟨fun | 217 => 188 | 266 => 199 | n => n, fun | 9 => 9 | 5 => 5 | 3 => 3 | n => n, fun n => n⟩
theorem q4j : Lays.n217 Tryz.prog qwy := {
 mixed := by kernel_rfl,
 f217 := Tryz.func188.trans (congrArg some (by kernel_rfl)),
 f266 := Tryz.func199.trans (congrArg some (by kernel_rfl)),
 t3 := Tryz.underlying3,
 a3 := Tryz.isAgg3,
 z3 := Tryz.sizeOf3,
 v3 := Tryz.zeroValue3,
 t5 := Tryz.underlying5,
 a5 := Tryz.isAgg5,
 z5 := Tryz.sizeOf5,
 v5 := Tryz.zeroValue5,
 t9 := Tryz.underlying9,
 a9 := Tryz.isAgg9,
 z9 := Tryz.sizeOf9,
 v9 := Tryz.zeroValue9 }
theorem q008 : Builder.Extra Tryz.prog qpo where
 sizeBuilder := by kernel_rfl
 liesBuilder := by kernel_rfl
 t5 := layUp.t5
 a5 := layUp.a5
 z5 := layUp.z5
 v5 := layUp.v5
 infoByte := by kernel_rfl
 cellsByte := by kernel_rfl
 sizeByte := by kernel_rfl
 neB5 := by decide
end Go.Ev
namespace Go.Ev
open Go.Proofs Go.RowKit
theorem q2q {s : ByteArray} (h1 : s.size ≤ 140737488355328) (h2 : ∀ b ∈ s.data.toList, b.toNat < 128) : Sem Tryz.prog 127 [.d (.s s)] (.d (.s ⟨(Lib.toUpperA s.data.toList).toArray⟩)) :=
 qrx (l := [.s s]) (r := .s ⟨(Lib.toUpperA s.data.toList).toArray⟩) rfl rfl fun w =>
  Any.strings_ToUpper_ascii layUp q008 s w h1 fun _ b hb => h2 b (List.mem_of_getElem? hb)
theorem q2r {s : ByteArray} {c : Int} : Sem Tryz.prog 188 [.d (.s s), .d (.i .u8 c)] (.d (.i .i64 (Lib.indexByte s.data.toList c.toNat.toUInt8))) :=
 qrx (l := [.s s, .i .u8 c]) (r := .i .i64 (Lib.indexByte s.data.toList c.toNat.toUInt8)) rfl rfl fun w =>
  Calls.mono (Any.stringslite_IndexByte q4j s c w) fun _ _ ⟨h1, h2⟩ => ⟨h1, by subst h2; exact Below.refl _ _⟩
def tabS : FuncId → List O → Option O := fun f os => bif Nat.beq f 127 then (match os with
    | [.d (.s x)] => bif Nat.ble x.data.toList.length 140737488355328 && x.data.toList.all (fun b => Nat.blt b.toNat 128) then some (.d (.s ⟨(Lib.toUpperA x.data.toList).toArray⟩)) else none
    | _ => none) else bif Nat.beq f 188 then (match os with
    | [.d (.s x), .d (.i .u8 c)] => some (.d (.i .i64 (Lib.indexByte x.data.toList c.toNat.toUInt8)))
    | _ => none) else none
theorem q009 (f : FuncId) (os : List O) (r : O) (h : tabS f os = some r) : Sem Tryz.prog f os r ∧ qdp Tryz.prog f := by
 unfold tabS at h
 cases h1 : Nat.beq f 127 with
 | true =>
   rw [h1] at h
   simp only [cond_true] at h
   have := Nat.eq_of_beq_eq_true h1
   subst this
   split at h
   ·rename_i x
    cases hb : (Nat.ble x.data.toList.length 140737488355328 && x.data.toList.all (fun b => Nat.blt b.toNat 128)) with
    | false => rw [hb] at h; cases h
    | true =>
      rw [hb] at h
      cases h
      rw [Bool.and_eq_true, List.all_eq_true] at hb
      exact ⟨q2q (Nat.le_of_ble_eq_true hb.1) fun b hb' => Nat.le_of_ble_eq_true (hb.2 b hb'), ⟨_, Tryz.func127, rfl, by kernel_rfl⟩⟩
   ·cases h
 | false =>
   rw [h1] at h
   simp only [cond_false] at h
   cases h2 : Nat.beq f 188 with
   | true =>
     rw [h2] at h
     simp only [cond_true] at h
     have := Nat.eq_of_beq_eq_true h2
     subst this
     split at h
     ·cases h
      exact ⟨q2r, ⟨_, Tryz.func188, rfl, by kernel_rfl⟩⟩
     ·cases h
   | false => rw [h2] at h; cases h
end Go.Ev
namespace Go.Ev
open Go.Proofs
def q4k : FuncId → Nat → List (Nat × TypeId × Nat) := fun f j => if f = 52 ∨ f = 53 ∨ f = 54 ∨ f = 55 ∨ f = 95 ∨ f = 97 ∨ f = 98 ∨ f = 128 then (if j = 0 then [(4242, 99, 0)] else []) else if f = 65 ∨ f = 106 then (if j = 0 then [(4242, 112, 0), (5, 71, 1), (6, 4, 1)] else []) else []
def q4l : FuncId → Nat → List (Nat × TypeId × Nat) := fun f j => if f = 53 ∨ f = 54 then (if j = 0 then [(4242, 99, 0)] else []) else if f = 52 ∨ f = 55 ∨ f = 95 ∨ f = 97 ∨ f = 98 ∨ f = 128 then (if j = 1 then [(4242, 99, 0)] else []) else if f = 65 then (if j = 1 then [(4242, 112, 0), (5, 71, 1), (6, 4, 1)] else []) else if f = 106 then (if j = 2 then [(4242, 112, 0), (5, 71, 1), (6, 4, 1)] else []) else []
def H37 : Hand := ⟨q4k, q4l, tabS⟩
theorem qwz : runT Tryz.prog H37 400 24 13 [] = some (True, .d (.b true)) := by kernel_rfl
theorem qw0 : Sem Tryz.prog 13 [] (.d (.b true)) := (qku (H := H37) (by kernel_rfl) q009 24 qwz).2.1
end Go.Ev
namespace Go.Ev
open Go.Proofs Go.RowKit
set_option maxHeartbeats 1000000
set_option maxRecDepth 100000
def FoldRow (s : ByteArray) (bk i : Nat) (w : World) : Prop := ∃ cs : Array Value, w.heap[bk]? = some (.cells cs 5 (cs.size, cs.size + 1)) ∧ s.size ≤ cs.size ∧
 ∀ j, j < s.size → cs[j]? = some (.int .u8 (if j < i then ((Go.Lib.upperB (s.data.toList.getD j 0)).toNat : Int) else chr s j))
theorem FoldRow.cell {s : ByteArray} {bk i : Nat} {w : World} (h : FoldRow s bk i w) (hi : i < s.size) : w.cell? ⟨bk, i, none⟩ = some (.int .u8 (chr s i)) ∧ w.frozen? ⟨bk, i, none⟩ = false := by
 obtain ⟨cs, h1, h2, h3⟩ := h
 have := h3 i hi
 rw [if_neg (by omega)] at this
 refine ⟨by unfold World.cell?; simp only [h1]; exact this, ?_⟩
 unfold World.frozen?
 simp only [h1]
 simp
 omega
theorem FoldRow.set {s : ByteArray} {bk i : Nat} {w : World} (h : FoldRow s bk i w) (hi : i < s.size) {v : Int} (hv : v = ((Go.Lib.upperB (s.data.toList.getD i 0)).toNat : Int)) : FoldRow s bk (i + 1) (w.setCell ⟨bk, i, none⟩ (.int .u8 v)) := by
 obtain ⟨cs, h1, h2, h3⟩ := h
 refine ⟨cs.setIfInBounds i (.int .u8 v), ?_, by simpa using h2, fun j hj => ?_⟩
 ·unfold World.setCell
  simp only [Array.getElem?_modify, h1]
  simp
 ·rw [Array.getElem?_setIfInBounds]
  by_cases e : i = j
  ·subst e
   rw [if_pos rfl, if_pos (by omega), if_pos (by omega), hv]
  ·rw [if_neg e, h3 j hj]
   by_cases k : j < i
   ·rw [if_pos k, if_pos (by omega)]
   ·rw [if_neg k, if_neg (by omega)]
theorem FoldRow.skip {s : ByteArray} {bk i : Nat} {w : World} (h : FoldRow s bk i w) (hv : chr s i = ((Go.Lib.upperB (s.data.toList.getD i 0)).toNat : Int)) : FoldRow s bk (i + 1) w := by
 obtain ⟨cs, h1, h2, h3⟩ := h
 refine ⟨cs, h1, h2, fun j hj => ?_⟩
 rw [h3 j hj]
 by_cases e : j = i
 ·subst e
  rw [if_neg (by omega), if_pos (by omega), hv]
 ·by_cases k : j < i
  ·rw [if_pos k, if_pos (by omega)]
  ·rw [if_neg k, if_neg (by omega)]
end Go.Ev
namespace Go.Ev
noncomputable section
open Go.Proofs Ty
set_option maxRecDepth 10000
set_option maxHeartbeats 4000000
theorem q0c {P Q : Prop} (h : P) (e : P = Q := by simp only [Bool.or_eq_true, Bool.and_eq_true, Bool.or_eq_false_iff, Bool.and_eq_false_iff, Bool.not_eq_true', Bool.not_eq_false', Bool.not_eq_true, Bool.not_eq_false, decide_eq_true_eq, decide_eq_false_iff_not, beq_iff_eq, bne_iff_ne, beq_eq_false_iff_ne, bne_eq_false_iff_eq, ne_eq, Int.not_lt, Int.not_le, D.b.injEq, D.i.injEq, D.s.injEq, D.agg.injEq, D.sl.injEq, true_and, and_true, List.cons.injEq, gt_iff_lt, ge_iff_le,  Bool.cond_true_left, Bool.cond_false_right, Bool.cond_true_right, Bool.cond_false_left, qoa, qob, qzq, qzr, qzo, qzp]; exact rfl) : Q := e.mp h
theorem qbd {P Q : Prop} (q : Q) (e : P = Q := by simp only [Bool.or_eq_true, Bool.and_eq_true, Bool.or_eq_false_iff, Bool.and_eq_false_iff, Bool.not_eq_true', Bool.not_eq_false', Bool.not_eq_true, Bool.not_eq_false, decide_eq_true_eq, decide_eq_false_iff_not, beq_iff_eq, bne_iff_ne, beq_eq_false_iff_ne, bne_eq_false_iff_eq, ne_eq, Int.not_lt, Int.not_le, D.b.injEq, D.i.injEq, D.s.injEq, D.agg.injEq, D.sl.injEq, true_and, and_true, List.cons.injEq, gt_iff_lt, ge_iff_le,  Bool.cond_true_left, Bool.cond_false_right, Bool.cond_true_right, Bool.cond_false_left, qoa, qob, qzq, qzr, qzo, qzp]; exact rfl) : P := e.mpr q
theorem siQ {P Q : Prop} (q : Q) (e : P = Q := by simp (maxSteps := 1000000) only [go_sem, ↓reduceIte, reduceCtorEq, Nat.reduceEqDiff, Nat.reduceLT, Nat.reduceLeDiff, Nat.reduceMul, Nat.reduceAdd, Nat.reduceSub, reduceDIte, Nat.reduceBEq, Nat.reduceBNe]; exact rfl) : P := e.mpr q
theorem subQ {P Q : Prop} (q : Q) (e : P = Q := by simp (maxSteps := 1000000) only [forall_eq, V.ptr.injEq, V.row.injEq, V.rp.injEq, V.mref.injEq, exists_eq_left', and_assoc, rhoV, qi3, quq, rhoO, qur, qms, rho1, HS.obj?, forall_eq', qkm, qkn, qmo, nfL, vs, vss, vds, vd1, os, aget, go_sem, ↓reduceIte, reduceCtorEq, Nat.reduceEqDiff, Nat.reduceLT, Nat.reduceLeDiff, Nat.reduceMul, Nat.reduceAdd, Nat.reduceSub, reduceDIte, Nat.reduceBEq, Nat.reduceBNe]; exact rfl) : P := e.mpr q
theorem inQ {P Q : Prop} (q : Q) (e : P = Q := by simp only [qfe, qcf, inO, inO2, inO1, inOs, List.append_nil, List.nil_append, Nat.mul_zero, List.cons_append, Nat.zero_add, Nat.reduceAdd, Nat.reduceMul, List.length_map, q0t, q0d, q08, qo8, qtd, q00u]; exact rfl) : P := e.mpr q
theorem follows : Tryz.prog.follows .mixedOrders = true := by kernel_rfl
def mvs : FuncId → Nat → List (Nat × TypeId × Nat) := fun f => if f = 52 then (fun j => if j = 0 then [(4242, 99, 0)] else []) else if f = 53 then (fun j => if j = 0 then [(4242, 99, 0)] else []) else if f = 54 then (fun j => if j = 0 then [(4242, 99, 0)] else []) else if f = 55 then (fun j => if j = 0 then [(4242, 99, 0)] else []) else if f = 95 then (fun j => if j = 0 then [(4242, 99, 0)] else []) else if f = 97 then (fun j => if j = 0 then [(4242, 99, 0)] else []) else if f = 98 then (fun j => if j = 0 then [(4242, 99, 0)] else []) else if f = 128 then (fun j => if j = 0 then [(4242, 99, 0)] else []) else if f = 59 then (fun j => if j = 0 then [(4242, 105, 0)] else []) else if f = 56 then (fun j => if j = 0 then [(4242, 105, 0)] else []) else if f = 58 then (fun j => if j = 0 then [(4242, 105, 0)] else []) else if f = 102 then (fun j => if j = 0 then [(4242, 105, 0)] else []) else if f = 101 then (fun j => if j = 0 then [(4242, 105, 0)] else []) else if f = 60 then (fun j => if j = 0 then [(4242, 105, 0)] else []) else fun _ => []
def e91 : List O → Option (Prop × O)
 | [.d (.i .i64 n), .d (.i .i64 least), .d (.i .i64 most)] => some (True, .d (.b (decide (least ≤ n) && decide (n ≤ most))))
 | _ => none
def quy : FuncId → List O → Option (Prop × O) := addT (fun _ _ => none) 91 e91
def e82 : List O → Option (Prop × O)
 | [.d (.b b)] => some (True, .d (.i .i64 (if b = true then 1 else 0)))
 | _ => none
def quz : FuncId → List O → Option (Prop × O) := addT quy 82 e82
def e43 : List O → Option (Prop × O)
 | [.d (.i .u8 c)] => some (True, .d (.b (decide (65 ≤ c) && decide (c ≤ 90))))
 | _ => none
def qu0 : FuncId → List O → Option (Prop × O) := addT quz 43 e43
def e92 : List O → Option (Prop × O)
 | [.d (.i .u8 c)] => some (True, .d (.b (decide (48 ≤ c) && decide (c ≤ 57))))
 | _ => none
def qu1 : FuncId → List O → Option (Prop × O) := addT qu0 92 e92
def e99 : List O → Option (Prop × O)
 | [.d (.i .u8 c)] => some (True, .d (.b (decide (97 ≤ c) && decide (c ≤ 122))))
 | _ => none
def qu2 : FuncId → List O → Option (Prop × O) := addT qu1 99 e99
def e48 : List O → Option (Prop × O)
 | [.d (.s s)] => some (True, .d (.b (q0r s)))
 | _ => none
def qu3 : FuncId → List O → Option (Prop × O) := addT qu2 48 e48
def e87 : List O → Option (Prop × O)
 | [.d (.s s)] => some (True, .d (.b (q0r s)))
 | _ => none
def qu4 : FuncId → List O → Option (Prop × O) := addT qu3 87 e87
def e100 : List O → Option (Prop × O)
 | [.d (.i .u8 c)] => some (True, .d (.b (inWq c)))
 | _ => none
def qw1 : FuncId → List O → Option (Prop × O) := addT qu4 100 e100
def e13 : List O → Option (Prop × O)
 | [] => some (True, .d (.b true))
 | _ => none
def qzu : FuncId → List O → Option (Prop × O) := addT qw1 13 e13
def mkC (n : Nat) (t : FuncId → List O → Option (Prop × O)) : Cfg := ⟨Tryz.prog, n, t, (fun _ _ => []), [], (fun _ => none)⟩
attribute [go_sem] qxz qv6 qx0 qv7 quh e1_n e1_g qq4 qv9 qv8 qsx qui q00n qwa qx1 aget qwb qwc quj q30 qwd qsy q00o qwe q00p qx2 q2a q00q qx3 qsz qx4 q00r qq5 qx5 qq6 qx6 qx7 qp2 qx8 qum qs0 qun q00s qya V.cells V.one D.one D.cells newObj nm HS.isFree HS.isLive quf que List.map_cons List.map_nil Option.bind_some Option.bind_none putL List.cons_append List.nil_append qq9 qwg qup qmq qra qe3 true_and and_true q0n qbq cval Option.map_some Option.map_none loadAt storeAt ldV ldD mkAgg V.asD q0q List.take_succ_cons List.take_zero List.drop_succ_cons List.drop_zero List.getElem?_cons_zero List.getElem?_cons_succ List.getElem?_nil List.all_cons List.all_nil Bool.and_true Bool.true_and Bool.and_self List.length_cons List.length_nil vals qbh qcc argO toD3 toD2 toD1 toDs O.ok O.ok2 O.ok1 O.flat O.flat1 D.flat D.flatA inO inO2 inO1 inOs List.filterMap_nil List.filterMap_cons List.filter_nil List.filter_cons List.nodup_nil decide_true decide_false Bool.not_true Bool.not_false not_true_eq_false not_false_eq_true or_false false_or and_false false_and ne_eq List.append_nil optB qem qbw beq_self_eq_true List.mapM_cons List.mapM_nil Option.pure_def Option.bind_eq_bind true_or or_true or_self q0k ite_self not_true not_false_iff ite_true ite_false if_true if_false Bool.false_eq_true Bool.true_eq_false List.any_nil List.any_cons List.contains_nil List.contains_cons eq_self qdb qdk qeg qew qfk qg8 qdj q03 qhj lenOf binD qjh unD qg9 qul quk qq7 qd8 qd9 qs3 qji qwf qq8 qx9 List.range_zero Nat.zero_le Nat.zero_mul Nat.zero_add Nat.add_zero List.length_append List.take_length List.isEmpty_nil List.isEmpty_cons V.neg List.flatMap_nil and_self List.range_succ forall_const implies_true Nat.not_lt_zero qrb qwh qyb qmp qgc qye qwj qcm qb2 mvAt qyc qwi qyd ole oles dle dles List.nodup_cons List.mem_cons List.not_mem_nil List.drop_length Nat.le_refl Nat.lt_irrefl id_eq Option.some.injEq Bool.or_false Bool.false_or Bool.or_self Bool.or_true Bool.true_or false_implies Bool.and_false Bool.false_and List.reverse_cons List.reverse_nil sh1 qp3 mget qcv qbx qf7 qkd qke Option.isSome_some Option.isSome_none Bool.cond_true_left Bool.cond_false_right Bool.cond_true_right Bool.cond_false_left beq_true beq_false Bool.not_not imp_self qdt notB qjj qda qd0 qi2 D.splice kEq Option.toList_some Option.toList_none adel List.getD_cons_zero List.getD_cons_succ qe2 bxId qei hget one1 qb7 qc6
attribute [go_sem] sz3 ag3 zr3 zo3 zd3 by3 sl3 st3 bo3 pt3 ck3 sz5 ag5 zr5 zo5 zd5 by5 sl5 st5 bo5 pt5 ck5 sz4 ag4 zr4 zo4 zd4 by4 sl4 st4 bo4 pt4 sz9 ag9 zr9 zo9 zd9 by9 sl9 un9 st9 bo9 pt9 ck9 sz86 ag86 zr86 zo86 zd86 by86 el86 sl86 un86 st86 bo86 pt86 ck86 sz25 ag25 zr25 zo25 zd25 by25 sl25 st25 bo25 pt25 ck25 q31 q32 q33 q34 q35 q36 q37 q38 q39 q4a q4b q4c sz76 ag76 zr76 zd76 by76 sl76 st76 bo76 pt76 q2j q2k q2l q2m pl76 ek76 sz68 ag68 zr68 zo68 zd68 by68 el68 sl68 un68 st68 bo68 pt68 sz70 ag70 zr70 zd70 by70 sl70 st70 bo70 pt70 q2f q2g q2h q2i pl70 sz31 ag31 zr31 zo31 zd31 by31 el31 sl31 un31 st31 bo31 pt31 sz33 ag33 zr33 zd33 by33 sl33 st33 bo33 pt33 q2b q2c q2d q2e pl33 sz71 ag71 zr71 zo71 zd71 by71 el71 sl71 un71 st71 bo71 pt71
end
end Go.Ev
namespace Go.Ev
def q4m (c : CStr) : Prop := c.parts.length ≤ 1000000 ∧ ∀ j, (c.parts.getD j q0b).values.length ≤ 1000000
theorem qdr {l : List CPart} {i : Nat} (h : i < l.length) (z : D) : (l.map q0d).getD i z = q0d (l.getD i q0b) := by
 simp only [List.getD, List.getElem?_map, List.getElem?_eq_getElem h]
 rfl
theorem q50 (s : ByteArray) : qih s = qig s := (qym s).symm
end Go.Ev
namespace Go.Ev
def fstE : List Int → Int
 | [] => 0
 | e :: r => if ¬ e = 0 then e else fstE r
theorem qjb {α : Type} {l : List α} {i : Nat} (z : α) (h : i < l.length) : l.drop i = l.getD i z :: l.drop (i + 1) := by
 rw [List.drop_eq_getElem_cons h]
 simp only [List.getD, List.getElem?_eq_getElem h, Option.getD_some]
theorem qyu {l : List Int} {i : Nat} (h : fstE (l.drop i) = fstE l) (hi : i < l.length) (h1 : ¬l.getD i 0 = 0) : fstE l = l.getD i 0 := by
 rw [← h, qjb 0 hi, fstE, if_pos h1]
theorem q1a {l : List Int} {i : Nat} (h : fstE (l.drop i) = fstE l) (hi : i < l.length) (h1 : l.getD i 0 = 0) : fstE (l.drop (i + 1)) = fstE l := by
 rw [qjb 0 hi, fstE, if_neg (fun e => e h1)] at h; exact h
theorem qyv {l : List Int} {i : Nat} (h : fstE (l.drop i) = fstE l) (hi : l.length ≤ i) : fstE l = 0 := by
 rw [← h, List.drop_of_length_le hi]; rfl
def atE (f : Nat → Int) (n : Nat) : Option Nat := (List.range n).find? fun i => !decide (f i = 0)
def errN (f : Nat → Int) (n : Nat) : Int := match atE f n with | some i => f i | none => 0
theorem q2s {f : Nat → Int} {n i : Nat} (hi : i < n) (h : ¬ f i = 0) (hb : ∀ j, j < i → f j = 0) : atE f n = some i := by
 unfold atE
 rw [List.find?_eq_some_iff_append]
 refine ⟨by simp [h], List.range i, (List.range (n - i - 1)).map (· + (i + 1)), ?_, fun a ha => by simp [hb a (by simpa using ha)]⟩
 apply List.ext_getElem
 ·simp; omega
 ·intro k h1 h2
  simp only [List.getElem_range]
  by_cases e : k < i
  ·rw [List.getElem_append_left (by simpa using e)]; simp
  ·rw [List.getElem_append_right (by simpa using e)]
   by_cases e2 : k = i
   ·subst e2; simp
   ·have : k - (List.range i).length = (k - i - 1) + 1 := by simp; omega
    simp only [this, List.getElem_cons_succ, List.getElem_map, List.getElem_range]; omega
theorem q2t {f : Nat → Int} {n : Nat} (hb : ∀ j, j < n → f j = 0) : atE f n = none := by
 unfold atE
 rw [List.find?_eq_none]
 intro x hx
 simp [hb x (by simpa using hx)]
theorem qg6 {f : Nat → Int} {n i : Nat} (hi : i < n) (h : ¬ f i = 0) (hb : ∀ j, j < i → f j = 0) : errN f n = f i := by unfold errN; rw [q2s hi h hb]
theorem qg7 {f : Nat → Int} {n : Nat} (hb : ∀ j, j < n → f j = 0) : errN f n = 0 := by unfold errN; rw [q2t hb]
theorem qf4 {f : Nat → Int} {i : Nat} (hb : ∀ j, j < i → f j = 0) (h : f i = 0) : ∀ j, j < i + 1 → f j = 0 := fun j hj => by
 by_cases e : j = i
 ·subst e; exact h
 ·exact hb j (by omega)
def hasP (p : Int → Bool) (l : List Int) : Bool := decide (0 ≤ idxP p l)
def hasC (p : Int → Bool) (s : ByteArray) : Bool := hasP p (qd4 s)
theorem qtr {p : Int → Bool} {s : ByteArray} {i : Nat} (hi : i < s.size) (h : p (chr s i) = true) : hasC p s = true := by
 unfold hasC hasP idxP
 cases e : (qd4 s).findIdx? p with
 | some k => simp
 | none =>
   rw [List.findIdx?_eq_none_iff] at e
   have := e ((qd4 s).getD i 0) (qyh 0 (by rw [qgx]; exact hi))
   rw [qmw, h] at this; cases this
theorem qts {p : Int → Bool} {s : ByteArray} (hb : ∀ j, j < s.size → p (chr s j) = false) : hasC p s = false := by
 unfold hasC hasP
 rw [qoc fun j hj => by rw [qgx] at hj; rw [qmw]; exact hb j hj]; rfl
def qdi (c : Int) : Bool := decide (c ≤ 32) || decide (126 < c) || decide (c = 40) || decide (c = 41) || decide (c = 39) || (decide (97 ≤ c) && decide (c ≤ 122))
def qe0 (s : ByteArray) : Bool := !hasC badC s
def qe1 (s : ByteArray) : Bool := !hasC qdi s
def qdm (s : ByteArray) : Bool := !decide (s = ⟨#[]⟩) && decide (s.size ≤ 64) && qe1 s
def vErr (v : CVal) : Int := fstE [if v.kind < 0 ∨ 1 < v.kind then 4 else 0, if v.kind = 0 ∧ v.text = ⟨#[]⟩ then 1 else 0, if 64 < (v.text.size : Int) then 2 else 0, if v.kind = 0 ∧ qe1 v.text = false ∨ qe0 v.text = false then 5 else 0]
def qe5 (p : CPart) : Int := fstE [if ¬p.keyword = ⟨#[]⟩ ∧ q0r p.keyword = false then 7 else 0, if (p.values.length : Int) = 0 then 1 else 0, if 10 < (p.values.length : Int) then 2 else 0]
def pErr (p : CPart) : Int := if ¬ qe5 p = 0 then qe5 p else errN (fun k => vErr (p.values.getD k qbk)) p.values.length
def qfq (c : CStr) : Int := fstE [if q0r c.name = false then 7 else 0, if 12 < (c.parts.length : Int) then 2 else 0]
def cErr (c : CStr) : Int := if ¬ qfq c = 0 then qfq c else errN (fun k => pErr (c.parts.getD k q0b)) c.parts.length
theorem qgl {e : Int} {r : List Int} (h : fstE (e :: r) = 0) : e = 0 ∧ fstE r = 0 := by
 unfold fstE at h
 split at h
 ·exact absurd h ‹_›
 ·exact ⟨Classical.not_not.1 ‹_›, h⟩
theorem qjc {p : Prop} [Decidable p] {x : Int} (h : (if p then x else 0) = 0) (hx : ¬ x = 0) : ¬ p := fun k => hx (by rw [if_pos k] at h; exact h)
theorem qgy {p : Prop} [Decidable p] {x : Int} {r : List Int} (k : p) (hx : ¬ x = 0) : fstE ((if p then x else 0) :: r) = x := by rw [if_pos k]; exact if_pos hx
theorem qcu {p : Prop} [Decidable p] {x : Int} {r : List Int} (k : ¬ p) : fstE ((if p then x else 0) :: r) = fstE r := by rw [if_neg k]; exact if_neg (fun k => k rfl)
theorem q1b (v : CVal) : fstE [if v.kind < 0 ∨ 1 < v.kind then 4 else 0, if v.kind = 0 ∧ v.text = ⟨#[]⟩ then 1 else 0, if 64 < (v.text.size : Int) then 2 else 0, if v.kind = 0 ∧ qe1 v.text = false ∨ qe0 v.text = false then 5 else 0] = vErr v := rfl
theorem qyw (p : CPart) : fstE [if ¬p.keyword = ⟨#[]⟩ ∧ q0r p.keyword = false then 7 else 0, if (p.values.length : Int) = 0 then 1 else 0, if 10 < (p.values.length : Int) then 2 else 0] = qe5 p := rfl
theorem qyx (c : CStr) : fstE [if q0r c.name = false then 7 else 0, if 12 < (c.parts.length : Int) then 2 else 0] = qfq c := rfl
theorem qka {p : CPart} (h : ¬ qe5 p = 0) : pErr p = qe5 p := if_pos h
theorem qnn {p : CPart} (h : qe5 p = 0) : pErr p = errN (fun k => vErr (p.values.getD k qbk)) p.values.length := if_neg (fun k => k h)
theorem qno {c : CStr} (h : ¬ qfq c = 0) : cErr c = qfq c := if_pos h
theorem qnp {c : CStr} (h : qfq c = 0) : cErr c = errN (fun k => pErr (c.parts.getD k q0b)) c.parts.length := if_neg (fun k => k h)
theorem qzv (l : List Int) : decL 1 (decI .u8) (.sl 1 (l.map (D.i .u8))) = some l := qf0 (qrc .u8) l
theorem qw2 (l : List Int) (k : Nat) : (l.map (D.i .i64)).getD k (.i .i64 0) = .i .i64 (l.getD k 0) := by
 simp only [List.getD, List.getElem?_map]
 cases l[k]? <;> rfl
def chS (n : UInt8) : ByteArray := ⟨#[n]⟩
def dblL : List UInt8 → List UInt8
 | [] => []
 | b :: l => if b = 39 then 39 :: 39 :: dblL l else b :: dblL l
def writ (v : CVal) : ByteArray := if v.kind = 0 then v.text else ⟨(39 :: (dblL v.text.data.toList ++ [39])).toArray⟩
def spJ (l : List ByteArray) : ByteArray := ⟨(Go.Lib.join (l.map (·.data.toList)) [32]).toArray⟩
def qfr (p : CPart) : ByteArray := if p.keyword = ⟨#[]⟩ ∧ p.values.length = 1 then spJ (p.values.map writ) else p.keyword ++ chS 40 ++ spJ (p.values.map writ) ++ chS 41
def comL (s : ByteArray) (l : List CPart) : ByteArray := l.foldl (fun s p => s ++ (chS 32 ++ qfr p)) s
def comT (c : CStr) : ByteArray := comL c.name c.parts
def qgz (v : CVal) : Prop := v.text.size ≤ 1000000
def qry (p : CPart) : Prop := p.values.length ≤ 1000000 ∧ ∀ k, qgz (p.values.getD k qbk)
def okC (c : CStr) : Prop := c.parts.length ≤ 1000000 ∧ ∀ i, qry (c.parts.getD i q0b)
def bigV (p : CPart) (k : Nat) : Int := if 100 < (p.values.getD k qbk).text.size then 1 else 0
def bigP (c : CStr) (i : Nat) : Int := if 11 < (c.parts.getD i q0b).values.length then 1 else errN (bigV (c.parts.getD i q0b)) (c.parts.getD i q0b).values.length
def fewS (c : CStr) : Bool := decide (c.parts.length ≤ 13) && decide (errN (bigP c) c.parts.length = 0)
theorem qhv {f : Nat → Int} {n : Nat} (h : errN f n = 0) : ∀ i, i < n → f i = 0 := by
 unfold errN at h
 cases e : atE f n with
 | none =>
   intro i hi
   unfold atE at e
   rw [List.find?_eq_none] at e
   simpa using e i (by simpa using hi)
 | some i =>
   rw [e] at h
   unfold atE at e
   have := List.find?_some e
   simp [h] at this
theorem qrz {α : Type} {l : List α} {i : Nat} (z : α) (h : l.length ≤ i) : l.getD i z = z := by
 simp only [List.getD]; rw [List.getElem?_eq_none h]; rfl
theorem q2u {c : CStr} (h : fewS c = true) : okC c := by
 unfold fewS at h
 rw [Bool.and_eq_true, decide_eq_true_eq, decide_eq_true_eq] at h
 refine ⟨by omega, fun i => ?_⟩
 by_cases hi : i < c.parts.length
 ·have h1 := qhv h.2 i hi
  unfold bigP at h1
  split at h1
  ·cases h1
  ·refine ⟨by omega, fun k => ?_⟩
   by_cases hk : k < (c.parts.getD i q0b).values.length
   ·have h2 := qhv h1 k hk
    unfold bigV at h2
    split at h2
    ·cases h2
    ·unfold qgz; omega
   ·rw [qrz _ (by omega)]; simp [qgz, qbk]; decide
 ·rw [qrz _ (by omega)]
  exact ⟨by simp [q0b], fun k => by simp [q0b, qgz, qbk]; decide⟩
end Go.Ev
namespace Go.Ev
theorem qgm {a b : ByteArray} (h : a.data.toList = b.data.toList) : a = b := by
 apply ByteArray.ext; exact Array.ext' h
theorem qfs (a b : ByteArray) : (a ++ b).data.toList = a.data.toList ++ b.data.toList := by rw [ByteArray.data_append, Array.toList_append]
theorem q1c (a : ByteArray) : a.size = a.data.toList.length := rfl
theorem qu5 (l : List UInt8) : (⟨l.toArray⟩ : ByteArray).data.toList = l := rfl
theorem qw3 (l : List UInt8) : (⟨l.toArray⟩ : ByteArray).size = l.length := rfl
theorem q4n (a : ByteArray) : (⟨#[]⟩ : ByteArray) ++ a = a := qgm (by rw [qfs]; rfl)
theorem qkv (a b : ByteArray) : (a ++ b).size = a.size + b.size := by simp only [q1c, qfs, List.length_append]
theorem qis (n : UInt8) : (⟨#[n]⟩ : ByteArray).size = 1 := rfl
theorem qog (l : List UInt8) : (dblL l).length ≤ 2 * l.length := by
 induction l with
 | nil => exact Nat.le_refl _
 | cons b l ih =>
   unfold dblL
   split
   ·simp only [List.length_cons]; omega
   ·simp only [List.length_cons]; omega
theorem qr0 (a b : List UInt8) : dblL (a ++ b) = dblL a ++ dblL b := by
 induction a with
 | nil => rfl
 | cons x a ih =>
   simp only [List.cons_append, dblL, ih]
   split <;> simp
theorem qkb {v : CVal} (h : vErr v = 0) : (v.kind = 0 ∨ v.kind = 1) ∧ v.text.size ≤ 64 := by
 obtain ⟨h1, h⟩ := qgl h
 obtain ⟨h2, h⟩ := qgl h
 obtain ⟨h3, h⟩ := qgl h
 have h1 := qjc h1 (by decide)
 have h3 := qjc h3 (by decide)
 omega
theorem q2v {v : CVal} (h : ¬ v.kind = 0) : writ v = ⟨#[39]⟩ ++ ⟨(dblL v.text.data.toList).toArray⟩ ++ ⟨#[39]⟩ := by
 unfold writ
 rw [if_neg h]
 apply qgm
 simp only [qfs]
 rfl
theorem qpp {v : CVal} (h : vErr v = 0) : (writ v).size ≤ 130 := by
 have h1 := (qkb h).2
 have h2 := qog v.text.data.toList
 have h3 : v.text.data.toList.length = v.text.size := rfl
 unfold writ
 split
 ·omega
 ·rw [qw3]; simp only [List.length_cons, List.length_append, List.length_nil]; omega
theorem q1d : spJ [] = ⟨#[]⟩ := rfl
theorem q1e (x : ByteArray) : spJ [x] = x := by
 unfold spJ; rw [List.map_cons, List.map_nil, Go.Lib.join_one]
theorem qyy {l : List ByteArray} (x : ByteArray) (h : l ≠ []) : spJ (l ++ [x]) = spJ l ++ ⟨#[32]⟩ ++ x := by
 cases l with
 | nil => exact absurd rfl h
 | cons a l =>
   apply qgm
   simp only [qfs]
   unfold spJ
   simp only [qu5, List.cons_append, List.map_cons, List.map_append, List.map_nil, Go.Lib.join_cons, Go.Lib.joinTail, List.flatten_append, List.flatten_cons, List.flatten_nil, List.append_nil, List.append_assoc]
theorem qyz {B : Nat} : ∀ (l : List ByteArray), (∀ x ∈ l, x.size ≤ B) → (spJ l).size ≤ l.length * (B + 1) := by
 have key : ∀ (l : List ByteArray), (∀ x ∈ l, x.size ≤ B) → (Go.Lib.joinTail [32] (l.map (·.data.toList))).length ≤ l.length * (B + 1) := by
  intro l
  induction l with
  | nil => intro _; exact Nat.zero_le _
  | cons a l ih =>
    intro h
    have h1 := ih fun x hx => h x (by simp [hx])
    have h2 := h a (by simp)
    simp only [Go.Lib.joinTail, List.map_cons, List.flatten_cons, List.length_append, List.length_cons, List.length_nil] at h1 ⊢
    have h3 : a.data.toList.length = a.size := rfl
    rw [Nat.succ_mul]
    omega
 intro l h
 cases l with
 | nil => exact Nat.zero_le _
 | cons a l =>
   unfold spJ
   rw [qw3, List.map_cons, Go.Lib.join_cons, List.length_append]
   have h1 := key l fun x hx => h x (by simp [hx])
   have h2 := h a (by simp)
   have h3 : a.data.toList.length = a.size := rfl
   rw [List.length_cons, Nat.succ_mul]
   omega
theorem qle {s : ByteArray} (h : q0r s = true) : 1 ≤ s.size ∧ s.size ≤ 10 := by
 unfold q0r at h
 simp only [Bool.and_eq_true, decide_eq_true_eq] at h
 exact h.1
theorem qnq {p : CPart} (h : pErr p = 0) : p.keyword.size ≤ 10 ∧ 1 ≤ p.values.length ∧ p.values.length ≤ 10 ∧ ∀ k, k < p.values.length → vErr (p.values.getD k qbk) = 0 := by
 have hh : qe5 p = 0 := by
  by_cases e : qe5 p = 0
  ·exact e
  ·rw [qka e] at h; exact absurd h e
 rw [qnn hh] at h
 obtain ⟨h1, hh⟩ := qgl hh
 obtain ⟨h2, hh⟩ := qgl hh
 obtain ⟨h3, hh⟩ := qgl hh
 have h1 := qjc h1 (by decide)
 have h2 := qjc h2 (by decide)
 have h3 := qjc h3 (by decide)
 refine ⟨?_, by omega, by omega, qhv h⟩
 by_cases e : p.keyword = ⟨#[]⟩
 ·rw [e]; decide
 ·cases n : q0r p.keyword with
  | true => exact (qle n).2
  | false => exact absurd ⟨e, n⟩ h1
theorem qr1 {c : CStr} (h : cErr c = 0) : c.name.size ≤ 10 ∧ c.parts.length ≤ 12 ∧ ∀ i, i < c.parts.length → pErr (c.parts.getD i q0b) = 0 := by
 have hh : qfq c = 0 := by
  by_cases e : qfq c = 0
  ·exact e
  ·rw [qno e] at h; exact absurd h e
 rw [qnp hh] at h
 obtain ⟨h1, hh⟩ := qgl hh
 obtain ⟨h2, hh⟩ := qgl hh
 have h1 := qjc h1 (by decide)
 have h2 := qjc h2 (by decide)
 exact ⟨(qle (by simpa using h1)).2, by omega, qhv h⟩
theorem qr2 {α : Type} {l : List α} {x : α} (z : α) (h : x ∈ l) : ∃ k, k < l.length ∧ l.getD k z = x := by
 obtain ⟨k, hk, e⟩ := List.getElem_of_mem h
 exact ⟨k, hk, by simp only [List.getD]; rw [List.getElem?_eq_getElem hk]; exact e⟩
theorem qjd {p : CPart} (h : pErr p = 0) {n : Nat} : (spJ ((p.values.take n).map writ)).size ≤ 1310 := by
 obtain ⟨_, _, h3, h4⟩ := qnq h
 have := qyz (B := 130) ((p.values.take n).map writ) fun x hx => by
  obtain ⟨v, hv, rfl⟩ := List.mem_map.1 hx
  obtain ⟨k, hk, e⟩ := qr2 qbk (List.mem_of_mem_take hv)
  exact qpp (by rw [← e]; exact h4 k hk)
 rw [List.length_map, List.length_take] at this
 have h5 : min n p.values.length * (130 + 1) ≤ 10 * 131 := Nat.mul_le_mul_right _ (by omega)
 omega
theorem qnr {p : CPart} (h : pErr p = 0) : (qfr p).size ≤ 1322 := by
 have h1 := qjd h (n := p.values.length)
 rw [List.take_length] at h1
 have h2 := (qnq h).1
 unfold qfr
 split
 ·omega
 ·simp only [qkv, chS, qis]; omega
theorem qw4 (s : ByteArray) (l : List CPart) (p : CPart) : comL s (l ++ [p]) = comL s l ++ (⟨#[32]⟩ ++ qfr p) := by unfold comL; rw [List.foldl_append]; rfl
theorem qpq : ∀ (l : List CPart) (s : ByteArray), (∀ p ∈ l, pErr p = 0) → (comL s l).size ≤ s.size + l.length * 1323
 | [], s, _ => Nat.le_refl _
 | p :: l, s, h => by
   have h1 := qpq l (s ++ (chS 32 ++ qfr p)) fun q hq => h q (by simp [hq])
   have h2 := qnr (h p (by simp))
   simp only [qkv, chS, qis] at h1
   rw [List.length_cons, Nat.succ_mul]
   show (comL (s ++ (chS 32 ++ qfr p)) l).size ≤ _
   simp only [chS]
   omega
theorem qep {α : Type} {l : List α} {i : Nat} (z : α) (h : i < l.length) : l.take (i + 1) = l.take i ++ [l.getD i z] := by
 rw [List.take_add_one]
 simp only [List.getD]; rw [List.getElem?_eq_getElem h]; rfl
theorem qpr {c : CStr} (h : cErr c = 0) {i : Nat} : (comL c.name (c.parts.take i)).size ≤ 20000 := by
 obtain ⟨h1, h2, h3⟩ := qr1 h
 have := qpq (c.parts.take i) c.name fun p hp => by
  obtain ⟨k, hk, e⟩ := qr2 q0b (List.mem_of_mem_take hp)
  rw [← e]; exact h3 k hk
 rw [List.length_take] at this
 have h5 : min i c.parts.length * 1323 ≤ 12 * 1323 := Nat.mul_le_mul_right _ (by omega)
 omega
theorem q1f (l : List ByteArray) : decL 1 decS (.sl 1 (l.map D.s)) = some l := qf0 qyg l
theorem q1g {α β : Type} (f : β → D) (g : α → β) (L : List α) : List.take L.length (List.map f (List.map g L)) = List.map f (List.map g L) := qre _ _ (by rw [List.length_map, List.length_map])
theorem qtt {α : Type} (f : α → D) (L : List α) : List.take L.length (List.map f L) = List.map f L := qre _ _ (by rw [List.length_map])
theorem sz32 : (#[32] : Array UInt8).size = 1 := rfl
theorem sz40 : (#[40] : Array UInt8).size = 1 := rfl
theorem sz41 : (#[41] : Array UInt8).size = 1 := rfl
theorem qtu {p : CPart} (h : p.keyword = ⟨#[]⟩ ∧ (p.values.length : Int) = 1) : qfr p = spJ (p.values.map writ) := if_pos ⟨h.1, by omega⟩
theorem qtv {p : CPart} (h : ¬p.keyword = ⟨#[]⟩ ∨ ¬(p.values.length : Int) = 1) : qfr p = p.keyword ++ ⟨#[40]⟩ ++ spJ (p.values.map writ) ++ ⟨#[41]⟩ := if_neg (by rintro ⟨h1, h2⟩; rcases h with h | h; exact h h1; omega)
theorem q1h {v : CVal} (h : vErr v = 0) : (dblL v.text.data.toList).length ≤ 128 := by
 have h1 := (qkb h).2
 have h2 := qog v.text.data.toList
 have h3 : v.text.data.toList.length = v.text.size := rfl
 omega
theorem qps {p : CPart} {i : Nat} (h : i < p.values.length) : ((p.values.take (i + 1)).map writ).map D.s = ((p.values.take i).map writ).map D.s ++ [D.s (writ (p.values.getD i qbk))] := by
 rw [qep qbk h, List.map_append, List.map_append]; rfl
theorem q2w {v : CVal} (h : vErr v = 0) (k : ¬ v.kind = 1) : writ v = v.text := if_pos (by have := (qkb h).1; omega)
theorem q1i {v : CVal} (k : v.kind = 1) : writ v = ⟨#[39]⟩ ++ ⟨(dblL v.text.data.toList).toArray⟩ ++ ⟨#[39]⟩ := q2v (by omega)
theorem qy0 {s : ByteArray} {i : Nat} (hi : i < s.size) (h : qdi (chr s i) = true) : qdm s = false := by
 unfold qdm qe1; rw [qtr hi h]; simp
theorem qw5 {s : ByteArray} (hb : ∀ j, j < s.size → qdi (chr s j) = false) : qdm s = (decide (1 ≤ (s.size : Int)) && decide ((s.size : Int) ≤ 64)) := by
 unfold qdm qe1
 rw [qts hb, Bool.eq_iff_iff]
 have := qlp s
 simp only [Bool.and_eq_true, Bool.not_eq_true', decide_eq_true_eq, decide_eq_false_iff_not, Bool.not_false, and_true]
 rw [this]
 omega
theorem qy1 {s : ByteArray} (h : 64 < s.size) : qdm s = false := by unfold qdm; rw [decide_eq_false (by omega : ¬ s.size ≤ 64)]; simp
theorem qr3 {c : Int} : qdi c = true ↔ (inWq c = false ∨ (97 ≤ c ∧ c ≤ 122)) := by unfold qdi inWq; simp; omega
theorem qtw {s : ByteArray} (h1 : ¬ s = ⟨#[]⟩) (h2 : (s.size : Int) ≤ 64) : qdm s = qe1 s := by
 unfold qdm; rw [decide_eq_false h1, decide_eq_true (by omega : s.size ≤ 64)]; simp
section
variable {v : CVal}
theorem q2x (h : v.kind < 0 ∨ 1 < v.kind) : vErr v = 4 := qgy h (by decide)
theorem q2y (h1 : ¬ (v.kind < 0 ∨ 1 < v.kind)) (h : v.kind = 0 ∧ v.text = ⟨#[]⟩) : vErr v = 1 := (qcu h1).trans (qgy h (by decide))
theorem q2z (h1 : ¬ (v.kind < 0 ∨ 1 < v.kind)) (h2 : ¬ (v.kind = 0 ∧ v.text = ⟨#[]⟩)) (h : 64 < (v.text.size : Int)) : vErr v = 2 := (qcu h1).trans ((qcu h2).trans (qgy h (by decide)))
theorem qw6 (h1 : ¬ (v.kind < 0 ∨ 1 < v.kind)) (h2 : ¬ (v.kind = 0 ∧ v.text = ⟨#[]⟩)) (h3 : ¬ 64 < (v.text.size : Int)) (h : v.kind = 0 ∧ qe1 v.text = false ∨ qe0 v.text = false) : vErr v = 5 := (qcu h1).trans ((qcu h2).trans ((qcu h3).trans (qgy h (by decide))))
theorem q20 (h1 : ¬ (v.kind < 0 ∨ 1 < v.kind)) (h2 : ¬ (v.kind = 0 ∧ v.text = ⟨#[]⟩)) (h3 : ¬ 64 < (v.text.size : Int)) (h : ¬ (v.kind = 0 ∧ qe1 v.text = false ∨ qe0 v.text = false)) : vErr v = 0 := (qcu h1).trans ((qcu h2).trans ((qcu h3).trans (qcu h)))
end
theorem qy2 {s : ByteArray} {i : Nat} (hi : i < s.size) (h : badC (chr s i) = true) : qe0 s = false := by unfold qe0; rw [qtr hi h]; rfl
theorem qw7 {s : ByteArray} (hb : ∀ j, j < s.size → badC (chr s j) = false) : qe0 s = true := by unfold qe0; rw [qts hb]; rfl
section
variable {p : CPart}
theorem q21 (h : ¬p.keyword = ⟨#[]⟩ ∧ q0r p.keyword = false) : pErr p = 7 := by
 have : qe5 p = 7 := qgy h (by decide)
 rw [qka (by rw [this]; decide), this]
theorem q22 (h1 : ¬ (¬p.keyword = ⟨#[]⟩ ∧ q0r p.keyword = false)) (h : (p.values.length : Int) = 0) : pErr p = 1 := by
 have : qe5 p = 1 := (qcu h1).trans (qgy h (by decide))
 rw [qka (by rw [this]; decide), this]
theorem q23 (h1 : ¬ (¬p.keyword = ⟨#[]⟩ ∧ q0r p.keyword = false)) (h2 : ¬ (p.values.length : Int) = 0) (h : 10 < (p.values.length : Int)) : pErr p = 2 := by
 have : qe5 p = 2 := (qcu h1).trans ((qcu h2).trans (qgy h (by decide)))
 rw [qka (by rw [this]; decide), this]
theorem qtx (h1 : ¬ (¬p.keyword = ⟨#[]⟩ ∧ q0r p.keyword = false)) (h2 : ¬ (p.values.length : Int) = 0) (h : ¬ 10 < (p.values.length : Int)) : qe5 p = 0 := (qcu h1).trans ((qcu h2).trans (qcu h))
end
section
variable {c : CStr}
theorem q24 (h : q0r c.name = false) : cErr c = 7 := by
 have : qfq c = 7 := qgy h (by decide)
 rw [qno (by rw [this]; decide), this]
theorem q25 (h1 : ¬ q0r c.name = false) (h : 12 < (c.parts.length : Int)) : cErr c = 2 := by
 have : qfq c = 2 := (qcu h1).trans (qgy h (by decide))
 rw [qno (by rw [this]; decide), this]
theorem qty (h1 : ¬ q0r c.name = false) (h : ¬ 12 < (c.parts.length : Int)) : qfq c = 0 := (qcu h1).trans (qcu h)
theorem q26 {i : Nat} (h1 : ¬ q0r c.name = false) (h : ¬ 12 < (c.parts.length : Int)) (hi : i < c.parts.length) (hb : ∀ j, j < i → pErr (c.parts.getD j q0b) = 0) (he : ¬ pErr (c.parts.getD i q0b) = 0) : cErr c = pErr (c.parts.getD i q0b) := by
 rw [qnp (qty h1 h), qg6 (f := fun k => pErr (c.parts.getD k q0b)) hi he hb]
theorem q27 (h1 : ¬ q0r c.name = false) (h : ¬ 12 < (c.parts.length : Int)) (hb : ∀ j, j < c.parts.length → pErr (c.parts.getD j q0b) = 0) : cErr c = 0 := by
 rw [qnp (qty h1 h), qg7 hb]
end
theorem nn7 {p : CPart} (h : p.keyword = ⟨#[]⟩ ∨ q0r p.keyword = true) : ¬ (¬p.keyword = ⟨#[]⟩ ∧ q0r p.keyword = false) := by
 rintro ⟨a, b⟩; rcases h with h | h
 ·exact a h
 ·rw [h] at b; cases b
section
variable {v : CVal} {s : ByteArray}
theorem nv1 (h : 0 ≤ v.kind ∧ v.kind ≤ 1) : ¬ (v.kind < 0 ∨ 1 < v.kind) := by omega
theorem nv2 (h : ¬v.kind = 0 ∨ ¬v.text = ⟨#[]⟩) : ¬ (v.kind = 0 ∧ v.text = ⟨#[]⟩) := by rintro ⟨a, b⟩; rcases h with h | h; exact h a; exact h b
theorem vE1 (h : v.kind = 0 ∧ v.text = ⟨#[]⟩) : vErr v = 1 := q2y (by omega) h
theorem vE2 (h1 : 0 ≤ v.kind ∧ v.kind ≤ 1) (h2 : ¬v.kind = 0 ∨ ¬v.text = ⟨#[]⟩) (h : 64 < (v.text.size : Int)) : vErr v = 2 := q2z (nv1 h1) (nv2 h2) h
theorem vE5w (h1 : 0 ≤ v.kind ∧ v.kind ≤ 1) (h2 : ¬v.kind = 0 ∨ ¬v.text = ⟨#[]⟩) (h3 : (v.text.size : Int) ≤ 64) (h : v.kind = 0 ∧ qdm v.text = false) : vErr v = 5 :=
 qw6 (nv1 h1) (nv2 h2) (by omega) (.inl ⟨h.1, by rw [← qtw (by rcases h2 with h2 | h2; exact absurd h.1 h2; exact h2) h3]; exact h.2⟩)
theorem vE5s {i : Nat} (h1 : 0 ≤ v.kind ∧ v.kind ≤ 1) (h2 : ¬v.kind = 0 ∨ ¬v.text = ⟨#[]⟩) (h3 : (v.text.size : Int) ≤ 64) (hi : (i : Int) < (v.text.size : Int)) (h : chr v.text i < 32 ∨ 126 < chr v.text i) : vErr v = 5 :=
 qw6 (nv1 h1) (nv2 h2) (by omega) (.inr (qy2 (i := i) (by omega) (by unfold badC; simp; omega)))
theorem vEz {i : Nat} (h1 : 0 ≤ v.kind ∧ v.kind ≤ 1) (h2 : ¬v.kind = 0 ∨ ¬v.text = ⟨#[]⟩) (h3 : (v.text.size : Int) ≤ 64) (h4 : ¬v.kind = 0 ∨ qdm v.text = true) (hi : (v.text.size : Int) ≤ (i : Int)) (hb : ∀ j, j < i → badC (chr v.text j) = false) : vErr v = 0 := by
 refine q20 (nv1 h1) (nv2 h2) (by omega) ?_
 rintro (⟨a, b⟩ | b)
 ·have e : ¬ v.text = ⟨#[]⟩ := by rcases h2 with h2 | h2; exact absurd a h2; exact h2
  rw [← qtw e h3] at b
  rcases h4 with h4 | h4
  ·exact h4 a
  ·rw [h4] at b; cases b
 ·rw [qw7 fun j hj => hb j (by omega)] at b; cases b
theorem q4o {c : Int} (h : 32 ≤ c ∧ c ≤ 126) : badC c = false := by unfold badC; simp; omega
theorem qzw {p : Int → Bool} {i : Nat} (hb : ∀ j, j < i → p (chr s j) = false) (h : p (chr s i) = false) : ∀ j, j < i + 1 → p (chr s j) = false := fun j hj => by
 by_cases e : j = i
 ·subst e; exact h
 ·exact hb j (by omega)
end
section
variable {c : CStr} {p : CPart}
theorem cE2 (h1 : q0r c.name = true) (h : 12 < (c.parts.length : Int)) : cErr c = 2 := q25 (by rw [h1]; decide) h
theorem cEz {i : Nat} (h1 : q0r c.name = true) (h : (c.parts.length : Int) ≤ 12) (hi : (c.parts.length : Int) ≤ (i : Int)) (hb : ∀ j, j < i → pErr (c.parts.getD j q0b) = 0) : cErr c = 0 := q27 (by rw [h1]; decide) (by omega) fun j hj => hb j (by omega)
theorem cEp {i : Nat} {e : Int} (h1 : q0r c.name = true) (h : (c.parts.length : Int) ≤ 12) (hi : (i : Int) < (c.parts.length : Int)) (hb : ∀ j, j < i → pErr (c.parts.getD j q0b) = 0) (he : pErr (c.parts.getD i q0b) = e) (hz : ¬ e = 0) : cErr c = e := by
 rw [q26 (by rw [h1]; decide) (by omega) (by omega) hb (by rw [he]; exact hz), he]
theorem pE1 (h1 : p.keyword = ⟨#[]⟩ ∨ q0r p.keyword = true) (h : (p.values.length : Int) = 0) : pErr p = 1 := q22 (nn7 h1) h
theorem pE2 (h1 : p.keyword = ⟨#[]⟩ ∨ q0r p.keyword = true) (h2 : ¬ (p.values.length : Int) = 0) (h : 10 < (p.values.length : Int)) : pErr p = 2 := q23 (nn7 h1) h2 h
theorem pEv {k : Nat} (h1 : p.keyword = ⟨#[]⟩ ∨ q0r p.keyword = true) (h2 : ¬ (p.values.length : Int) = 0) (h : (p.values.length : Int) ≤ 10) (hk : (k : Int) < (p.values.length : Int)) (hb : ∀ j, j < k → vErr (p.values.getD j qbk) = 0) (he : ¬ vErr (p.values.getD k qbk) = 0) : pErr p = vErr (p.values.getD k qbk) := by
 rw [qnn (qtx (nn7 h1) h2 (by omega)), qg6 (f := fun k => vErr (p.values.getD k qbk)) (by omega) he hb]
theorem pEz {k : Nat} (h1 : p.keyword = ⟨#[]⟩ ∨ q0r p.keyword = true) (h2 : ¬ (p.values.length : Int) = 0) (h : (p.values.length : Int) ≤ 10) (hk : (p.values.length : Int) ≤ (k : Int)) (hb : ∀ j, j < k → vErr (p.values.getD j qbk) = 0) : pErr p = 0 := by
 rw [qnn (qtx (nn7 h1) h2 (by omega)), qg7 fun j hj => hb j (by omega)]
end
theorem qr4 {c : CStr} {i : Nat} (h : (c.parts.length : Int) ≤ (i : Int)) : comT c = comL c.name (c.parts.take i) := by rw [List.take_of_length_le (by omega)]; rfl
theorem qkc {c : CStr} {i : Nat} (h : (i : Int) < (c.parts.length : Int)) : comL c.name (c.parts.take (i + 1)) = comL c.name (c.parts.take i) ++ (⟨#[32]⟩ ++ qfr (c.parts.getD i q0b)) := by rw [qep q0b (by omega), qw4]
theorem q28 {p : CPart} {k : Nat} (hk : k < p.values.length) (h : 0 < k) : spJ ((p.values.take (k + 1)).map writ) = spJ ((p.values.take k).map writ) ++ ⟨#[32]⟩ ++ writ (p.values.getD k qbk) := by
 rw [qep qbk hk, List.map_append, List.map_cons, List.map_nil]
 refine qyy _ ?_
 intro e
 have := congrArg List.length e
 rw [List.length_map, List.length_take, List.length_nil] at this
 omega
theorem q29 {p : CPart} {k : Nat} (hk : k < p.values.length) (h : k = 0) : spJ ((p.values.take (k + 1)).map writ) = spJ ((p.values.take k).map writ) ++ writ (p.values.getD k qbk) := by
 subst h
 rw [qep qbk hk, List.take_zero, List.nil_append, List.map_nil, List.map_cons, List.map_nil, q1e, q1d, q4n]
theorem q3a {c : CStr} {i k : Nat} (hi : i < c.parts.length) (hk : (c.parts.getD i q0b).values.length ≤ k) (h : ¬(c.parts.getD i q0b).keyword = ⟨#[]⟩ ∨ 1 < ((c.parts.getD i q0b).values.length : Int)) :
 comL c.name (c.parts.take (i + 1)) = comL c.name (c.parts.take i) ++ ⟨#[32]⟩ ++ (c.parts.getD i q0b).keyword ++ (⟨#[40]⟩ ++ spJ (((c.parts.getD i q0b).values.take k).map writ) ++ ⟨#[41]⟩) := by
 rw [qkc (by omega), qtv (by rcases h with h | h; exact .inl h; exact .inr (by omega)), List.take_of_length_le hk]
 apply qgm
 simp only [qfs, List.append_assoc]
theorem q3b {c : CStr} {i k : Nat} (hi : i < c.parts.length) (hk : (c.parts.getD i q0b).values.length ≤ k) (h1 : 1 ≤ (c.parts.getD i q0b).values.length) (h : (c.parts.getD i q0b).keyword = ⟨#[]⟩ ∧ ((c.parts.getD i q0b).values.length : Int) ≤ 1) :
 comL c.name (c.parts.take (i + 1)) = comL c.name (c.parts.take i) ++ ⟨#[32]⟩ ++ (c.parts.getD i q0b).keyword ++ spJ (((c.parts.getD i q0b).values.take k).map writ) := by
 rw [qkc (by omega), qtu ⟨h.1, by omega⟩, List.take_of_length_le hk, h.1]
 apply qgm
 simp only [qfs, List.append_assoc]
 rfl
theorem qy3 (s : ByteArray) (i : Nat) : (dblL (s.data.toList.take i)).length ≤ 2 * s.size := by
 have h2 := qog (s.data.toList.take i)
 rw [List.length_take] at h2
 have h3 : s.data.toList.length = s.size := rfl
 omega
theorem qr5 {s : ByteArray} {i : Nat} (n : UInt8) : (chr s i = (n.toNat : Int)) ↔ s.data.toList.getD i 0 = n := by
 unfold chr
 constructor
 ·intro h
  exact UInt8.toNat_inj.1 (by omega)
 ·intro h; rw [h]
theorem qr6 {s : ByteArray} {i : Nat} (h : i < s.size) : (s.extract i (i + 1)).data.toList = [s.data.toList.getD i 0] := by
 have hl : s.data.toList.length = s.size := rfl
 rw [ByteArray.data_extract, Array.toList_extract]
 simp only [List.extract]
 rw [show i + 1 - i = 1 by omega, qjb 0 (by rw [hl]; exact h)]
 rfl
theorem wq_1 {s : ByteArray} {i : Nat} (h : i < s.size) (c : chr s i = 39) : (⟨(39 :: dblL (s.data.toList.take (i + 1))).toArray⟩ : ByteArray) = ⟨(39 :: dblL (s.data.toList.take i)).toArray⟩ ++ ⟨#[39]⟩ ++ s.extract i (i + 1) := by
 have hl : s.data.toList.length = s.size := rfl
 have hb : s.data.toList.getD i 0 = 39 := (qr5 39).1 c
 apply qgm
 simp only [qfs, qr6 h, qu5]
 rw [qep 0 (by rw [hl]; exact h), hb]
 show 39 :: dblL (_ ++ [39]) = _
 rw [qr0]
 simp [dblL]
theorem wq_0 {s : ByteArray} {i : Nat} (h : i < s.size) (c : ¬ chr s i = 39) : (⟨(39 :: dblL (s.data.toList.take (i + 1))).toArray⟩ : ByteArray) = ⟨(39 :: dblL (s.data.toList.take i)).toArray⟩ ++ s.extract i (i + 1) := by
 have hl : s.data.toList.length = s.size := rfl
 have hb : ¬ s.data.toList.getD i 0 = 39 := fun e => c ((qr5 39).2 e)
 apply qgm
 simp only [qfs, qr6 h, qu5]
 rw [qep 0 (by rw [hl]; exact h), qr0]
 generalize s.data.toList.getD i 0 = b at hb ⊢
 simp [dblL, hb]
theorem qy4 {v : CVal} {i : Nat} (h : ¬ v.kind = 0) (hi : v.text.size ≤ i) : writ v = (⟨(39 :: dblL (v.text.data.toList.take i)).toArray⟩ : ByteArray) ++ ⟨#[39]⟩ := by
 rw [List.take_of_length_le (by exact hi)]
 unfold writ
 rw [if_neg h]
 apply qgm
 simp only [qfs]
 rfl
section
variable {c : CStr}
theorem q3c (h : 13 < (c.parts.length : Int)) : fewS c = false := by unfold fewS; rw [decide_eq_false (by omega)]; rfl
theorem qtz {i : Nat} (h1 : c.parts.length ≤ 13) (hi : i < c.parts.length) (hb : ∀ j, j < i → bigP c j = 0) (h : ¬ bigP c i = 0) : fewS c = false := by
 unfold fewS; rw [qg6 hi h hb, decide_eq_false h, Bool.and_false]
theorem q3d {i : Nat} (h1 : c.parts.length ≤ 13) (hi : i < c.parts.length) (hb : ∀ j, j < i → bigP c j = 0) (h : 11 < ((c.parts.getD i q0b).values.length : Int)) : fewS c = false :=
 qtz h1 hi hb (by unfold bigP; rw [if_pos (by omega)]; decide)
theorem q3e {i k : Nat} (h1 : c.parts.length ≤ 13) (hi : i < c.parts.length) (hb : ∀ j, j < i → bigP c j = 0) (h2 : (c.parts.getD i q0b).values.length ≤ 11) (hk : k < (c.parts.getD i q0b).values.length) (hkb : ∀ j, j < k → bigV (c.parts.getD i q0b) j = 0)
 (h : 100 < (((c.parts.getD i q0b).values.getD k qbk).text.size : Int)) : fewS c = false := by
 have hv : bigV (c.parts.getD i q0b) k = 1 := by unfold bigV; rw [if_pos (by omega)]
 refine qtz h1 hi hb ?_
 unfold bigP
 rw [if_neg (by omega), qg6 hk (by rw [hv]; decide) hkb, hv]
 decide
theorem q4p {i : Nat} (h1 : c.parts.length ≤ 13) (hi : c.parts.length ≤ i) (hb : ∀ j, j < i → bigP c j = 0) : fewS c = true := by
 unfold fewS; rw [qg7 fun j hj => hb j (by omega), decide_eq_true h1]; rfl
theorem q3f {i : Nat} (h : (c.parts.getD i q0b).values.length ≤ 11) (hb : ∀ j, j < (c.parts.getD i q0b).values.length → bigV (c.parts.getD i q0b) j = 0) : bigP c i = 0 := by
 unfold bigP; rw [if_neg (by omega), qg7 hb]
end
end Go.Ev
namespace Go.Ev
open Go.Proofs Go.Shelf
def qns : Go.Shelf.Ren := ⟨fun | 155 => 132 | 154 => 147 | 138 => 161 | 165 => 140 | 143 => 162 | 166 => 141 | 197 => 156 | 169 => 143 | 195 => 174 | 218 => 175 | 240 => 154 | 241 => 155 | 219 => 176 | 260 => 171 | 276 => 169 | 277 => 170 | 217 => 188 | 225 => 189 | 224 => 190 | 267 => 191 | 266 => 199 | 314 => 200 | n => n, fun | 9 => 9 | 3 => 3 | 4 => 4 | 72 => 159 | 0 => 0 | 76 => 163 | 105 => 175 | 21 => 21 | 5 => 5 | 70 => 157 | 20 => 20 | 37 => 86 | 75 => 162 | 127 => 174 | 164 => 183 | 46 => 201 | 119 => 200 | 139 => 204 | 138 => 203 | 146 => 225 | 51 => 205 | 80 => 100 | n => n, fun | 1 => 1 | 3 => 2 | 4 => 3 | n => n⟩
theorem layRep : Lays.n155 Tryz.prog qns := {
 mixed := by kernel_rfl,
 f138 := Tryz.func161.trans (congrArg some (by kernel_rfl)),
 f143 := Tryz.func162.trans (congrArg some (by kernel_rfl)),
 f154 := Tryz.func147.trans (congrArg some (by kernel_rfl)),
 f155 := Tryz.func132.trans (congrArg some (by kernel_rfl)),
 f165 := Tryz.func140.trans (congrArg some (by kernel_rfl)),
 f166 := Tryz.func141.trans (congrArg some (by kernel_rfl)),
 f169 := Tryz.func143.trans (congrArg some (by kernel_rfl)),
 f195 := Tryz.func174.trans (congrArg some (by kernel_rfl)),
 f197 := Tryz.func156.trans (congrArg some (by kernel_rfl)),
 f217 := Tryz.func188.trans (congrArg some (by kernel_rfl)),
 f218 := Tryz.func175.trans (congrArg some (by kernel_rfl)),
 f219 := Tryz.func176.trans (congrArg some (by kernel_rfl)),
 f224 := Tryz.func190.trans (congrArg some (by kernel_rfl)),
 f225 := Tryz.func189.trans (congrArg some (by kernel_rfl)),
 f240 := Tryz.func154.trans (congrArg some (by kernel_rfl)),
 f241 := Tryz.func155.trans (congrArg some (by kernel_rfl)),
 f260 := Tryz.func171.trans (congrArg some (by kernel_rfl)),
 f266 := Tryz.func199.trans (congrArg some (by kernel_rfl)),
 f267 := Tryz.func191.trans (congrArg some (by kernel_rfl)),
 f276 := Tryz.func169.trans (congrArg some (by kernel_rfl)),
 f277 := Tryz.func170.trans (congrArg some (by kernel_rfl)),
 f314 := Tryz.func200.trans (congrArg some (by kernel_rfl)),
 t0 := Tryz.underlying0,
 a0 := Tryz.isAgg0,
 z0 := Tryz.sizeOf0,
 v0 := Tryz.zeroValue0,
 t3 := Tryz.underlying3,
 a3 := Tryz.isAgg3,
 z3 := Tryz.sizeOf3,
 v3 := Tryz.zeroValue3,
 t4 := Tryz.underlying4,
 a4 := Tryz.isAgg4,
 z4 := Tryz.sizeOf4,
 v4 := Tryz.zeroValue4,
 t5 := Tryz.underlying5,
 a5 := Tryz.isAgg5,
 z5 := Tryz.sizeOf5,
 v5 := Tryz.zeroValue5,
 t9 := Tryz.underlying9,
 a9 := Tryz.isAgg9,
 z9 := Tryz.sizeOf9,
 v9 := Tryz.zeroValue9,
 t20 := Tryz.underlying20,
 a20 := Tryz.isAgg20,
 z20 := Tryz.sizeOf20,
 v20 := Tryz.zeroValue20,
 t21 := Tryz.underlying21,
 a21 := Tryz.isAgg21,
 z21 := Tryz.sizeOf21,
 v21 := Tryz.zeroValue21,
 t37 := Tryz.underlying86,
 a37 := Tryz.isAgg86,
 z37 := Tryz.sizeOf86,
 v37 := Tryz.zeroValue86,
 t46 := Tryz.underlying201,
 a46 := Tryz.isAgg201,
 z46 := Tryz.sizeOf201,
 v46 := Tryz.zeroValue201,
 t51 := Tryz.underlying205,
 a51 := Tryz.isAgg205,
 z51 := Tryz.sizeOf205,
 v51 := Tryz.zeroValue205,
 t70 := Tryz.underlying157,
 a70 := Tryz.isAgg157,
 z70 := Tryz.sizeOf157,
 v70 := Tryz.zeroValue157,
 t72 := Tryz.underlying159,
 a72 := Tryz.isAgg159,
 z72 := Tryz.sizeOf159,
 v72 := Tryz.zeroValue159,
 t75 := Tryz.underlying162,
 a75 := Tryz.isAgg162,
 z75 := Tryz.sizeOf162,
 v75 := Tryz.zeroValue162,
 t76 := Tryz.underlying163,
 a76 := Tryz.isAgg163,
 z76 := Tryz.sizeOf163,
 v76 := Tryz.zeroValue163,
 t105 := Tryz.underlying175,
 a105 := Tryz.isAgg175,
 z105 := Tryz.sizeOf175,
 v105 := Tryz.zeroValue175,
 t119 := Tryz.underlying200,
 a119 := Tryz.isAgg200,
 z119 := Tryz.sizeOf200,
 t127 := Tryz.underlying174,
 a127 := Tryz.isAgg174,
 z127 := Tryz.sizeOf174,
 v127 := Tryz.zeroValue174,
 t138 := Tryz.underlying203,
 a138 := Tryz.isAgg203,
 z138 := Tryz.sizeOf203,
 v138 := Tryz.zeroValue203,
 t139 := Tryz.underlying204,
 a139 := Tryz.isAgg204,
 z139 := Tryz.sizeOf204,
 v139 := Tryz.zeroValue204,
 t146 := Tryz.underlying225,
 a146 := Tryz.isAgg225,
 z146 := Tryz.sizeOf225,
 v146 := Tryz.zeroValue225,
 t164 := Tryz.underlying183,
 a164 := Tryz.isAgg183,
 z164 := Tryz.sizeOf183,
 v164 := Tryz.zeroValue183,
 g1 := by kernel_rfl,
 g3 := by kernel_rfl,
 g4 := by kernel_rfl }
theorem qy5 : Builder.Extra Tryz.prog qns where
 sizeBuilder := by kernel_rfl
 liesBuilder := by kernel_rfl
 t5 := layRep.t5
 a5 := layRep.a5
 z5 := layRep.z5
 v5 := layRep.v5
 infoByte := by kernel_rfl
 cellsByte := by kernel_rfl
 sizeByte := by kernel_rfl
 neB5 := by decide
def qpt : Go.Shelf.Ren := ⟨fun | 156 => 133 | 165 => 140 | 166 => 141 | 169 => 143 | 240 => 154 | 241 => 155 | 276 => 169 | 277 => 170 | n => n, fun | 31 => 71 | 9 => 9 | 3 => 3 | 4 => 4 | 0 => 0 | 20 => 20 | 72 => 159 | 76 => 163 | 70 => 157 | 37 => 86 | 75 => 162 | 127 => 174 | 164 => 183 | 5 => 5 | 80 => 100 | n => n, fun n => n⟩
theorem qu6 : Lays.n156 Tryz.prog qpt := {
 mixed := by kernel_rfl,
 f156 := Tryz.func133.trans (congrArg some (by kernel_rfl)),
 f165 := Tryz.func140.trans (congrArg some (by kernel_rfl)),
 f166 := Tryz.func141.trans (congrArg some (by kernel_rfl)),
 f169 := Tryz.func143.trans (congrArg some (by kernel_rfl)),
 f240 := Tryz.func154.trans (congrArg some (by kernel_rfl)),
 f241 := Tryz.func155.trans (congrArg some (by kernel_rfl)),
 f276 := Tryz.func169.trans (congrArg some (by kernel_rfl)),
 f277 := Tryz.func170.trans (congrArg some (by kernel_rfl)),
 t0 := Tryz.underlying0,
 a0 := Tryz.isAgg0,
 z0 := Tryz.sizeOf0,
 v0 := Tryz.zeroValue0,
 t3 := Tryz.underlying3,
 a3 := Tryz.isAgg3,
 z3 := Tryz.sizeOf3,
 v3 := Tryz.zeroValue3,
 t4 := Tryz.underlying4,
 a4 := Tryz.isAgg4,
 z4 := Tryz.sizeOf4,
 v4 := Tryz.zeroValue4,
 t9 := Tryz.underlying9,
 a9 := Tryz.isAgg9,
 z9 := Tryz.sizeOf9,
 v9 := Tryz.zeroValue9,
 t20 := Tryz.underlying20,
 a20 := Tryz.isAgg20,
 z20 := Tryz.sizeOf20,
 v20 := Tryz.zeroValue20,
 t31 := Tryz.underlying71,
 a31 := Tryz.isAgg71,
 z31 := Tryz.sizeOf71,
 v31 := Tryz.zeroValue71,
 t37 := Tryz.underlying86,
 a37 := Tryz.isAgg86,
 z37 := Tryz.sizeOf86,
 v37 := Tryz.zeroValue86,
 t70 := Tryz.underlying157,
 a70 := Tryz.isAgg157,
 z70 := Tryz.sizeOf157,
 v70 := Tryz.zeroValue157,
 t72 := Tryz.underlying159,
 a72 := Tryz.isAgg159,
 z72 := Tryz.sizeOf159,
 v72 := Tryz.zeroValue159,
 t75 := Tryz.underlying162,
 a75 := Tryz.isAgg162,
 z75 := Tryz.sizeOf162,
 v75 := Tryz.zeroValue162,
 t76 := Tryz.underlying163,
 a76 := Tryz.isAgg163,
 z76 := Tryz.sizeOf163,
 v76 := Tryz.zeroValue163,
 t127 := Tryz.underlying174,
 a127 := Tryz.isAgg174,
 z127 := Tryz.sizeOf174,
 v127 := Tryz.zeroValue174,
 t164 := Tryz.underlying183,
 a164 := Tryz.isAgg183,
 z164 := Tryz.sizeOf183,
 v164 := Tryz.zeroValue183 }
theorem qoh : Builder.Extra Tryz.prog qpt where
 sizeBuilder := by kernel_rfl
 liesBuilder := by kernel_rfl
 t5 := Tryz.underlying5
 a5 := Tryz.isAgg5
 z5 := Tryz.sizeOf5
 v5 := Tryz.zeroValue5
 infoByte := by kernel_rfl
 cellsByte := by kernel_rfl
 sizeByte := by kernel_rfl
 neB5 := by decide
end Go.Ev
namespace Go.Ev
open Go.Proofs Go.RowKit
theorem qw8 {P : Program} {f : FuncId} {l : List D} {r : D} (hl : l.all D.sc = true) (hr : r.sc = true)
 (h : ∀ w, Glob.inv w → Calls P f (l.map encF).toArray w fun e w' => e = .returned (encF r) ∧ Below w.heap.size w w') : Sem P f (l.map O.d) (.d r) := by
 intro w vs X os hX hA hd ⟨hn, oss, h1, h2, h3⟩ hgi
 have hvs : vs = (l.map encF).toArray := by
  refine Array.ext (by simpa using hn) fun i hi hi' => ?_
  have hil : i < l.length := by simpa using hi'
  obtain ⟨_, hrd⟩ := qqb (d := l[i]) (h3 i vs[i] (.d l[i]) (oss[i]'(by rw [h1]; simpa using hil)) (by simp [hi]) (by simp [hil]) (by simp [h1, hil]))
  have := qof hrd (List.all_eq_true.1 hl _ (List.getElem_mem hil))
  simpa using this
 subst hvs
 refine Calls.mono (h w hgi.inv) ?_
 rintro e w' ⟨rfl, hb⟩
 refine ⟨encF r, encF r, [], rfl, ?_, .d _ _ (qtq hr), ?_, ?_, qlx hb⟩
 ·unfold Ret
  rw [qh3]
 ·intro i j b hi; simp at hi
 ·intro b hb'; cases hb'
theorem bytes_beq {a b : UInt8} : (a == b) = decide (a = b) := by rw [Bool.eq_iff_iff]; simp
theorem q1j (l : List UInt8) : Lib.index l [39] = if 39 ∈ l then (l.idxOf 39 : Int) else -1 := by
 induction l with
 | nil => rfl
 | cons b l ih =>
   unfold Lib.index
   by_cases e : b = 39
   ·subst e; simp [List.isPrefixOf]
   ·have e2 : ([39] : List UInt8).isPrefixOf (b :: l) = false := by simp [List.isPrefixOf, Ne.symm e]
    rw [e2, ih]
    simp only [Bool.false_eq_true, if_false, List.mem_cons, Ne.symm e, false_or]
    by_cases m : 39 ∈ l
    ·rw [if_pos m, if_pos m]
     rw [if_neg (by rw [beq_iff_eq]; omega), List.idxOf_cons, show (b == 39) = false from by simpa using e]
     rfl
    ·rw [if_neg m, if_neg m]; rfl
theorem qly {l : List UInt8} (h : 39 ∉ l) : dblL l = l := by
 induction l with
 | nil => rfl
 | cons b l ih =>
   have hb : ¬ b = 39 := fun e => h (by simp [e])
   unfold dblL
   rw [if_neg hb, ih (fun m => h (by simp [m]))]
theorem q1k (a b : List UInt8) : dblL (a ++ b) = dblL a ++ dblL b := by
 induction a with
 | nil => rfl
 | cons x a ih =>
   simp only [List.cons_append, dblL, ih]
   split <;> simp
theorem qr7 : ∀ (k : Nat) (l : List UInt8), l.count 39 ≤ k → Lib.replaceK [39] [39, 39] k l = dblL l
 | 0, l, h => by
   unfold Lib.replaceK
   rw [qly]
   exact List.count_eq_zero.1 (by omega)
 | k + 1, l, h => by
   unfold Lib.replaceK
   rw [q1j]
   by_cases m : 39 ∈ l
   ·rw [if_pos m]
    have hi := List.idxOf_lt_length_of_mem m
    have e0 : ((l.idxOf 39 : Nat) : Int).toNat = l.idxOf 39 := by omega
    rw [if_neg (by rw [beq_iff_eq]; omega), e0]
    have hsplit : l = l.take (l.idxOf 39) ++ 39 :: l.drop (l.idxOf 39 + 1) := by
     conv => lhs; rw [← List.take_append_drop (l.idxOf 39) l]
     congr 1
     rw [List.drop_eq_getElem_cons hi, List.getElem_idxOf hi]
    have hno : 39 ∉ l.take (l.idxOf 39) := by
     intro hm
     obtain ⟨j, hj, e⟩ := List.getElem_of_mem hm
     rw [List.getElem_take] at e
     have hjl : j < l.idxOf 39 := by rw [List.length_take] at hj; omega
     have := List.not_of_lt_findIdx hjl
     rw [e] at this; cases this
    have hc : (l.drop (l.idxOf 39 + 1)).count 39 ≤ k := by
     have := congrArg (List.count (39 : UInt8)) hsplit
     rw [List.count_append, List.count_cons_self] at this
     omega
    rw [show l.idxOf 39 + [(39 : UInt8)].length = l.idxOf 39 + 1 from rfl, qr7 k _ hc]
    conv => rhs; rw [hsplit, q1k, qly hno]
    rw [show dblL (39 :: l.drop (l.idxOf 39 + 1)) = 39 :: 39 :: dblL (l.drop (l.idxOf 39 + 1)) from rfl]
    simp
   ·rw [if_neg m, if_pos (by rfl), qly m]
theorem qy6 (l : List UInt8) : Lib.replaceAll l [39] [39, 39] = dblL l := by
 unfold Lib.replaceAll Lib.replace
 rw [if_neg (by decide)]
 refine qr7 _ l ?_
 unfold Lib.replaceNum
 rw [if_pos (.inl (by decide)), Lib.count_one]
 exact Nat.le_refl _
theorem q1l {s : ByteArray} (h : s.size ≤ 1000) : Sem Tryz.prog 132 [.d (.s s), .d (.s ⟨#[39]⟩), .d (.s ⟨#[39, 39]⟩)] (.d (.s ⟨(dblL s.data.toList).toArray⟩)) :=
 qw8 (l := [.s s, .s ⟨#[39]⟩, .s ⟨#[39, 39]⟩]) (r := .s ⟨(dblL s.data.toList).toArray⟩) rfl rfl fun w ⟨m, hm⟩ => by
  have h1 := Lib.countB_mul_le (⟨#[39]⟩ : ByteArray) (by decide) s.size s (Nat.le_refl _)
  have h2 : (⟨#[39]⟩ : ByteArray).size = 1 := rfl
  have h3 : (⟨#[39, 39]⟩ : ByteArray).size = 2 := rfl
  rw [h2] at h1
  have := Any.strings_ReplaceAll layRep qy5 s ⟨#[39]⟩ ⟨#[39, 39]⟩ m w (by omega) hm (by decide) (by rw [h3]; omega)
  rw [← qy6]
  exact this
theorem qu7 (l : List ByteArray) : flat (l.map D.s) = l.map D.s := by
 induction l with
 | nil => rfl
 | cons x l ih => rw [List.map_cons, qcb, ih]; rfl
theorem qu8 {l : List ByteArray} {w : World} {X : Nat → Prop} {v : Value} (hv : RD w X v (.sl 1 (l.map D.s))) (h1 : l.length ≤ 1000000) (h2 : (Lib.join (l.map (·.data.toList)) [32]).length ≤ 140737488355328) :
 Calls Tryz.prog 133 #[v, .string ⟨#[32]⟩] w fun e w' => e = .returned (.string (spJ l)) ∧ Below w.heap.size w w' := by
 generalize hd : D.sl 1 (l.map D.s) = d at hv
 cases hv with
 | sl0 sz =>
   injection hd with _ h
   have hl : l = [] := List.map_eq_nil_iff.1 h
   subst hl
   refine Calls.mono (Any.strings_Join_none qu6 qoh none 0 ⟨#[32]⟩ w) ?_
   rintro e w' ⟨rfl, rfl⟩
   exact ⟨rfl, Below.refl _ _⟩
 | sl a cap sz L u hc hsz hs ha hw hr =>
   injection hd with e1 e2
   subst e1
   subst e2
   rw [List.length_map] at hc ⊢
   cases l with
   | nil =>
     refine Calls.mono (Any.strings_Join_none qu6 qoh (some a) cap ⟨#[32]⟩ w) ?_
     rintro e w' ⟨rfl, rfl⟩
     exact ⟨rfl, Below.refl _ _⟩
   | cons x l =>
     obtain ⟨sp, _⟩ := ha (by simp)
     obtain ⟨bk, o, sp'⟩ := a
     simp only at sp; subst sp
     have hcell : ∀ (j : Nat) y, (x :: l)[j]? = some y → w.cell? ⟨bk, o + j, none⟩ = some (.string y) := fun j y hj => by
      have hj' : (flat ((x :: l).map D.s))[j]? = some (.s y) := by rw [qu7, List.getElem?_map, hj]; rfl
      have h3 := hw j _ hj'
      have h4 := hr j _ hj'
      generalize u j = uj at h3 h4
      cases h4
      exact h3
     have hbk : bk < w.heap.size := World.block_lt_of_cell? w ⟨bk, o + 0, none⟩ (hcell 0 x rfl)
     exact Any.strings_Join qu6 qoh bk o cap (x :: l) ⟨#[32]⟩ w hcell hbk (by omega) hc h2
 | b | i | s | agg | nil | cp | np | fn | mp | mp0 => cases hd
theorem qy7 {l : List ByteArray} (h1 : l.length ≤ 1000000) (h2 : (Lib.join (l.map (·.data.toList)) [32]).length ≤ 140737488355328) : Sem Tryz.prog 133 [.d (.sl 1 (l.map D.s)), .d (.s ⟨#[32]⟩)] (.d (.s (spJ l))) := by
 intro w vs X os hX hA hd ⟨hn, oss, g1, g2, g3⟩ hgi
 have hn2 : vs.size = 2 := hn
 have gl : oss.length = 2 := g1
 obtain ⟨_, r0⟩ := qqb (g3 0 vs[0] _ (oss[0]'(by omega)) (by simp [hn2]) rfl (by simp [gl]))
 obtain ⟨_, r1⟩ := qqb (g3 1 vs[1] _ (oss[1]'(by omega)) (by simp [hn2]) rfl (by simp [gl]))
 have e1 : vs[1] = .string ⟨#[32]⟩ := qof r1 rfl
 have hvs : vs = #[vs[0], .string ⟨#[32]⟩] := by
  refine Array.ext (by simp [hn2]) fun i hi hi' => ?_
  have : i < 2 := by omega
  match i, this with
  | 0, _ => rfl
  | 1, _ => exact e1
 rw [hvs]
 refine Calls.mono (qu8 r0 h1 h2) ?_
 rintro e w' ⟨rfl, hb⟩
 refine ⟨.string (spJ l), .string (spJ l), [], rfl, ?_, .d _ _ (.s _), ?_, ?_, qlx hb⟩
 ·rfl
 ·intro i j b hi; simp at hi
 ·intro b hb'; cases hb'
end Go.Ev
namespace Go.Ev
noncomputable section
open Go.Proofs Ty
set_option maxRecDepth 10000
set_option maxHeartbeats 4000000
def e132 : List O → Option (Prop × O)
 | [.d (.s x), .d (.s a), .d (.s b)] => some (x.size ≤ 1000 ∧ a = ⟨#[39]⟩ ∧ b = ⟨#[39, 39]⟩, .d (.s ⟨(dblL x.data.toList).toArray⟩))
 | _ => none
def qw9 : FuncId → List O → Option (Prop × O) := addT qzu 132 e132
def e133 : List O → Option (Prop × O)
 | [.d x, .d (.s b)] => match decL 1 decS x with
   | some l => some (l.length ≤ 1000000 ∧ (Go.Lib.join (l.map (·.data.toList)) [32]).length ≤ 140737488355328 ∧ b = ⟨#[32]⟩, .d (.s (spJ l)))
   | none => none
 | _ => none
def qr8 : FuncId → List O → Option (Prop × O) := addT qw9 133 e133
def e89 : List O → Option (Prop × O)
 | [.d (.i .i64 n), .d (.i .i64 lo), .d (.i .i64 hi)] => some (True, .d (.b (decide (lo ≤ n) && decide (n ≤ hi))))
 | _ => none
def qu9 : FuncId → List O → Option (Prop × O) := addT qr8 89 e89
def e64 : List O → Option (Prop × O)
 | [.d (.b b), .d (.i .i64 e)] => some (True, .d (.i .i64 (if b = true then e else 0)))
 | _ => none
def qva : FuncId → List O → Option (Prop × O) := addT qu9 64 e64
def e62 : List O → Option (Prop × O)
 | [.d x_l] => match decL 1 (decI .i64) x_l with
   | some l => some (l.length ≤ 1000000, .d (.i .i64 (fstE l)))
   | _ => none
 | _ => none
def qvb : FuncId → List O → Option (Prop × O) := addT qva 62 e62
def e139 : List O → Option (Prop × O)
 | [.d (.i .u8 c)] => some (True, .d (.b (badC c)))
 | _ => none
def qr9 : FuncId → List O → Option (Prop × O) := addT qvb 139 e139
def e50a : List O → Option (Prop × O)
 | [.d x_l, .d (.fn 139 [])] => match decL 1 (decI .u8) x_l with
   | some l => some (l.length ≤ 1000000, .d (.i .i64 (idxP badC l)))
   | _ => none
 | _ => none
def qsa : FuncId → List O → Option (Prop × O) := addT qr9 50 e50a
def qnt : List O → Option (Prop × O)
 | [.d x_l, .d (.fn 139 [])] => match decL 1 (decI .u8) x_l with
   | some l => some (l.length ≤ 1000000, .d (.b (hasP badC l)))
   | _ => none
 | _ => none
def qoi : FuncId → List O → Option (Prop × O) := addT qsa 138 qnt
def e124 : List O → Option (Prop × O)
 | [.d (.s s)] => some (s.size ≤ 1000000, .d (.b (qe0 s)))
 | _ => none
def qsb : FuncId → List O → Option (Prop × O) := addT qoi 124 e124
def e146 : List O → Option (Prop × O)
 | [.d (.i .u8 c)] => some (True, .d (.b (qdi c)))
 | _ => none
def qsc : FuncId → List O → Option (Prop × O) := addT qsb 146 e146
def e50b : List O → Option (Prop × O)
 | [.d x_l, .d (.fn 146 [])] => match decL 1 (decI .u8) x_l with
   | some l => some (l.length ≤ 1000000, .d (.i .i64 (idxP qdi l)))
   | _ => none
 | _ => none
def qsd : FuncId → List O → Option (Prop × O) := addT qsc 50 e50b
def qnu : List O → Option (Prop × O)
 | [.d x_l, .d (.fn 146 [])] => match decL 1 (decI .u8) x_l with
   | some l => some (l.length ≤ 1000000, .d (.b (hasP qdi l)))
   | _ => none
 | _ => none
def qoj : FuncId → List O → Option (Prop × O) := addT qsd 138 qnu
def e131 : List O → Option (Prop × O)
 | [.d (.s s)] => some (s.size ≤ 1000000, .d (.b (qe1 s)))
 | _ => none
def qse : FuncId → List O → Option (Prop × O) := addT qoj 131 e131
def e112 : List O → Option (Prop × O)
 | [.d (.s s)] => some (s.size ≤ 1000000, .d (.b (qdm s)))
 | _ => none
def qsf : FuncId → List O → Option (Prop × O) := addT qse 112 e112
def e115 : List O → Option (Prop × O)
 | [.d x_v] => match qbl x_v with
   | some v => some (qgz v, .d (.i .i64 (vErr v)))
   | _ => none
 | _ => none
def qsg : FuncId → List O → Option (Prop × O) := addT qsf 115 e115
def e105 : List O → Option (Prop × O)
 | [.d x_p] => match qbo x_p with
   | some p => some (qry p, .d (.i .i64 (pErr p)))
   | _ => none
 | _ => none
def qsh : FuncId → List O → Option (Prop × O) := addT qsg 105 e105
def e63 : List O → Option (Prop × O)
 | [.d x_c] => match qbv x_c with
   | some c => some (okC c, .d (.i .i64 (cErr c)))
   | _ => none
 | _ => none
def qvc : FuncId → List O → Option (Prop × O) := addT qsh 63 e63
def e113 : List O → Option (Prop × O)
 | [.d x_p] => match qbo x_p with
   | some p => some (pErr p = 0, .d (.s (qfr p)))
   | _ => none
 | _ => none
def qsi : FuncId → List O → Option (Prop × O) := addT qvc 113 e113
def e75 : List O → Option (Prop × O)
 | [.d x_c] => match qbv x_c with
   | some c => some (cErr c = 0, .d (.s (comT c)))
   | _ => none
 | _ => none
def qvd : FuncId → List O → Option (Prop × O) := addT qsi 75 e75
def e36 : List O → Option (Prop × O)
 | [.d x_c] => match qbv x_c with
   | some c => some (okC c, .tup [.d (.s (if cErr c = 0 then comT c else ⟨#[]⟩)), .d (.i .i64 (cErr c))])
   | _ => none
 | _ => none
def qve : FuncId → List O → Option (Prop × O) := addT qvd 36 e36
def e114 : List O → Option (Prop × O)
 | [.d (.s s)] => some (s.size ≤ 1000000, .d (.b (qdm s)))
 | _ => none
def qsj : FuncId → List O → Option (Prop × O) := addT qve 114 e114
def e79 : List O → Option (Prop × O)
 | [.d x_v] => match qbl x_v with
   | some v => some (qgz v, .d (.i .i64 (vErr v)))
   | _ => none
 | _ => none
def qvf : FuncId → List O → Option (Prop × O) := addT qsj 79 e79
def e34 : List O → Option (Prop × O)
 | [.d x_c] => match qbv x_c with
   | some c => some (okC c, .d (.i .i64 (cErr c)))
   | _ => none
 | _ => none
def qvg : FuncId → List O → Option (Prop × O) := addT qvf 34 e34
def e77 : List O → Option (Prop × O)
 | [.d x_v] => match qbl x_v with
   | some v => some (vErr v = 0, .d (.s (writ v)))
   | _ => none
 | _ => none
def qvh : FuncId → List O → Option (Prop × O) := addT qvg 77 e77
def e31 : List O → Option (Prop × O)
 | [.d x_c] => match qbv x_c with
   | some c => some (cErr c = 0, .d (.s (comT c)))
   | _ => none
 | _ => none
def qvi : FuncId → List O → Option (Prop × O) := addT qvh 31 e31
def e23 : List O → Option (Prop × O)
 | [.d x_c] => match qbv x_c with
   | some c => some (okC c, .d (q08 c))
   | _ => none
 | _ => none
def qvj : FuncId → List O → Option (Prop × O) := addT qvi 23 e23
def e21 : List O → Option (Prop × O)
 | [.d x_c] => match qbv x_c with
   | some c => some (True, .d (.b (fewS c)))
   | _ => none
 | _ => none
def qvk : FuncId → List O → Option (Prop × O) := addT qvj 21 e21
def e9 : List O → Option (Prop × O)
 | [.d x_c] => match qbv x_c with
   | some c => some (True, .d (.b true))
   | _ => none
 | _ => none
def tab9 : FuncId → List O → Option (Prop × O) := addT qvk 9 e9
end
end Go.Ev
namespace Go.Ev
noncomputable section
open Go.Proofs Ty
set_option maxRecDepth 10000
set_option maxHeartbeats 4000000
def e127 : List O → Option (Prop × O)
 | [.d (.s x)] => some (x.size ≤ 140737488355328 ∧ (∀ b ∈ x.data.toList, b.toNat < 128), .d (.s (upS x)))
 | _ => none
def q3g : FuncId → List O → Option (Prop × O) := addT tab9 127 e127
def e126 : List O → Option (Prop × O)
 | [.d (.i .u8 c)] => some (True, .d (.b (endC c)))
 | _ => none
def q3h : FuncId → List O → Option (Prop × O) := addT q3g 126 e126
def e96 : List O → Option (Prop × O)
 | [.d (.cp [.s s_r, .i .i64 a_r, .i .i64 p_r, .i .i64 e_r]), .d (.i .u8 c)] => match qch s_r a_r p_r e_r with
   | some r => some (r.pos ≤ 401 ∧ r.s.size ≤ 400, .d (.b (isAt r.s r.pos c)))
   | _ => none
 | _ => none
def q4q : FuncId → List O → Option (Prop × O) := addT q3h 96 e96
def e54 : List O → Option (Prop × O)
 | [.bx 99 [.d (.s s_r), .d (.i .i64 a_r), .d (.i .i64 p_r), .d (.i .i64 e_r)], .d (.i .i64 place), .d (.i .i64 e)] => match qch s_r a_r p_r e_r with
   | some r => some (True, .tup [.bx 99 [.d (.s r.s), .d (.i .i64 (r.pos : Int)), .d (.i .i64 (fP r.err r.place place)), .d (.i .i64 (fE r.err e))]])
   | _ => none
 | _ => none
def q4r : FuncId → List O → Option (Prop × O) := addT q4q 54 e54
def e53 : List O → Option (Prop × O)
 | [.bx 99 [.d (.s s_r), .d (.i .i64 a_r), .d (.i .i64 p_r), .d (.i .i64 e_r)]] => match qch s_r a_r p_r e_r with
   | some r => some (r.pos ≤ 401 ∧ r.s.size ≤ 400, .tup [.bx 99 [.d (.s r.blanks.s), .d (.i .i64 (r.blanks.pos : Int)), .d (.i .i64 r.blanks.place), .d (.i .i64 r.blanks.err)]])
   | _ => none
 | _ => none
def q4s : FuncId → List O → Option (Prop × O) := addT q4r 53 e53
def e95 : List O → Option (Prop × O)
 | [.bx 99 [.d (.s s_r), .d (.i .i64 a_r), .d (.i .i64 p_r), .d (.i .i64 e_r)]] => match qch s_r a_r p_r e_r with
   | some r => some (r.pos ≤ r.s.size ∧ asc r.s, .tup [.d (.s r.wtxt), .bx 99 [.d (.s r.word.s), .d (.i .i64 (r.word.pos : Int)), .d (.i .i64 r.word.place), .d (.i .i64 r.word.err)]])
   | _ => none
 | _ => none
def q4t : FuncId → List O → Option (Prop × O) := addT q4s 95 e95
def e51 : List O → Option (Prop × O)
 | [.d (.i .u8 c)] => some (True, .d (.b (decide (c < 32) || decide (126 < c))))
 | _ => none
def q4u : FuncId → List O → Option (Prop × O) := addT q4t 51 e51
def e50 : List O → Option (Prop × O)
 | [.d x_l, .d (.fn 51 [])] => match decL 1 (decI .u8) x_l with
   | some l => some (l.length ≤ 1000000, .d (.i .i64 (idxP badC l)))
   | _ => none
 | _ => none
def q4v : FuncId → List O → Option (Prop × O) := addT q4u 50 e50
def e128 : List O → Option (Prop × O)
 | [.bx 99 [.d (.s s_r), .d (.i .i64 a_r), .d (.i .i64 p_r), .d (.i .i64 e_r)]] => match qch s_r a_r p_r e_r with
   | some r => some (r.pos < r.s.size ∧ asc r.s, .tup [.d (q0t r.qval), .bx 99 [.d (.s r.quoted.s), .d (.i .i64 (r.quoted.pos : Int)), .d (.i .i64 r.quoted.place), .d (.i .i64 r.quoted.err)]])
   | _ => none
 | _ => none
def q3i : FuncId → List O → Option (Prop × O) := addT q4v 128 e128
def e98 : List O → Option (Prop × O)
 | [.bx 99 [.d (.s s_r), .d (.i .i64 a_r), .d (.i .i64 p_r), .d (.i .i64 e_r)], .d (.b op)] => match qch s_r a_r p_r e_r with
   | some r => some (r.pos ≤ r.s.size ∧ asc r.s, .tup [.d (q0t r.valV), .bx 99 [.d (.s (r.valR.stop op).s), .d (.i .i64 ((r.valR.stop op).pos : Int)), .d (.i .i64 (r.valR.stop op).place), .d (.i .i64 (r.valR.stop op).err)]])
   | _ => none
 | _ => none
def q4w : FuncId → List O → Option (Prop × O) := addT q3i 98 e98
def e52 : List O → Option (Prop × O)
 | [.bx 99 [.d (.s s_r), .d (.i .i64 a_r), .d (.i .i64 p_r), .d (.i .i64 e_r)]] => match qch s_r a_r p_r e_r with
   | some r => some (r.pos ≤ r.s.size ∧ asc r.s, .tup [.d (.s r.nmT), .bx 99 [.d (.s r.nmR.s), .d (.i .i64 (r.nmR.pos : Int)), .d (.i .i64 r.nmR.place), .d (.i .i64 r.nmR.err)]])
   | _ => none
 | _ => none
def q4x : FuncId → List O → Option (Prop × O) := addT q4w 52 e52
def e97 : List O → Option (Prop × O)
 | [.bx 99 [.d (.s s_r), .d (.i .i64 a_r), .d (.i .i64 p_r), .d (.i .i64 e_r)]] => match qch s_r a_r p_r e_r with
   | some r => some (r.pos < r.s.size ∧ r.s.size ≤ 400 ∧ asc r.s ∧ r.err = 0, .tup [.d (.sl 2 (r.list.2.map q0t)), .bx 99 [.d (.s r.list.1.s), .d (.i .i64 (r.list.1.pos : Int)), .d (.i .i64 r.list.1.place), .d (.i .i64 r.list.1.err)]])
   | _ => none
 | _ => none
def q4y : FuncId → List O → Option (Prop × O) := addT q4x 97 e97
def e55 : List O → Option (Prop × O)
 | [.bx 99 [.d (.s s_r), .d (.i .i64 a_r), .d (.i .i64 p_r), .d (.i .i64 e_r)]] => match qch s_r a_r p_r e_r with
   | some r => some (r.pos ≤ r.s.size ∧ r.s.size ≤ 400 ∧ asc r.s ∧ r.err = 0, .tup [.d (q0d r.partV), .bx 99 [.d (.s r.partR.s), .d (.i .i64 (r.partR.pos : Int)), .d (.i .i64 r.partR.place), .d (.i .i64 r.partR.err)]])
   | _ => none
 | _ => none
def q4z : FuncId → List O → Option (Prop × O) := addT q4y 55 e55
def e18 : List O → Option (Prop × O)
 | [.d (.s s)] => some (True, .tup [.d (q08 (qig s).1), .d (.i .i64 (qig s).2.1), .d (.i .i64 (qig s).2.2)])
 | _ => none
def q40 : FuncId → List O → Option (Prop × O) := addT q4z 18 e18
def e59 : List O → Option (Prop × O)
 | [.bx 105 [.d (.s s_r), .d (.i .i64 a_r), .d (.i .i64 p_r), .d (.i .i64 e_r)], .d (.i .i64 pl), .d (.i .i64 e)] => match qch s_r a_r p_r e_r with
   | some r => some (True, .tup [.bx 105 [.d (.s r.s), .d (.i .i64 (r.pos : Int)), .d (.i .i64 (fP r.err r.place pl)), .d (.i .i64 (fE r.err e))]])
   | _ => none
 | _ => none
def q41 : FuncId → List O → Option (Prop × O) := addT q40 59 e59
def e56 : List O → Option (Prop × O)
 | [.bx 105 [.d (.s s_r), .d (.i .i64 a_r), .d (.i .i64 p_r), .d (.i .i64 e_r)]] => match qch s_r a_r p_r e_r with
   | some r => some (r.pos ≤ 401 ∧ r.s.size ≤ 400, .tup [.d (.b r.more), .bx 105 [.d (.s r.blanks.s), .d (.i .i64 (r.blanks.pos : Int)), .d (.i .i64 r.blanks.place), .d (.i .i64 r.blanks.err)]])
   | _ => none
 | _ => none
def q42 : FuncId → List O → Option (Prop × O) := addT q41 56 e56
def e57 : List O → Option (Prop × O)
 | [.d (.s x)] => some (x.size ≤ 400 ∧ ∀ b ∈ x.data.toList, b.toNat < 128, .d (.s (upS x)))
 | _ => none
def q43 : FuncId → List O → Option (Prop × O) := addT q42 57 e57
def e58 : List O → Option (Prop × O)
 | [.bx 105 [.d (.s s_r), .d (.i .i64 a_r), .d (.i .i64 p_r), .d (.i .i64 e_r)]] => match qch s_r a_r p_r e_r with
   | some r => some (r.pos ≤ r.s.size ∧ quu r.s, .tup [.d (.s r.wraw), .bx 105 [.d (.s r.word.s), .d (.i .i64 (r.word.pos : Int)), .d (.i .i64 r.word.place), .d (.i .i64 r.word.err)]])
   | _ => none
 | _ => none
def q44 : FuncId → List O → Option (Prop × O) := addT q43 58 e58
def e102 : List O → Option (Prop × O)
 | [.bx 105 [.d (.s s_r), .d (.i .i64 a_r), .d (.i .i64 p_r), .d (.i .i64 e_r)]] => match qch s_r a_r p_r e_r with
   | some r => some (r.pos < r.s.size ∧ r.s.size ≤ 400, .tup [.d (q0t r.qval), .bx 105 [.d (.s r.quoted.s), .d (.i .i64 (r.quoted.pos : Int)), .d (.i .i64 r.quoted.place), .d (.i .i64 r.quoted.err)]])
   | _ => none
 | _ => none
def q3j : FuncId → List O → Option (Prop × O) := addT q44 102 e102
def e101 : List O → Option (Prop × O)
 | [.bx 105 [.d (.s s_r), .d (.i .i64 a_r), .d (.i .i64 p_r), .d (.i .i64 e_r)]] => match qch s_r a_r p_r e_r with
   | some r => some (r.pos < r.s.size ∧ quu r.s, .tup [.d (.sl 2 (r.rlist.2.map q0t)), .bx 105 [.d (.s r.rlist.1.s), .d (.i .i64 (r.rlist.1.pos : Int)), .d (.i .i64 r.rlist.1.place), .d (.i .i64 r.rlist.1.err)]])
   | _ => none
 | _ => none
def q3k : FuncId → List O → Option (Prop × O) := addT q3j 101 e101
def e60 : List O → Option (Prop × O)
 | [.bx 105 [.d (.s s_r), .d (.i .i64 a_r), .d (.i .i64 p_r), .d (.i .i64 e_r)]] => match qch s_r a_r p_r e_r with
   | some r => some (r.pos < r.s.size ∧ quu r.s, .tup [.d (q0d r.rpart.2), .bx 105 [.d (.s r.rpart.1.s), .d (.i .i64 (r.rpart.1.pos : Int)), .d (.i .i64 r.rpart.1.place), .d (.i .i64 r.rpart.1.err)]])
   | _ => none
 | _ => none
def q45 : FuncId → List O → Option (Prop × O) := addT q3k 60 e60
def e19 : List O → Option (Prop × O)
 | [.d (.s s)] => some (True, .tup [.d (q08 (qih s).1), .d (.i .i64 (qih s).2.1), .d (.i .i64 (qih s).2.2)])
 | _ => none
def q46 : FuncId → List O → Option (Prop × O) := addT q45 19 e19
def e20 : List O → Option (Prop × O)
 | [.d x_a, .d x_b] => match qbv x_a, qbv x_b with
   | some a, some b => some (q4m a, .d (.b (decide (a = b))))
   | _, _ => none
 | _ => none
def q7c : FuncId → List O → Option (Prop × O) := addT q46 20 e20
def e4 : List O → Option (Prop × O)
 | [.d (.s s)] => some (True, .d (.b true))
 | _ => none
end
end Go.Ev
