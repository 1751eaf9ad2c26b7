/- Tools and contracts under the laws of this seat: DevSemF to DtE4. -/
import Derived.Test.YtlejldoefoppaaaGreatDoorE06
import Derived.Test.YtlejldoefoppaaaGreatDoorProg
import Derived.Shelf.Strings.OnBuilder
import Derived.Shelf.Strings.Search1
import Derived.KernelRfl
import Derived.Test.YtlejldoefoppaaaGreatDoorE00
import Derived.Test.YtlejldoefoppaaaGreatDoorE05
import Derived.Test.YtlejldoefoppaaaGreatDoorE03
import Derived.Laws.IdiomStrings
import Derived.WalkKit
import Derived.WalkSpells
import Derived.Deep.LoopGhost
import Derived.Shelf.Abstract
import Derived.Lib.Replace
import Derived.Lib.Join
import Derived.Shelf.Strings.Replace
import Derived.Lib.SplitLaws
set_option linter.unusedVariables false
set_option linter.unusedSimpArgs false
namespace Go.Ev
open Go.RowKit
def encF : D → Value
 | .b x => .bool x
 | .i k n => .int k n
 | .s x => .string x
 | _ => .bool false
def D.sc : D → Bool
 | .b _ | .i _ _ | .s _ => true
 | _ => false
theorem qro {w : World} {X : Nat → Prop} {v : Value} {d : D} (h : RD w X v d) (hd : d.sc = true) : v = encF d := by
 cases h <;> first | rfl | cases hd
theorem qx2 {w : World} {X : Nat → Prop} : ∀ {d : D}, d.sc = true → RD w X (encF d) d
 | .b _, _ => .b _
 | .i _ _, _ => .i _ _
 | .s _, _ => .s _
theorem qjx : ∀ (l : List D) (vs : List Value), qbj (l.map O.d) vs = []
 | [], vs => by cases vs <;> rfl
 | d :: l, [] => rfl
 | d :: l, v :: vs => by
   show qbj (l.map O.d) vs = []
   exact qjx l vs
theorem qt3 {w : World} {X : Nat → Prop} {v : Value} {d : D} {os : List (Option Nat)} (h : RO w X v (.d d) os) : os = [] ∧ RD w X v d := by
 cases h with
 | d _ _ h => exact ⟨rfl, h⟩
theorem qvu {P : Program} {f : FuncId} {l : List D} {r : D} (hl : l.all D.sc = true) (hr : r.sc = true)
 (h : ∀ w, Calls P f (l.map encF).toArray w fun e w' => e = .returned (encF r) ∧ Below w.heap.size w w') : Sem P f (l.map O.d) (.d r) := by
 intro w vs X os hX hA hd ⟨hn, oss, h1, h2, h3⟩ hgi
 have hvs : vs = (l.map encF).toArray := by
  refine Array.ext (by simpa using hn) fun i hi hi' => ?_
  have hil : i < l.length := by simpa using hi'
  obtain ⟨_, hrd⟩ := qt3 (d := l[i]) (h3 i vs[i] (.d l[i]) (oss[i]'(by rw [h1]; simpa using hil)) (by simp [hi]) (by simp [hil]) (by simp [h1, hil]))
  have := qro hrd (List.all_eq_true.1 hl _ (List.getElem_mem hil))
  simpa using this
 subst hvs
 refine Calls.mono (h w) ?_
 rintro e w' ⟨rfl, hb⟩
 refine ⟨encF r, encF r, [], rfl, ?_, .d _ _ (qx2 hr), ?_, ?_, qom hb⟩
 ·unfold Ret
  rw [qjx]
 ·intro i j b hi; simp at hi
 ·intro b hb'; cases hb'
end Go.Ev
namespace Go.Ev
open Go.Proofs Go.Shelf
def qs5 : Go.Shelf.Ren := ⟨fun | 158 => 127 | 165 => 140 | 166 => 141 | 167 => 142 | 169 => 143 | 230 => 144 | 203 => 145 | 240 => 154 | 241 => 155 | 197 => 156 | 118 => 157 | 168 => 158 | 270 => 159 | 262 => 160 | 276 => 169 | 277 => 170 | 260 => 171 | 242 => 172 | 313 => 173 | 278 => 185 | 274 => 186 | 275 => 187 | n => n, fun | 9 => 9 | 4 => 4 | 3 => 3 | 5 => 5 | 72 => 159 | 0 => 0 | 76 => 163 | 75 => 162 | 107 => 167 | 70 => 157 | 20 => 20 | 37 => 86 | 127 => 174 | 21 => 21 | 105 => 175 | 164 => 183 | 162 => 189 | 203 => 187 | 119 => 200 | 46 => 201 | 139 => 204 | 138 => 203 | 51 => 205 | 160 => 206 | 208 => 224 | 206 => 222 | 80 => 100 | n => n, fun | 13 => 0 | 3 => 2 | 4 => 3 | n => n⟩
theorem layUp : Lays.n158 Tryz.prog qs5 := {
 mixed := by kernel_rfl,
 f118 := Tryz.func157.trans (congrArg some (by kernel_rfl)),
 f158 := Tryz.func127.trans (congrArg some (by kernel_rfl)),
 f165 := Tryz.func140.trans (congrArg some (by kernel_rfl)),
 f166 := Tryz.func141.trans (congrArg some (by kernel_rfl)),
 f167 := Tryz.func142.trans (congrArg some (by kernel_rfl)),
 f168 := Tryz.func158.trans (congrArg some (by kernel_rfl)),
 f169 := Tryz.func143.trans (congrArg some (by kernel_rfl)),
 f197 := Tryz.func156.trans (congrArg some (by kernel_rfl)),
 f203 := Tryz.func145.trans (congrArg some (by kernel_rfl)),
 f230 := Tryz.func144.trans (congrArg some (by kernel_rfl)),
 f240 := Tryz.func154.trans (congrArg some (by kernel_rfl)),
 f241 := Tryz.func155.trans (congrArg some (by kernel_rfl)),
 f242 := Tryz.func172.trans (congrArg some (by kernel_rfl)),
 f260 := Tryz.func171.trans (congrArg some (by kernel_rfl)),
 f262 := Tryz.func160.trans (congrArg some (by kernel_rfl)),
 f270 := Tryz.func159.trans (congrArg some (by kernel_rfl)),
 f274 := Tryz.func186.trans (congrArg some (by kernel_rfl)),
 f275 := Tryz.func187.trans (congrArg some (by kernel_rfl)),
 f276 := Tryz.func169.trans (congrArg some (by kernel_rfl)),
 f277 := Tryz.func170.trans (congrArg some (by kernel_rfl)),
 f278 := Tryz.func185.trans (congrArg some (by kernel_rfl)),
 f313 := Tryz.func173.trans (congrArg some (by kernel_rfl)),
 t0 := Tryz.underlying0,
 a0 := Tryz.isAgg0,
 z0 := Tryz.sizeOf0,
 v0 := Tryz.zeroValue0,
 t3 := Tryz.underlying3,
 a3 := Tryz.isAgg3,
 z3 := Tryz.sizeOf3,
 v3 := Tryz.zeroValue3,
 t4 := Tryz.underlying4,
 a4 := Tryz.isAgg4,
 z4 := Tryz.sizeOf4,
 v4 := Tryz.zeroValue4,
 t5 := Tryz.underlying5,
 a5 := Tryz.isAgg5,
 z5 := Tryz.sizeOf5,
 v5 := Tryz.zeroValue5,
 t9 := Tryz.underlying9,
 a9 := Tryz.isAgg9,
 z9 := Tryz.sizeOf9,
 v9 := Tryz.zeroValue9,
 t20 := Tryz.underlying20,
 a20 := Tryz.isAgg20,
 z20 := Tryz.sizeOf20,
 v20 := Tryz.zeroValue20,
 t21 := Tryz.underlying21,
 a21 := Tryz.isAgg21,
 z21 := Tryz.sizeOf21,
 v21 := Tryz.zeroValue21,
 t37 := Tryz.underlying86,
 a37 := Tryz.isAgg86,
 z37 := Tryz.sizeOf86,
 v37 := Tryz.zeroValue86,
 t46 := Tryz.underlying201,
 a46 := Tryz.isAgg201,
 z46 := Tryz.sizeOf201,
 v46 := Tryz.zeroValue201,
 t51 := Tryz.underlying205,
 a51 := Tryz.isAgg205,
 z51 := Tryz.sizeOf205,
 v51 := Tryz.zeroValue205,
 t70 := Tryz.underlying157,
 a70 := Tryz.isAgg157,
 z70 := Tryz.sizeOf157,
 v70 := Tryz.zeroValue157,
 t72 := Tryz.underlying159,
 a72 := Tryz.isAgg159,
 z72 := Tryz.sizeOf159,
 v72 := Tryz.zeroValue159,
 t75 := Tryz.underlying162,
 a75 := Tryz.isAgg162,
 z75 := Tryz.sizeOf162,
 v75 := Tryz.zeroValue162,
 t76 := Tryz.underlying163,
 a76 := Tryz.isAgg163,
 z76 := Tryz.sizeOf163,
 v76 := Tryz.zeroValue163,
 t105 := Tryz.underlying175,
 a105 := Tryz.isAgg175,
 z105 := Tryz.sizeOf175,
 v105 := Tryz.zeroValue175,
 t107 := Tryz.underlying167,
 a107 := Tryz.isAgg167,
 z107 := Tryz.sizeOf167,
 v107 := Tryz.zeroValue167,
 t119 := Tryz.underlying200,
 a119 := Tryz.isAgg200,
 z119 := Tryz.sizeOf200,
 t127 := Tryz.underlying174,
 a127 := Tryz.isAgg174,
 z127 := Tryz.sizeOf174,
 v127 := Tryz.zeroValue174,
 t138 := Tryz.underlying203,
 a138 := Tryz.isAgg203,
 z138 := Tryz.sizeOf203,
 v138 := Tryz.zeroValue203,
 t139 := Tryz.underlying204,
 a139 := Tryz.isAgg204,
 z139 := Tryz.sizeOf204,
 v139 := Tryz.zeroValue204,
 t160 := Tryz.underlying206,
 a160 := Tryz.isAgg206,
 z160 := Tryz.sizeOf206,
 v160 := Tryz.zeroValue206,
 t162 := Tryz.underlying189,
 a162 := Tryz.isAgg189,
 z162 := Tryz.sizeOf189,
 v162 := Tryz.zeroValue189,
 t164 := Tryz.underlying183,
 a164 := Tryz.isAgg183,
 z164 := Tryz.sizeOf183,
 v164 := Tryz.zeroValue183,
 t203 := Tryz.underlying187,
 a203 := Tryz.isAgg187,
 z203 := Tryz.sizeOf187,
 v203 := Tryz.zeroValue187,
 t206 := Tryz.underlying222,
 a206 := Tryz.isAgg222,
 z206 := Tryz.sizeOf222,
 v206 := Tryz.zeroValue222,
 t208 := Tryz.underlying224,
 a208 := Tryz.isAgg224,
 z208 := Tryz.sizeOf224,
 v208 := Tryz.zeroValue224,
 g3 := by kernel_rfl,
 g4 := by kernel_rfl,
 g13 := by kernel_rfl }
def q1z : Go.Shelf.Ren := ⟨fun | 217 => 188 | 266 => 199 | n => n, fun | 9 => 9 | 5 => 5 | 3 => 3 | n => n, fun n => n⟩
theorem qbbu : Lays.n217 Tryz.prog q1z := {
 mixed := by kernel_rfl,
 f217 := Tryz.func188.trans (congrArg some (by kernel_rfl)),
 f266 := Tryz.func199.trans (congrArg some (by kernel_rfl)),
 t3 := Tryz.underlying3,
 a3 := Tryz.isAgg3,
 z3 := Tryz.sizeOf3,
 v3 := Tryz.zeroValue3,
 t5 := Tryz.underlying5,
 a5 := Tryz.isAgg5,
 z5 := Tryz.sizeOf5,
 v5 := Tryz.zeroValue5,
 t9 := Tryz.underlying9,
 a9 := Tryz.isAgg9,
 z9 := Tryz.sizeOf9,
 v9 := Tryz.zeroValue9 }
theorem q7n : Builder.Extra Tryz.prog qs5 where
 sizeBuilder := by kernel_rfl
 liesBuilder := by kernel_rfl
 t5 := layUp.t5
 a5 := layUp.a5
 z5 := layUp.z5
 v5 := layUp.v5
 infoByte := by kernel_rfl
 cellsByte := by kernel_rfl
 sizeByte := by kernel_rfl
 neB5 := by decide
end Go.Ev
namespace Go.Ev
open Go.Proofs Go.RowKit
theorem q10 {s : ByteArray} (h1 : s.size ≤ 140737488355328) (h2 : ∀ b ∈ s.data.toList, b.toNat < 128) : Sem Tryz.prog 127 [.d (.s s)] (.d (.s ⟨(Lib.toUpperA s.data.toList).toArray⟩)) :=
 qvu (l := [.s s]) (r := .s ⟨(Lib.toUpperA s.data.toList).toArray⟩) rfl rfl fun w =>
  Any.strings_ToUpper_ascii layUp q7n s w h1 fun _ b hb => h2 b (List.mem_of_getElem? hb)
theorem q95 {s : ByteArray} {c : Int} : Sem Tryz.prog 188 [.d (.s s), .d (.i .u8 c)] (.d (.i .i64 (Lib.indexByte s.data.toList c.toNat.toUInt8))) :=
 qvu (l := [.s s, .i .u8 c]) (r := .i .i64 (Lib.indexByte s.data.toList c.toNat.toUInt8)) rfl rfl fun w =>
  Calls.mono (Any.stringslite_IndexByte qbbu s c w) fun _ _ ⟨h1, h2⟩ => ⟨h1, by subst h2; exact Below.refl _ _⟩
def tabS : FuncId → List O → Option O := fun f os => bif Nat.beq f 127 then (match os with
    | [.d (.s x)] => bif Nat.ble x.data.toList.length 140737488355328 && x.data.toList.all (fun b => Nat.blt b.toNat 128) then some (.d (.s ⟨(Lib.toUpperA x.data.toList).toArray⟩)) else none
    | _ => none) else bif Nat.beq f 188 then (match os with
    | [.d (.s x), .d (.i .u8 c)] => some (.d (.i .i64 (Lib.indexByte x.data.toList c.toNat.toUInt8)))
    | _ => none) else none
theorem q7o (f : FuncId) (os : List O) (r : O) (h : tabS f os = some r) : Sem Tryz.prog f os r ∧ qee Tryz.prog f := by
 unfold tabS at h
 cases h1 : Nat.beq f 127 with
 | true =>
   rw [h1] at h
   simp only [cond_true] at h
   have := Nat.eq_of_beq_eq_true h1
   subst this
   split at h
   ·rename_i x
    cases hb : (Nat.ble x.data.toList.length 140737488355328 && x.data.toList.all (fun b => Nat.blt b.toNat 128)) with
    | false => rw [hb] at h; cases h
    | true =>
      rw [hb] at h
      cases h
      rw [Bool.and_eq_true, List.all_eq_true] at hb
      exact ⟨q10 (Nat.le_of_ble_eq_true hb.1) fun b hb' => Nat.le_of_ble_eq_true (hb.2 b hb'), ⟨_, Tryz.func127, rfl, by kernel_rfl⟩⟩
   ·cases h
 | false =>
   rw [h1] at h
   simp only [cond_false] at h
   cases h2 : Nat.beq f 188 with
   | true =>
     rw [h2] at h
     simp only [cond_true] at h
     have := Nat.eq_of_beq_eq_true h2
     subst this
     split at h
     ·cases h
      exact ⟨q95, ⟨_, Tryz.func188, rfl, by kernel_rfl⟩⟩
     ·cases h
   | false => rw [h2] at h; cases h
end Go.Ev
namespace Go.Ev
open Go.Proofs
def qbbv : FuncId → Nat → List (Nat × TypeId × Nat) := fun f j => if f = 52 ∨ f = 53 ∨ f = 54 ∨ f = 55 ∨ f = 95 ∨ f = 97 ∨ f = 98 ∨ f = 128 then (if j = 0 then [(4242, 99, 0)] else []) else if f = 65 ∨ f = 106 then (if j = 0 then [(4242, 112, 0), (5, 71, 1), (6, 4, 1)] else []) else []
def qbbw : FuncId → Nat → List (Nat × TypeId × Nat) := fun f j => if f = 53 ∨ f = 54 then (if j = 0 then [(4242, 99, 0)] else []) else if f = 52 ∨ f = 55 ∨ f = 95 ∨ f = 97 ∨ f = 98 ∨ f = 128 then (if j = 1 then [(4242, 99, 0)] else []) else if f = 65 then (if j = 1 then [(4242, 112, 0), (5, 71, 1), (6, 4, 1)] else []) else if f = 106 then (if j = 2 then [(4242, 112, 0), (5, 71, 1), (6, 4, 1)] else []) else []
def H37 : Hand := ⟨qbbv, qbbw, tabS⟩
theorem q11 : runT Tryz.prog H37 400 24 13 [] = some (True, .d (.b true)) := by kernel_rfl
theorem q12 : Sem Tryz.prog 13 [] (.d (.b true)) := (qna (H := H37) (by kernel_rfl) q7o 24 q11).2.1
end Go.Ev
namespace Go.Ev
open Go.Proofs Go.RowKit
set_option maxHeartbeats 1000000
set_option maxRecDepth 100000
def FoldRow (s : ByteArray) (bk i : Nat) (w : World) : Prop := ∃ cs : Array Value, w.heap[bk]? = some (.cells cs 5 (cs.size, cs.size + 1)) ∧ s.size ≤ cs.size ∧
 ∀ j, j < s.size → cs[j]? = some (.int .u8 (if j < i then ((Go.Lib.upperB (s.data.toList.getD j 0)).toNat : Int) else chr s j))
theorem FoldRow.cell {s : ByteArray} {bk i : Nat} {w : World} (h : FoldRow s bk i w) (hi : i < s.size) : w.cell? ⟨bk, i, none⟩ = some (.int .u8 (chr s i)) ∧ w.frozen? ⟨bk, i, none⟩ = false := by
 obtain ⟨cs, h1, h2, h3⟩ := h
 have := h3 i hi
 rw [if_neg (by omega)] at this
 refine ⟨by unfold World.cell?; simp only [h1]; exact this, ?_⟩
 unfold World.frozen?
 simp only [h1]
 simp
 omega
theorem FoldRow.set {s : ByteArray} {bk i : Nat} {w : World} (h : FoldRow s bk i w) (hi : i < s.size) {v : Int} (hv : v = ((Go.Lib.upperB (s.data.toList.getD i 0)).toNat : Int)) : FoldRow s bk (i + 1) (w.setCell ⟨bk, i, none⟩ (.int .u8 v)) := by
 obtain ⟨cs, h1, h2, h3⟩ := h
 refine ⟨cs.setIfInBounds i (.int .u8 v), ?_, by simpa using h2, fun j hj => ?_⟩
 ·unfold World.setCell
  simp only [Array.getElem?_modify, h1]
  simp
 ·rw [Array.getElem?_setIfInBounds]
  by_cases e : i = j
  ·subst e
   rw [if_pos rfl, if_pos (by omega), if_pos (by omega), hv]
  ·rw [if_neg e, h3 j hj]
   by_cases k : j < i
   ·rw [if_pos k, if_pos (by omega)]
   ·rw [if_neg k, if_neg (by omega)]
theorem FoldRow.skip {s : ByteArray} {bk i : Nat} {w : World} (h : FoldRow s bk i w) (hv : chr s i = ((Go.Lib.upperB (s.data.toList.getD i 0)).toNat : Int)) : FoldRow s bk (i + 1) w := by
 obtain ⟨cs, h1, h2, h3⟩ := h
 refine ⟨cs, h1, h2, fun j hj => ?_⟩
 rw [h3 j hj]
 by_cases e : j = i
 ·subst e
  rw [if_neg (by omega), if_pos (by omega), hv]
 ·by_cases k : j < i
  ·rw [if_pos k, if_pos (by omega)]
  ·rw [if_neg k, if_neg (by omega)]
end Go.Ev
namespace Go.Ev
noncomputable section
open Go.Proofs Ty
set_option maxRecDepth 10000
set_option maxHeartbeats 4000000
theorem q0a {P Q : Prop} (h : P) (e : P = Q := by simp only [Bool.or_eq_true, Bool.and_eq_true, Bool.or_eq_false_iff, Bool.and_eq_false_iff, Bool.not_eq_true', Bool.not_eq_false', Bool.not_eq_true, Bool.not_eq_false, decide_eq_true_eq, decide_eq_false_iff_not, beq_iff_eq, bne_iff_ne, beq_eq_false_iff_ne, bne_eq_false_iff_eq, ne_eq, Int.not_lt, Int.not_le, D.b.injEq, D.i.injEq, D.s.injEq, D.agg.injEq, D.sl.injEq, true_and, and_true, List.cons.injEq, gt_iff_lt, ge_iff_le,  Bool.cond_true_left, Bool.cond_false_right, Bool.cond_true_right, Bool.cond_false_left, qrg, qrh, q5f, q5g, q5d, q5e]; exact rfl) : Q := e.mp h
theorem q07 {P Q : Prop} (q : Q) (e : P = Q := by simp only [Bool.or_eq_true, Bool.and_eq_true, Bool.or_eq_false_iff, Bool.and_eq_false_iff, Bool.not_eq_true', Bool.not_eq_false', Bool.not_eq_true, Bool.not_eq_false, decide_eq_true_eq, decide_eq_false_iff_not, beq_iff_eq, bne_iff_ne, beq_eq_false_iff_ne, bne_eq_false_iff_eq, ne_eq, Int.not_lt, Int.not_le, D.b.injEq, D.i.injEq, D.s.injEq, D.agg.injEq, D.sl.injEq, true_and, and_true, List.cons.injEq, gt_iff_lt, ge_iff_le,  Bool.cond_true_left, Bool.cond_false_right, Bool.cond_true_right, Bool.cond_false_left, qrg, qrh, q5f, q5g, q5d, q5e]; exact rfl) : P := e.mpr q
theorem siQ {P Q : Prop} (q : Q) (e : P = Q := by simp (maxSteps := 1000000) only [go_sem, ↓reduceIte, reduceCtorEq, Nat.reduceEqDiff, Nat.reduceLT, Nat.reduceLeDiff, Nat.reduceMul, Nat.reduceAdd, Nat.reduceSub, reduceDIte, Nat.reduceBEq, Nat.reduceBNe]; exact rfl) : P := e.mpr q
theorem subQ {P Q : Prop} (q : Q) (e : P = Q := by simp (maxSteps := 1000000) only [forall_eq, V.ptr.injEq, V.row.injEq, V.rp.injEq, V.mref.injEq, exists_eq_left', and_assoc, rhoV, qk1, qy3, rhoO, qy4, qpl, rho1, HS.obj?, forall_eq', qm0, qm1, qph, nfL, vs, vss, vds, vd1, os, aget, go_sem, ↓reduceIte, reduceCtorEq, Nat.reduceEqDiff, Nat.reduceLT, Nat.reduceLeDiff, Nat.reduceMul, Nat.reduceAdd, Nat.reduceSub, reduceDIte, Nat.reduceBEq, Nat.reduceBNe]; exact rfl) : P := e.mpr q
theorem inQ {P Q : Prop} (q : Q) (e : P = Q := by simp only [qgl, qc6, inO, inO2, inO1, inOs, List.append_nil, List.nil_append, Nat.mul_zero, List.cons_append, Nat.zero_add, Nat.reduceAdd, Nat.reduceMul, List.length_map, q0k, q0d, q05, qsn, qxp, q63]; exact rfl) : P := e.mpr q
theorem follows : Tryz.prog.follows .mixedOrders = true := by kernel_rfl
def mvs : FuncId → Nat → List (Nat × TypeId × Nat) := fun f => if f = 52 then (fun j => if j = 0 then [(4242, 99, 0)] else []) else if f = 53 then (fun j => if j = 0 then [(4242, 99, 0)] else []) else if f = 54 then (fun j => if j = 0 then [(4242, 99, 0)] else []) else if f = 55 then (fun j => if j = 0 then [(4242, 99, 0)] else []) else if f = 95 then (fun j => if j = 0 then [(4242, 99, 0)] else []) else if f = 97 then (fun j => if j = 0 then [(4242, 99, 0)] else []) else if f = 98 then (fun j => if j = 0 then [(4242, 99, 0)] else []) else if f = 128 then (fun j => if j = 0 then [(4242, 99, 0)] else []) else if f = 59 then (fun j => if j = 0 then [(4242, 105, 0)] else []) else if f = 56 then (fun j => if j = 0 then [(4242, 105, 0)] else []) else if f = 58 then (fun j => if j = 0 then [(4242, 105, 0)] else []) else if f = 102 then (fun j => if j = 0 then [(4242, 105, 0)] else []) else if f = 101 then (fun j => if j = 0 then [(4242, 105, 0)] else []) else if f = 60 then (fun j => if j = 0 then [(4242, 105, 0)] else []) else fun _ => []
def e91 : List O → Option (Prop × O)
 | [.d (.i .i64 n), .d (.i .i64 least), .d (.i .i64 most)] => some (True, .d (.b (decide (least ≤ n) && decide (n ≤ most))))
 | _ => none
def qzc : FuncId → List O → Option (Prop × O) := addT (fun _ _ => none) 91 e91
def e82 : List O → Option (Prop × O)
 | [.d (.b b)] => some (True, .d (.i .i64 (if b = true then 1 else 0)))
 | _ => none
def qzd : FuncId → List O → Option (Prop × O) := addT qzc 82 e82
def e43 : List O → Option (Prop × O)
 | [.d (.i .u8 c)] => some (True, .d (.b (decide (65 ≤ c) && decide (c ≤ 90))))
 | _ => none
def qze : FuncId → List O → Option (Prop × O) := addT qzd 43 e43
def e92 : List O → Option (Prop × O)
 | [.d (.i .u8 c)] => some (True, .d (.b (decide (48 ≤ c) && decide (c ≤ 57))))
 | _ => none
def qzf : FuncId → List O → Option (Prop × O) := addT qze 92 e92
def e99 : List O → Option (Prop × O)
 | [.d (.i .u8 c)] => some (True, .d (.b (decide (97 ≤ c) && decide (c ≤ 122))))
 | _ => none
def qzg : FuncId → List O → Option (Prop × O) := addT qzf 99 e99
def e48 : List O → Option (Prop × O)
 | [.d (.s s)] => some (True, .d (.b (q0l s)))
 | _ => none
def qzh : FuncId → List O → Option (Prop × O) := addT qzg 48 e48
def e87 : List O → Option (Prop × O)
 | [.d (.s s)] => some (True, .d (.b (q0l s)))
 | _ => none
def qzi : FuncId → List O → Option (Prop × O) := addT qzh 87 e87
def e100 : List O → Option (Prop × O)
 | [.d (.i .u8 c)] => some (True, .d (.b (inWq c)))
 | _ => none
def q13 : FuncId → List O → Option (Prop × O) := addT qzi 100 e100
def e13 : List O → Option (Prop × O)
 | [] => some (True, .d (.b true))
 | _ => none
def q5l : FuncId → List O → Option (Prop × O) := addT q13 13 e13
def mkC (n : Nat) (t : FuncId → List O → Option (Prop × O)) : Cfg := ⟨Tryz.prog, n, t, (fun _ _ => []), [], (fun _ => none)⟩
attribute [go_sem] q3e q005 q3f q006 qyv e1_n e1_g quz q008 q007 qw6 qyw q6v q009 q3g aget q1a q1b qyx qbbc q1c qw7 q6w q1d q6x q3h q9d q6y q3i qw8 q3j q6z qu0 q3k qu1 q3l q3m qts q3n qy0 qw9 qy1 q60 q3p V.cells V.one D.one D.cells newObj nm HS.isFree HS.isLive qyt qys List.map_cons List.map_nil Option.bind_some Option.bind_none putL List.cons_append List.nil_append qu4 q1f qy2 qpj qu5 qf7 true_and and_true q01 qb2 cval Option.map_some Option.map_none loadAt storeAt ldV ldD mkAgg V.asD q03 List.take_succ_cons List.take_zero List.drop_succ_cons List.drop_zero List.getElem?_cons_zero List.getElem?_cons_succ List.getElem?_nil List.all_cons List.all_nil Bool.and_true Bool.true_and Bool.and_self List.length_cons List.length_nil vals qbt qc1 argO toD3 toD2 toD1 toDs O.ok O.ok2 O.ok1 O.flat O.flat1 D.flat D.flatA inO inO2 inO1 inOs List.filterMap_nil List.filterMap_cons List.filter_nil List.filter_cons List.nodup_nil decide_true decide_false Bool.not_true Bool.not_false not_true_eq_false not_false_eq_true or_false false_or and_false false_and ne_eq List.append_nil optB qfr qcc beq_self_eq_true List.mapM_cons List.mapM_nil Option.pure_def Option.bind_eq_bind true_or or_true or_self q0t ite_self not_true not_false_iff ite_true ite_false if_true if_false Bool.false_eq_true Bool.true_eq_false List.any_nil List.any_cons List.contains_nil List.contains_cons eq_self qd8 qep qfj qf2 qgu qiu qeo qbc qi7 lenOf binD qlm unD qiv qyz qyy qu2 qfb qfc qxf qln q1e qu3 q3o List.range_zero Nat.zero_le Nat.zero_mul Nat.zero_add Nat.add_zero List.length_append List.take_length List.isEmpty_nil List.isEmpty_cons V.neg List.flatMap_nil and_self List.range_succ forall_const implies_true Nat.not_lt_zero qu6 q1g q3q qpi qhs q3t q1i qdf qcp mvAt q3r q1h q3s ole oles dle dles List.nodup_cons List.mem_cons List.not_mem_nil List.drop_length Nat.le_refl Nat.lt_irrefl id_eq Option.some.injEq Bool.or_false Bool.false_or Bool.or_self Bool.or_true Bool.true_or false_implies Bool.and_false Bool.false_and List.reverse_cons List.reverse_nil sh1 qtt mget qds qcg qhn qmr qms Option.isSome_some Option.isSome_none Bool.cond_true_left Bool.cond_false_right Bool.cond_true_right Bool.cond_false_left beq_true beq_false Bool.not_not imp_self qey notB qlo qd7 qe5 qk0 D.splice kEq Option.toList_some Option.toList_none adel List.getD_cons_zero List.getD_cons_succ qf6 bxId qfn hget one1 qcw qd5
attribute [go_sem] sz3 ag3 zr3 zo3 zd3 by3 sl3 st3 bo3 pt3 ck3 sz5 ag5 zr5 zo5 zd5 by5 sl5 st5 bo5 pt5 ck5 sz4 ag4 zr4 zo4 zd4 by4 sl4 st4 bo4 pt4 sz9 ag9 zr9 zo9 zd9 by9 sl9 un9 st9 bo9 pt9 ck9 sz86 ag86 zr86 zo86 zd86 by86 el86 sl86 un86 st86 bo86 pt86 ck86 sz25 ag25 zr25 zo25 zd25 by25 sl25 st25 bo25 pt25 ck25 qbbd qbbe qbbf qbbg qbbh qbbi qbbj qbbk qbbl qbbm qbbn qbbo sz76 ag76 zr76 zd76 by76 sl76 st76 bo76 pt76 q9m q9n q9o q9p pl76 ek76 sz68 ag68 zr68 zo68 zd68 by68 el68 sl68 un68 st68 bo68 pt68 sz70 ag70 zr70 zd70 by70 sl70 st70 bo70 pt70 q9i q9j q9k q9l pl70 sz31 ag31 zr31 zo31 zd31 by31 el31 sl31 un31 st31 bo31 pt31 sz33 ag33 zr33 zd33 by33 sl33 st33 bo33 pt33 q9e q9f q9g q9h pl33 sz71 ag71 zr71 zo71 zd71 by71 el71 sl71 un71 st71 bo71 pt71 sz99 ag99 zr99 zd99 by99 sl99 st99 bo99 pt99 q9q q9r q9s q9t q9u q9v q9w q9x pl99 ek99 sz97 ag97 zr97 zo97 zd97 by97 sl97 st97 bo97 pt97
end
end Go.Ev
namespace Go.Ev
def qzj (c : CStr) : Prop := c.parts.length ≤ 1000000 ∧ ∀ j, (c.parts.getD j q0b).values.length ≤ 1000000
theorem qdw {l : List CPart} {i : Nat} (h : i < l.length) (z : D) : (l.map q0d).getD i z = q0d (l.getD i q0b) := by
 simp only [List.getD, List.getElem?_map, List.getElem?_eq_getElem h]
 rfl
theorem q7p {a b : CPart} (h1 : a.keyword = b.keyword) (h2 : a.values = b.values) : a = b := by cases a; cases b; simp_all
theorem q96 {a b : CStr} (h1 : a.name = b.name) (h2 : a.parts = b.parts) : a = b := by cases a; cases b; simp_all
theorem qbdi (s : ByteArray) : qkc s = qca s := (q30 s).symm
end Go.Ev
namespace Go.Ev
def fstE : List Int → Int
 | [] => 0
 | e :: r => if ¬ e = 0 then e else fstE r
theorem qlb {α : Type} {l : List α} {i : Nat} (z : α) (h : i < l.length) : l.drop i = l.getD i z :: l.drop (i + 1) := by
 rw [List.drop_eq_getElem_cons h]
 simp only [List.getD, List.getElem?_eq_getElem h, Option.getD_some]
theorem q39 {l : List Int} {i : Nat} (h : fstE (l.drop i) = fstE l) (hi : i < l.length) (h1 : ¬l.getD i 0 = 0) : fstE l = l.getD i 0 := by
 rw [← h, qlb 0 hi, fstE, if_pos h1]
theorem q7q {l : List Int} {i : Nat} (h : fstE (l.drop i) = fstE l) (hi : i < l.length) (h1 : l.getD i 0 = 0) : fstE (l.drop (i + 1)) = fstE l := by
 rw [qlb 0 hi, fstE, if_neg (fun e => e h1)] at h; exact h
theorem q4a {l : List Int} {i : Nat} (h : fstE (l.drop i) = fstE l) (hi : l.length ≤ i) : fstE l = 0 := by
 rw [← h, List.drop_of_length_le hi]; rfl
def atE (f : Nat → Int) (n : Nat) : Option Nat := (List.range n).find? fun i => !decide (f i = 0)
def errN (f : Nat → Int) (n : Nat) : Int := match atE f n with | some i => f i | none => 0
theorem q97 {f : Nat → Int} {n i : Nat} (hi : i < n) (h : ¬ f i = 0) (hb : ∀ j, j < i → f j = 0) : atE f n = some i := by
 unfold atE
 rw [List.find?_eq_some_iff_append]
 refine ⟨by simp [h], List.range i, (List.range (n - i - 1)).map (· + (i + 1)), ?_, fun a ha => by simp [hb a (by simpa using ha)]⟩
 apply List.ext_getElem
 ·simp; omega
 ·intro k h1 h2
  simp only [List.getElem_range]
  by_cases e : k < i
  ·rw [List.getElem_append_left (by simpa using e)]; simp
  ·rw [List.getElem_append_right (by simpa using e)]
   by_cases e2 : k = i
   ·subst e2; simp
   ·have : k - (List.range i).length = (k - i - 1) + 1 := by simp; omega
    simp only [this, List.getElem_cons_succ, List.getElem_map, List.getElem_range]; omega
theorem q98 {f : Nat → Int} {n : Nat} (hb : ∀ j, j < n → f j = 0) : atE f n = none := by
 unfold atE
 rw [List.find?_eq_none]
 intro x hx
 simp [hb x (by simpa using hx)]
theorem qis {f : Nat → Int} {n i : Nat} (hi : i < n) (h : ¬ f i = 0) (hb : ∀ j, j < i → f j = 0) : errN f n = f i := by unfold errN; rw [q97 hi h hb]
theorem qit {f : Nat → Int} {n : Nat} (hb : ∀ j, j < n → f j = 0) : errN f n = 0 := by unfold errN; rw [q98 hb]
theorem qhg {f : Nat → Int} {i : Nat} (hb : ∀ j, j < i → f j = 0) (h : f i = 0) : ∀ j, j < i + 1 → f j = 0 := fun j hj => by
 by_cases e : j = i
 ·subst e; exact h
 ·exact hb j (by omega)
def hasP (p : Int → Bool) (l : List Int) : Bool := decide (0 ≤ idxP p l)
def hasC (p : Int → Bool) (s : ByteArray) : Bool := hasP p (qeh s)
theorem qrp {p : Int → Bool} {s : ByteArray} {i : Nat} (hi : i < s.size) (h : p (chr s i) = true) : hasC p s = true := by
 unfold hasC hasP idxP
 cases e : (qeh s).findIdx? p with
 | some k => simp
 | none =>
   rw [List.findIdx?_eq_none_iff] at e
   have := e ((qeh s).getD i 0) (qiz 0 (by rw [qe2]; exact hi))
   rw [qig, h] at this; cases this
theorem qrq {p : Int → Bool} {s : ByteArray} (hb : ∀ j, j < s.size → p (chr s j) = false) : hasC p s = false := by
 unfold hasC hasP
 rw [qkb fun j hj => by rw [qe2] at hj; rw [qig]; exact hb j hj]; rfl
theorem qqj {p : Int → Bool} {s : ByteArray} (h : hasC p s = false) {i : Nat} (hi : i < s.size) : p (chr s i) = false := by
 cases e : p (chr s i) with
 | false => rfl
 | true => rw [qrp hi e] at h; cases h
def qbh (c : Int) : Bool := decide (c ≤ 32) || decide (126 < c) || decide (c = 40) || decide (c = 41) || decide (c = 39) || (decide (97 ≤ c) && decide (c ≤ 122))
def qdo (s : ByteArray) : Bool := !hasC badC s
def qde (s : ByteArray) : Bool := !hasC qbh s
def qes (s : ByteArray) : Bool := !decide (s = ⟨#[]⟩) && decide (s.size ≤ 64) && qde s
def vErr (v : CVal) : Int := fstE [if v.kind < 0 ∨ 1 < v.kind then 4 else 0, if v.kind = 0 ∧ v.text = ⟨#[]⟩ then 1 else 0, if 64 < (v.text.size : Int) then 2 else 0, if v.kind = 0 ∧ qde v.text = false ∨ qdo v.text = false then 5 else 0]
def qdh (p : CPart) : Int := fstE [if ¬p.keyword = ⟨#[]⟩ ∧ q0l p.keyword = false then 7 else 0, if (p.values.length : Int) = 0 then 1 else 0, if 10 < (p.values.length : Int) then 2 else 0]
def pErr (p : CPart) : Int := if ¬ qdh p = 0 then qdh p else errN (fun k => vErr (p.values.getD k qbi)) p.values.length
def qf1 (c : CStr) : Int := fstE [if q0l c.name = false then 7 else 0, if 12 < (c.parts.length : Int) then 2 else 0]
def cErr (c : CStr) : Int := if ¬ qf1 c = 0 then qf1 c else errN (fun k => pErr (c.parts.getD k q0b)) c.parts.length
theorem qci {e : Int} {r : List Int} (h : fstE (e :: r) = 0) : e = 0 ∧ fstE r = 0 := by
 unfold fstE at h
 split at h
 ·exact absurd h ‹_›
 ·exact ⟨Classical.not_not.1 ‹_›, h⟩
theorem qe3 {p : Prop} [Decidable p] {x : Int} (h : (if p then x else 0) = 0) (hx : ¬ x = 0) : ¬ p := fun k => hx (by rw [if_pos k] at h; exact h)
theorem qih {p : Prop} [Decidable p] {x : Int} {r : List Int} (k : p) (hx : ¬ x = 0) : fstE ((if p then x else 0) :: r) = x := by rw [if_pos k]; exact if_pos hx
theorem qdr {p : Prop} [Decidable p] {x : Int} {r : List Int} (k : ¬ p) : fstE ((if p then x else 0) :: r) = fstE r := by rw [if_neg k]; exact if_neg (fun k => k rfl)
theorem q7r (v : CVal) : fstE [if v.kind < 0 ∨ 1 < v.kind then 4 else 0, if v.kind = 0 ∧ v.text = ⟨#[]⟩ then 1 else 0, if 64 < (v.text.size : Int) then 2 else 0, if v.kind = 0 ∧ qde v.text = false ∨ qdo v.text = false then 5 else 0] = vErr v := rfl
theorem q4b (p : CPart) : fstE [if ¬p.keyword = ⟨#[]⟩ ∧ q0l p.keyword = false then 7 else 0, if (p.values.length : Int) = 0 then 1 else 0, if 10 < (p.values.length : Int) then 2 else 0] = qdh p := rfl
theorem q4c (c : CStr) : fstE [if q0l c.name = false then 7 else 0, if 12 < (c.parts.length : Int) then 2 else 0] = qf1 c := rfl
theorem qgy {p : CPart} (h : ¬ qdh p = 0) : pErr p = qdh p := if_pos h
theorem qqk {p : CPart} (h : qdh p = 0) : pErr p = errN (fun k => vErr (p.values.getD k qbi)) p.values.length := if_neg (fun k => k h)
theorem qmg {c : CStr} (h : ¬ qf1 c = 0) : cErr c = qf1 c := if_pos h
theorem qql {c : CStr} (h : qf1 c = 0) : cErr c = errN (fun k => pErr (c.parts.getD k q0b)) c.parts.length := if_neg (fun k => k h)
theorem q5m (l : List Int) : decL 1 (decI .u8) (.sl 1 (l.map (D.i .u8))) = some l := qg9 (qu7 .u8) l
theorem q14 (l : List Int) (k : Nat) : (l.map (D.i .i64)).getD k (.i .i64 0) = .i .i64 (l.getD k 0) := by
 simp only [List.getD, List.getElem?_map]
 cases l[k]? <;> rfl
def chS (n : UInt8) : ByteArray := ⟨#[n]⟩
def dblL : List UInt8 → List UInt8
 | [] => []
 | b :: l => if b = 39 then 39 :: 39 :: dblL l else b :: dblL l
def writ (v : CVal) : ByteArray := if v.kind = 0 then v.text else ⟨(39 :: (dblL v.text.data.toList ++ [39])).toArray⟩
def spJ (l : List ByteArray) : ByteArray := ⟨(Go.Lib.join (l.map (·.data.toList)) [32]).toArray⟩
def qbv (p : CPart) : ByteArray := if p.keyword = ⟨#[]⟩ ∧ p.values.length = 1 then spJ (p.values.map writ) else p.keyword ++ chS 40 ++ spJ (p.values.map writ) ++ chS 41
def comL (s : ByteArray) (l : List CPart) : ByteArray := l.foldl (fun s p => s ++ (chS 32 ++ qbv p)) s
def comT (c : CStr) : ByteArray := comL c.name c.parts
def qf9 (v : CVal) : Prop := v.text.size ≤ 1000000
def qvv (p : CPart) : Prop := p.values.length ≤ 1000000 ∧ ∀ k, qf9 (p.values.getD k qbi)
def okC (c : CStr) : Prop := c.parts.length ≤ 1000000 ∧ ∀ i, qvv (c.parts.getD i q0b)
theorem qnb {c : CStr} (h : okC c) : qzj c := ⟨h.1, fun j => (h.2 j).1⟩
def bigV (p : CPart) (k : Nat) : Int := if 100 < (p.values.getD k qbi).text.size then 1 else 0
def bigP (c : CStr) (i : Nat) : Int := if 11 < (c.parts.getD i q0b).values.length then 1 else errN (bigV (c.parts.getD i q0b)) (c.parts.getD i q0b).values.length
def fewS (c : CStr) : Bool := decide (c.parts.length ≤ 13) && decide (errN (bigP c) c.parts.length = 0)
theorem qjm {f : Nat → Int} {n : Nat} (h : errN f n = 0) : ∀ i, i < n → f i = 0 := by
 unfold errN at h
 cases e : atE f n with
 | none =>
   intro i hi
   unfold atE at e
   rw [List.find?_eq_none] at e
   simpa using e i (by simpa using hi)
 | some i =>
   rw [e] at h
   unfold atE at e
   have := List.find?_some e
   simp [h] at this
theorem qlc {α : Type} {l : List α} {i : Nat} (z : α) (h : l.length ≤ i) : l.getD i z = z := by
 simp only [List.getD]; rw [List.getElem?_eq_none h]; rfl
theorem qqm {c : CStr} (h : fewS c = true) : okC c := by
 unfold fewS at h
 rw [Bool.and_eq_true, decide_eq_true_eq, decide_eq_true_eq] at h
 refine ⟨by omega, fun i => ?_⟩
 by_cases hi : i < c.parts.length
 ·have h1 := qjm h.2 i hi
  unfold bigP at h1
  split at h1
  ·cases h1
  ·refine ⟨by omega, fun k => ?_⟩
   by_cases hk : k < (c.parts.getD i q0b).values.length
   ·have h2 := qjm h1 k hk
    unfold bigV at h2
    split at h2
    ·cases h2
    ·unfold qf9; omega
   ·rw [qlc _ (by omega)]; simp [qf9, qbi]; decide
 ·rw [qlc _ (by omega)]
  exact ⟨by simp [q0b], fun k => by simp [q0b, qf9, qbi]; decide⟩
end Go.Ev
namespace Go.Ev
theorem qcu {a b : ByteArray} (h : a.data.toList = b.data.toList) : a = b := by
 apply ByteArray.ext; exact Array.ext' h
theorem qc4 (a b : ByteArray) : (a ++ b).data.toList = a.data.toList ++ b.data.toList := by rw [ByteArray.data_append, Array.toList_append]
theorem q7s (a : ByteArray) : a.size = a.data.toList.length := rfl
theorem qqn (l : List UInt8) : (⟨l.toArray⟩ : ByteArray).data.toList = l := rfl
theorem q15 (l : List UInt8) : (⟨l.toArray⟩ : ByteArray).size = l.length := rfl
theorem qbbx (a : ByteArray) : (⟨#[]⟩ : ByteArray) ++ a = a := qcu (by rw [qc4]; rfl)
theorem qld (a b : ByteArray) : (a ++ b).size = a.size + b.size := by simp only [q7s, qc4, List.length_append]
theorem qkm (n : UInt8) : (⟨#[n]⟩ : ByteArray).size = 1 := rfl
theorem qrr (l : List UInt8) : (dblL l).length ≤ 2 * l.length := by
 induction l with
 | nil => exact Nat.le_refl _
 | cons b l ih =>
   unfold dblL
   split
   ·simp only [List.length_cons]; omega
   ·simp only [List.length_cons]; omega
theorem qvw (a b : List UInt8) : dblL (a ++ b) = dblL a ++ dblL b := by
 induction a with
 | nil => rfl
 | cons x a ih =>
   simp only [List.cons_append, dblL, ih]
   split <;> simp
theorem qdp {v : CVal} (h : vErr v = 0) : (v.kind = 0 ∨ v.kind = 1) ∧ v.text.size ≤ 64 := by
 obtain ⟨h1, h⟩ := qci h
 obtain ⟨h2, h⟩ := qci h
 obtain ⟨h3, h⟩ := qci h
 have h1 := qe3 h1 (by decide)
 have h3 := qe3 h3 (by decide)
 omega
theorem q99 {v : CVal} (h : ¬ v.kind = 0) : writ v = ⟨#[39]⟩ ++ ⟨(dblL v.text.data.toList).toArray⟩ ++ ⟨#[39]⟩ := by
 unfold writ
 rw [if_neg h]
 apply qcu
 simp only [qc4]
 rfl
theorem qs6 {v : CVal} (h : vErr v = 0) : (writ v).size ≤ 130 := by
 have h1 := (qdp h).2
 have h2 := qrr v.text.data.toList
 have h3 : v.text.data.toList.length = v.text.size := rfl
 unfold writ
 split
 ·omega
 ·rw [q15]; simp only [List.length_cons, List.length_append, List.length_nil]; omega
theorem q7t : spJ [] = ⟨#[]⟩ := rfl
theorem qnc (x : ByteArray) : spJ [x] = x := by
 unfold spJ; rw [List.map_cons, List.map_nil, Go.Lib.join_one]
theorem q4d {l : List ByteArray} (x : ByteArray) (h : l ≠ []) : spJ (l ++ [x]) = spJ l ++ ⟨#[32]⟩ ++ x := by
 cases l with
 | nil => exact absurd rfl h
 | cons a l =>
   apply qcu
   simp only [qc4]
   unfold spJ
   simp only [qqn, List.cons_append, List.map_cons, List.map_append, List.map_nil, Go.Lib.join_cons, Go.Lib.joinTail, List.flatten_append, List.flatten_cons, List.flatten_nil, List.append_nil, List.append_assoc]
theorem q4e {B : Nat} : ∀ (l : List ByteArray), (∀ x ∈ l, x.size ≤ B) → (spJ l).size ≤ l.length * (B + 1) := by
 have key : ∀ (l : List ByteArray), (∀ x ∈ l, x.size ≤ B) → (Go.Lib.joinTail [32] (l.map (·.data.toList))).length ≤ l.length * (B + 1) := by
  intro l
  induction l with
  | nil => intro _; exact Nat.zero_le _
  | cons a l ih =>
    intro h
    have h1 := ih fun x hx => h x (by simp [hx])
    have h2 := h a (by simp)
    simp only [Go.Lib.joinTail, List.map_cons, List.flatten_cons, List.length_append, List.length_cons, List.length_nil] at h1 ⊢
    have h3 : a.data.toList.length = a.size := rfl
    rw [Nat.succ_mul]
    omega
 intro l h
 cases l with
 | nil => exact Nat.zero_le _
 | cons a l =>
   unfold spJ
   rw [q15, List.map_cons, Go.Lib.join_cons, List.length_append]
   have h1 := key l fun x hx => h x (by simp [hx])
   have h2 := h a (by simp)
   have h3 : a.data.toList.length = a.size := rfl
   rw [List.length_cons, Nat.succ_mul]
   omega
theorem qjy {s : ByteArray} (h : q0l s = true) : 1 ≤ s.size ∧ s.size ≤ 10 := by
 unfold q0l at h
 simp only [Bool.and_eq_true, decide_eq_true_eq] at h
 exact h.1
theorem qgz {p : CPart} (h : pErr p = 0) : p.keyword.size ≤ 10 ∧ 1 ≤ p.values.length ∧ p.values.length ≤ 10 ∧ ∀ k, k < p.values.length → vErr (p.values.getD k qbi) = 0 := by
 have hh : qdh p = 0 := by
  by_cases e : qdh p = 0
  ·exact e
  ·rw [qgy e] at h; exact absurd h e
 rw [qqk hh] at h
 obtain ⟨h1, hh⟩ := qci hh
 obtain ⟨h2, hh⟩ := qci hh
 obtain ⟨h3, hh⟩ := qci hh
 have h1 := qe3 h1 (by decide)
 have h2 := qe3 h2 (by decide)
 have h3 := qe3 h3 (by decide)
 refine ⟨?_, by omega, by omega, qjm h⟩
 by_cases e : p.keyword = ⟨#[]⟩
 ·rw [e]; decide
 ·cases n : q0l p.keyword with
  | true => exact (qjy n).2
  | false => exact absurd ⟨e, n⟩ h1
theorem qi3 {c : CStr} (h : cErr c = 0) : c.name.size ≤ 10 ∧ c.parts.length ≤ 12 ∧ ∀ i, i < c.parts.length → pErr (c.parts.getD i q0b) = 0 := by
 have hh : qf1 c = 0 := by
  by_cases e : qf1 c = 0
  ·exact e
  ·rw [qmg e] at h; exact absurd h e
 rw [qql hh] at h
 obtain ⟨h1, hh⟩ := qci hh
 obtain ⟨h2, hh⟩ := qci hh
 have h1 := qe3 h1 (by decide)
 have h2 := qe3 h2 (by decide)
 exact ⟨(qjy (by simpa using h1)).2, by omega, qjm h⟩
theorem qhh {α : Type} {l : List α} {x : α} (z : α) (h : x ∈ l) : ∃ k, k < l.length ∧ l.getD k z = x := by
 obtain ⟨k, hk, e⟩ := List.getElem_of_mem h
 exact ⟨k, hk, by simp only [List.getD]; rw [List.getElem?_eq_getElem hk]; exact e⟩
theorem qle {p : CPart} (h : pErr p = 0) {n : Nat} : (spJ ((p.values.take n).map writ)).size ≤ 1310 := by
 obtain ⟨_, _, h3, h4⟩ := qgz h
 have := q4e (B := 130) ((p.values.take n).map writ) fun x hx => by
  obtain ⟨v, hv, rfl⟩ := List.mem_map.1 hx
  obtain ⟨k, hk, e⟩ := qhh qbi (List.mem_of_mem_take hv)
  exact qs6 (by rw [← e]; exact h4 k hk)
 rw [List.length_map, List.length_take] at this
 have h5 : min n p.values.length * (130 + 1) ≤ 10 * 131 := Nat.mul_le_mul_right _ (by omega)
 omega
theorem qqo {p : CPart} (h : pErr p = 0) : (qbv p).size ≤ 1322 := by
 have h1 := qle h (n := p.values.length)
 rw [List.take_length] at h1
 have h2 := (qgz h).1
 unfold qbv
 split
 ·omega
 ·simp only [qld, chS, qkm]; omega
theorem q16 (s : ByteArray) (l : List CPart) (p : CPart) : comL s (l ++ [p]) = comL s l ++ (⟨#[32]⟩ ++ qbv p) := by unfold comL; rw [List.foldl_append]; rfl
theorem qs7 : ∀ (l : List CPart) (s : ByteArray), (∀ p ∈ l, pErr p = 0) → (comL s l).size ≤ s.size + l.length * 1323
 | [], s, _ => Nat.le_refl _
 | p :: l, s, h => by
   have h1 := qs7 l (s ++ (chS 32 ++ qbv p)) fun q hq => h q (by simp [hq])
   have h2 := qqo (h p (by simp))
   simp only [qld, chS, qkm] at h1
   rw [List.length_cons, Nat.succ_mul]
   show (comL (s ++ (chS 32 ++ qbv p)) l).size ≤ _
   simp only [chS]
   omega
theorem qej {α : Type} {l : List α} {i : Nat} (z : α) (h : i < l.length) : l.take (i + 1) = l.take i ++ [l.getD i z] := by
 rw [List.take_add_one]
 simp only [List.getD]; rw [List.getElem?_eq_getElem h]; rfl
theorem qmh {c : CStr} (h : cErr c = 0) {i : Nat} : (comL c.name (c.parts.take i)).size ≤ 20000 := by
 obtain ⟨h1, h2, h3⟩ := qi3 h
 have := qs7 (c.parts.take i) c.name fun p hp => by
  obtain ⟨k, hk, e⟩ := qhh q0b (List.mem_of_mem_take hp)
  rw [← e]; exact h3 k hk
 rw [List.length_take] at this
 have h5 : min i c.parts.length * 1323 ≤ 12 * 1323 := Nat.mul_le_mul_right _ (by omega)
 omega
theorem q7u (l : List ByteArray) : decL 1 decS (.sl 1 (l.map D.s)) = some l := qg9 q3v l
theorem q7v {α β : Type} (f : β → D) (g : α → β) (L : List α) : List.take L.length (List.map f (List.map g L)) = List.map f (List.map g L) := qdk _ _ (by rw [List.length_map, List.length_map])
theorem qx3 {α : Type} (f : α → D) (L : List α) : List.take L.length (List.map f L) = List.map f L := qdk _ _ (by rw [List.length_map])
theorem sz32 : (#[32] : Array UInt8).size = 1 := rfl
theorem sz40 : (#[40] : Array UInt8).size = 1 := rfl
theorem sz41 : (#[41] : Array UInt8).size = 1 := rfl
theorem qx4 {p : CPart} (h : p.keyword = ⟨#[]⟩ ∧ (p.values.length : Int) = 1) : qbv p = spJ (p.values.map writ) := if_pos ⟨h.1, by omega⟩
theorem qx5 {p : CPart} (h : ¬p.keyword = ⟨#[]⟩ ∨ ¬(p.values.length : Int) = 1) : qbv p = p.keyword ++ ⟨#[40]⟩ ++ spJ (p.values.map writ) ++ ⟨#[41]⟩ := if_neg (by rintro ⟨h1, h2⟩; rcases h with h | h; exact h h1; omega)
theorem q7w {v : CVal} (h : vErr v = 0) : (dblL v.text.data.toList).length ≤ 128 := by
 have h1 := (qdp h).2
 have h2 := qrr v.text.data.toList
 have h3 : v.text.data.toList.length = v.text.size := rfl
 omega
theorem qs8 {p : CPart} {i : Nat} (h : i < p.values.length) : ((p.values.take (i + 1)).map writ).map D.s = ((p.values.take i).map writ).map D.s ++ [D.s (writ (p.values.getD i qbi))] := by
 rw [qej qbi h, List.map_append, List.map_append]; rfl
theorem qbaa {v : CVal} (h : vErr v = 0) (k : ¬ v.kind = 1) : writ v = v.text := if_pos (by have := (qdp h).1; omega)
theorem q7x {v : CVal} (k : v.kind = 1) : writ v = ⟨#[39]⟩ ++ ⟨(dblL v.text.data.toList).toArray⟩ ++ ⟨#[39]⟩ := q99 (by omega)
theorem q4f {s : ByteArray} {i : Nat} (hi : i < s.size) (h : qbh (chr s i) = true) : qes s = false := by
 unfold qes qde; rw [qrp hi h]; simp
theorem q17 {s : ByteArray} (hb : ∀ j, j < s.size → qbh (chr s j) = false) : qes s = (decide (1 ≤ (s.size : Int)) && decide ((s.size : Int) ≤ 64)) := by
 unfold qes qde
 rw [qrq hb, Bool.eq_iff_iff]
 have := qoc s
 simp only [Bool.and_eq_true, Bool.not_eq_true', decide_eq_true_eq, decide_eq_false_iff_not, Bool.not_false, and_true]
 rw [this]
 omega
theorem q4g {s : ByteArray} (h : 64 < s.size) : qes s = false := by unfold qes; rw [decide_eq_false (by omega : ¬ s.size ≤ 64)]; simp
theorem qvx {c : Int} : qbh c = true ↔ (inWq c = false ∨ (97 ≤ c ∧ c ≤ 122)) := by unfold qbh inWq; simp; omega
theorem qx6 {s : ByteArray} (h1 : ¬ s = ⟨#[]⟩) (h2 : (s.size : Int) ≤ 64) : qes s = qde s := by
 unfold qes; rw [decide_eq_false h1, decide_eq_true (by omega : s.size ≤ 64)]; simp
section
variable {v : CVal}
theorem qbab (h : v.kind < 0 ∨ 1 < v.kind) : vErr v = 4 := qih h (by decide)
theorem qbac (h1 : ¬ (v.kind < 0 ∨ 1 < v.kind)) (h : v.kind = 0 ∧ v.text = ⟨#[]⟩) : vErr v = 1 := (qdr h1).trans (qih h (by decide))
theorem qbad (h1 : ¬ (v.kind < 0 ∨ 1 < v.kind)) (h2 : ¬ (v.kind = 0 ∧ v.text = ⟨#[]⟩)) (h : 64 < (v.text.size : Int)) : vErr v = 2 := (qdr h1).trans ((qdr h2).trans (qih h (by decide)))
theorem q18 (h1 : ¬ (v.kind < 0 ∨ 1 < v.kind)) (h2 : ¬ (v.kind = 0 ∧ v.text = ⟨#[]⟩)) (h3 : ¬ 64 < (v.text.size : Int)) (h : v.kind = 0 ∧ qde v.text = false ∨ qdo v.text = false) : vErr v = 5 := (qdr h1).trans ((qdr h2).trans ((qdr h3).trans (qih h (by decide))))
theorem qvy (h1 : ¬ (v.kind < 0 ∨ 1 < v.kind)) (h2 : ¬ (v.kind = 0 ∧ v.text = ⟨#[]⟩)) (h3 : ¬ 64 < (v.text.size : Int)) (h : ¬ (v.kind = 0 ∧ qde v.text = false ∨ qdo v.text = false)) : vErr v = 0 := (qdr h1).trans ((qdr h2).trans ((qdr h3).trans (qdr h)))
end
theorem q4h {s : ByteArray} {i : Nat} (hi : i < s.size) (h : badC (chr s i) = true) : qdo s = false := by unfold qdo; rw [qrp hi h]; rfl
theorem qmi {s : ByteArray} (hb : ∀ j, j < s.size → badC (chr s j) = false) : qdo s = true := by unfold qdo; rw [qrq hb]; rfl
section
variable {p : CPart}
theorem qbae (h : ¬p.keyword = ⟨#[]⟩ ∧ q0l p.keyword = false) : pErr p = 7 := by
 have : qdh p = 7 := qih h (by decide)
 rw [qgy (by rw [this]; decide), this]
theorem qbaf (h1 : ¬ (¬p.keyword = ⟨#[]⟩ ∧ q0l p.keyword = false)) (h : (p.values.length : Int) = 0) : pErr p = 1 := by
 have : qdh p = 1 := (qdr h1).trans (qih h (by decide))
 rw [qgy (by rw [this]; decide), this]
theorem qbag (h1 : ¬ (¬p.keyword = ⟨#[]⟩ ∧ q0l p.keyword = false)) (h2 : ¬ (p.values.length : Int) = 0) (h : 10 < (p.values.length : Int)) : pErr p = 2 := by
 have : qdh p = 2 := (qdr h1).trans ((qdr h2).trans (qih h (by decide)))
 rw [qgy (by rw [this]; decide), this]
theorem qx7 (h1 : ¬ (¬p.keyword = ⟨#[]⟩ ∧ q0l p.keyword = false)) (h2 : ¬ (p.values.length : Int) = 0) (h : ¬ 10 < (p.values.length : Int)) : qdh p = 0 := (qdr h1).trans ((qdr h2).trans (qdr h))
end
section
variable {c : CStr}
theorem qbah (h : q0l c.name = false) : cErr c = 7 := by
 have : qf1 c = 7 := qih h (by decide)
 rw [qmg (by rw [this]; decide), this]
theorem qbai (h1 : ¬ q0l c.name = false) (h : 12 < (c.parts.length : Int)) : cErr c = 2 := by
 have : qf1 c = 2 := (qdr h1).trans (qih h (by decide))
 rw [qmg (by rw [this]; decide), this]
theorem qx8 (h1 : ¬ q0l c.name = false) (h : ¬ 12 < (c.parts.length : Int)) : qf1 c = 0 := (qdr h1).trans (qdr h)
theorem qbaj {i : Nat} (h1 : ¬ q0l c.name = false) (h : ¬ 12 < (c.parts.length : Int)) (hi : i < c.parts.length) (hb : ∀ j, j < i → pErr (c.parts.getD j q0b) = 0) (he : ¬ pErr (c.parts.getD i q0b) = 0) : cErr c = pErr (c.parts.getD i q0b) := by
 rw [qql (qx8 h1 h), qis (f := fun k => pErr (c.parts.getD k q0b)) hi he hb]
theorem q19 (h1 : ¬ q0l c.name = false) (h : ¬ 12 < (c.parts.length : Int)) (hb : ∀ j, j < c.parts.length → pErr (c.parts.getD j q0b) = 0) : cErr c = 0 := by
 rw [qql (qx8 h1 h), qit hb]
end
theorem nn7 {p : CPart} (h : p.keyword = ⟨#[]⟩ ∨ q0l p.keyword = true) : ¬ (¬p.keyword = ⟨#[]⟩ ∧ q0l p.keyword = false) := by
 rintro ⟨a, b⟩; rcases h with h | h
 ·exact a h
 ·rw [h] at b; cases b
section
variable {v : CVal} {s : ByteArray}
theorem nv1 (h : 0 ≤ v.kind ∧ v.kind ≤ 1) : ¬ (v.kind < 0 ∨ 1 < v.kind) := by omega
theorem nv2 (h : ¬v.kind = 0 ∨ ¬v.text = ⟨#[]⟩) : ¬ (v.kind = 0 ∧ v.text = ⟨#[]⟩) := by rintro ⟨a, b⟩; rcases h with h | h; exact h a; exact h b
theorem vE1 (h : v.kind = 0 ∧ v.text = ⟨#[]⟩) : vErr v = 1 := qbac (by omega) h
theorem vE2 (h1 : 0 ≤ v.kind ∧ v.kind ≤ 1) (h2 : ¬v.kind = 0 ∨ ¬v.text = ⟨#[]⟩) (h : 64 < (v.text.size : Int)) : vErr v = 2 := qbad (nv1 h1) (nv2 h2) h
theorem vE5w (h1 : 0 ≤ v.kind ∧ v.kind ≤ 1) (h2 : ¬v.kind = 0 ∨ ¬v.text = ⟨#[]⟩) (h3 : (v.text.size : Int) ≤ 64) (h : v.kind = 0 ∧ qes v.text = false) : vErr v = 5 :=
 q18 (nv1 h1) (nv2 h2) (by omega) (.inl ⟨h.1, by rw [← qx6 (by rcases h2 with h2 | h2; exact absurd h.1 h2; exact h2) h3]; exact h.2⟩)
theorem vE5s {i : Nat} (h1 : 0 ≤ v.kind ∧ v.kind ≤ 1) (h2 : ¬v.kind = 0 ∨ ¬v.text = ⟨#[]⟩) (h3 : (v.text.size : Int) ≤ 64) (hi : (i : Int) < (v.text.size : Int)) (h : chr v.text i < 32 ∨ 126 < chr v.text i) : vErr v = 5 :=
 q18 (nv1 h1) (nv2 h2) (by omega) (.inr (q4h (i := i) (by omega) (by unfold badC; simp; omega)))
theorem vEz {i : Nat} (h1 : 0 ≤ v.kind ∧ v.kind ≤ 1) (h2 : ¬v.kind = 0 ∨ ¬v.text = ⟨#[]⟩) (h3 : (v.text.size : Int) ≤ 64) (h4 : ¬v.kind = 0 ∨ qes v.text = true) (hi : (v.text.size : Int) ≤ (i : Int)) (hb : ∀ j, j < i → badC (chr v.text j) = false) : vErr v = 0 := by
 refine qvy (nv1 h1) (nv2 h2) (by omega) ?_
 rintro (⟨a, b⟩ | b)
 ·have e : ¬ v.text = ⟨#[]⟩ := by rcases h2 with h2 | h2; exact absurd a h2; exact h2
  rw [← qx6 e h3] at b
  rcases h4 with h4 | h4
  ·exact h4 a
  ·rw [h4] at b; cases b
 ·rw [qmi fun j hj => hb j (by omega)] at b; cases b
theorem qt4 {c : Int} (h : 32 ≤ c ∧ c ≤ 126) : badC c = false := by unfold badC; simp; omega
theorem q5n {p : Int → Bool} {i : Nat} (hb : ∀ j, j < i → p (chr s j) = false) (h : p (chr s i) = false) : ∀ j, j < i + 1 → p (chr s j) = false := fun j hj => by
 by_cases e : j = i
 ·subst e; exact h
 ·exact hb j (by omega)
end
section
variable {c : CStr} {p : CPart}
theorem cE2 (h1 : q0l c.name = true) (h : 12 < (c.parts.length : Int)) : cErr c = 2 := qbai (by rw [h1]; decide) h
theorem cEz {i : Nat} (h1 : q0l c.name = true) (h : (c.parts.length : Int) ≤ 12) (hi : (c.parts.length : Int) ≤ (i : Int)) (hb : ∀ j, j < i → pErr (c.parts.getD j q0b) = 0) : cErr c = 0 := q19 (by rw [h1]; decide) (by omega) fun j hj => hb j (by omega)
theorem cEp {i : Nat} {e : Int} (h1 : q0l c.name = true) (h : (c.parts.length : Int) ≤ 12) (hi : (i : Int) < (c.parts.length : Int)) (hb : ∀ j, j < i → pErr (c.parts.getD j q0b) = 0) (he : pErr (c.parts.getD i q0b) = e) (hz : ¬ e = 0) : cErr c = e := by
 rw [qbaj (by rw [h1]; decide) (by omega) (by omega) hb (by rw [he]; exact hz), he]
theorem pE1 (h1 : p.keyword = ⟨#[]⟩ ∨ q0l p.keyword = true) (h : (p.values.length : Int) = 0) : pErr p = 1 := qbaf (nn7 h1) h
theorem pE2 (h1 : p.keyword = ⟨#[]⟩ ∨ q0l p.keyword = true) (h2 : ¬ (p.values.length : Int) = 0) (h : 10 < (p.values.length : Int)) : pErr p = 2 := qbag (nn7 h1) h2 h
theorem pEv {k : Nat} (h1 : p.keyword = ⟨#[]⟩ ∨ q0l p.keyword = true) (h2 : ¬ (p.values.length : Int) = 0) (h : (p.values.length : Int) ≤ 10) (hk : (k : Int) < (p.values.length : Int)) (hb : ∀ j, j < k → vErr (p.values.getD j qbi) = 0) (he : ¬ vErr (p.values.getD k qbi) = 0) : pErr p = vErr (p.values.getD k qbi) := by
 rw [qqk (qx7 (nn7 h1) h2 (by omega)), qis (f := fun k => vErr (p.values.getD k qbi)) (by omega) he hb]
theorem pEz {k : Nat} (h1 : p.keyword = ⟨#[]⟩ ∨ q0l p.keyword = true) (h2 : ¬ (p.values.length : Int) = 0) (h : (p.values.length : Int) ≤ 10) (hk : (p.values.length : Int) ≤ (k : Int)) (hb : ∀ j, j < k → vErr (p.values.getD j qbi) = 0) : pErr p = 0 := by
 rw [qqk (qx7 (nn7 h1) h2 (by omega)), qit fun j hj => hb j (by omega)]
end
theorem qvz {c : CStr} {i : Nat} (h : (c.parts.length : Int) ≤ (i : Int)) : comT c = comL c.name (c.parts.take i) := by rw [List.take_of_length_le (by omega)]; rfl
theorem qmj {c : CStr} {i : Nat} (h : (i : Int) < (c.parts.length : Int)) : comL c.name (c.parts.take (i + 1)) = comL c.name (c.parts.take i) ++ (⟨#[32]⟩ ++ qbv (c.parts.getD i q0b)) := by rw [qej q0b (by omega), q16]
theorem qbak {p : CPart} {k : Nat} (hk : k < p.values.length) (h : 0 < k) : spJ ((p.values.take (k + 1)).map writ) = spJ ((p.values.take k).map writ) ++ ⟨#[32]⟩ ++ writ (p.values.getD k qbi) := by
 rw [qej qbi hk, List.map_append, List.map_cons, List.map_nil]
 refine q4d _ ?_
 intro e
 have := congrArg List.length e
 rw [List.length_map, List.length_take, List.length_nil] at this
 omega
theorem qbal {p : CPart} {k : Nat} (hk : k < p.values.length) (h : k = 0) : spJ ((p.values.take (k + 1)).map writ) = spJ ((p.values.take k).map writ) ++ writ (p.values.getD k qbi) := by
 subst h
 rw [qej qbi hk, List.take_zero, List.nil_append, List.map_nil, List.map_cons, List.map_nil, qnc, q7t, qbbx]
theorem qbam {c : CStr} {i k : Nat} (hi : i < c.parts.length) (hk : (c.parts.getD i q0b).values.length ≤ k) (h : ¬(c.parts.getD i q0b).keyword = ⟨#[]⟩ ∨ 1 < ((c.parts.getD i q0b).values.length : Int)) :
 comL c.name (c.parts.take (i + 1)) = comL c.name (c.parts.take i) ++ ⟨#[32]⟩ ++ (c.parts.getD i q0b).keyword ++ (⟨#[40]⟩ ++ spJ (((c.parts.getD i q0b).values.take k).map writ) ++ ⟨#[41]⟩) := by
 rw [qmj (by omega), qx5 (by rcases h with h | h; exact .inl h; exact .inr (by omega)), List.take_of_length_le hk]
 apply qcu
 simp only [qc4, List.append_assoc]
theorem qban {c : CStr} {i k : Nat} (hi : i < c.parts.length) (hk : (c.parts.getD i q0b).values.length ≤ k) (h1 : 1 ≤ (c.parts.getD i q0b).values.length) (h : (c.parts.getD i q0b).keyword = ⟨#[]⟩ ∧ ((c.parts.getD i q0b).values.length : Int) ≤ 1) :
 comL c.name (c.parts.take (i + 1)) = comL c.name (c.parts.take i) ++ ⟨#[32]⟩ ++ (c.parts.getD i q0b).keyword ++ spJ (((c.parts.getD i q0b).values.take k).map writ) := by
 rw [qmj (by omega), qx4 ⟨h.1, by omega⟩, List.take_of_length_le hk, h.1]
 apply qcu
 simp only [qc4, List.append_assoc]
 rfl
theorem q4i (s : ByteArray) (i : Nat) : (dblL (s.data.toList.take i)).length ≤ 2 * s.size := by
 have h2 := qrr (s.data.toList.take i)
 rw [List.length_take] at h2
 have h3 : s.data.toList.length = s.size := rfl
 omega
theorem qv0 {s : ByteArray} {i : Nat} (n : UInt8) : (chr s i = (n.toNat : Int)) ↔ s.data.toList.getD i 0 = n := by
 unfold chr
 constructor
 ·intro h
  exact UInt8.toNat_inj.1 (by omega)
 ·intro h; rw [h]
theorem qon {s : ByteArray} {i : Nat} (h : i < s.size) : (s.extract i (i + 1)).data.toList = [s.data.toList.getD i 0] := by
 have hl : s.data.toList.length = s.size := rfl
 rw [ByteArray.data_extract, Array.toList_extract]
 simp only [List.extract]
 rw [show i + 1 - i = 1 by omega, qlb 0 (by rw [hl]; exact h)]
 rfl
theorem wq_1 {s : ByteArray} {i : Nat} (h : i < s.size) (c : chr s i = 39) : (⟨(39 :: dblL (s.data.toList.take (i + 1))).toArray⟩ : ByteArray) = ⟨(39 :: dblL (s.data.toList.take i)).toArray⟩ ++ ⟨#[39]⟩ ++ s.extract i (i + 1) := by
 have hl : s.data.toList.length = s.size := rfl
 have hb : s.data.toList.getD i 0 = 39 := (qv0 39).1 c
 apply qcu
 simp only [qc4, qon h, qqn]
 rw [qej 0 (by rw [hl]; exact h), hb]
 show 39 :: dblL (_ ++ [39]) = _
 rw [qvw]
 simp [dblL]
theorem wq_0 {s : ByteArray} {i : Nat} (h : i < s.size) (c : ¬ chr s i = 39) : (⟨(39 :: dblL (s.data.toList.take (i + 1))).toArray⟩ : ByteArray) = ⟨(39 :: dblL (s.data.toList.take i)).toArray⟩ ++ s.extract i (i + 1) := by
 have hl : s.data.toList.length = s.size := rfl
 have hb : ¬ s.data.toList.getD i 0 = 39 := fun e => c ((qv0 39).2 e)
 apply qcu
 simp only [qc4, qon h, qqn]
 rw [qej 0 (by rw [hl]; exact h), qvw]
 generalize s.data.toList.getD i 0 = b at hb ⊢
 simp [dblL, hb]
theorem q4j {v : CVal} {i : Nat} (h : ¬ v.kind = 0) (hi : v.text.size ≤ i) : writ v = (⟨(39 :: dblL (v.text.data.toList.take i)).toArray⟩ : ByteArray) ++ ⟨#[39]⟩ := by
 rw [List.take_of_length_le (by exact hi)]
 unfold writ
 rw [if_neg h]
 apply qcu
 simp only [qc4]
 rfl
section
variable {c : CStr}
theorem qbao (h : 13 < (c.parts.length : Int)) : fewS c = false := by unfold fewS; rw [decide_eq_false (by omega)]; rfl
theorem qx9 {i : Nat} (h1 : c.parts.length ≤ 13) (hi : i < c.parts.length) (hb : ∀ j, j < i → bigP c j = 0) (h : ¬ bigP c i = 0) : fewS c = false := by
 unfold fewS; rw [qis hi h hb, decide_eq_false h, Bool.and_false]
theorem qbap {i : Nat} (h1 : c.parts.length ≤ 13) (hi : i < c.parts.length) (hb : ∀ j, j < i → bigP c j = 0) (h : 11 < ((c.parts.getD i q0b).values.length : Int)) : fewS c = false :=
 qx9 h1 hi hb (by unfold bigP; rw [if_pos (by omega)]; decide)
theorem qbaq {i k : Nat} (h1 : c.parts.length ≤ 13) (hi : i < c.parts.length) (hb : ∀ j, j < i → bigP c j = 0) (h2 : (c.parts.getD i q0b).values.length ≤ 11) (hk : k < (c.parts.getD i q0b).values.length) (hkb : ∀ j, j < k → bigV (c.parts.getD i q0b) j = 0)
 (h : 100 < (((c.parts.getD i q0b).values.getD k qbi).text.size : Int)) : fewS c = false := by
 have hv : bigV (c.parts.getD i q0b) k = 1 := by unfold bigV; rw [if_pos (by omega)]
 refine qx9 h1 hi hb ?_
 unfold bigP
 rw [if_neg (by omega), qis hk (by rw [hv]; decide) hkb, hv]
 decide
theorem qbby {i : Nat} (h1 : c.parts.length ≤ 13) (hi : c.parts.length ≤ i) (hb : ∀ j, j < i → bigP c j = 0) : fewS c = true := by
 unfold fewS; rw [qit fun j hj => hb j (by omega), decide_eq_true h1]; rfl
theorem qbar {i : Nat} (h : (c.parts.getD i q0b).values.length ≤ 11) (hb : ∀ j, j < (c.parts.getD i q0b).values.length → bigV (c.parts.getD i q0b) j = 0) : bigP c i = 0 := by
 unfold bigP; rw [if_neg (by omega), qit hb]
end
end Go.Ev
namespace Go.Ev
open Go.Proofs Go.Shelf
def qqp : Go.Shelf.Ren := ⟨fun | 155 => 132 | 154 => 147 | 138 => 161 | 165 => 140 | 143 => 162 | 166 => 141 | 197 => 156 | 169 => 143 | 195 => 174 | 218 => 175 | 240 => 154 | 241 => 155 | 219 => 176 | 260 => 171 | 276 => 169 | 277 => 170 | 217 => 188 | 225 => 189 | 224 => 190 | 267 => 191 | 266 => 199 | 314 => 200 | n => n, fun | 9 => 9 | 3 => 3 | 4 => 4 | 72 => 159 | 0 => 0 | 76 => 163 | 105 => 175 | 21 => 21 | 5 => 5 | 70 => 157 | 20 => 20 | 37 => 86 | 75 => 162 | 127 => 174 | 164 => 183 | 46 => 201 | 119 => 200 | 139 => 204 | 138 => 203 | 146 => 225 | 51 => 205 | 80 => 100 | n => n, fun | 1 => 1 | 3 => 2 | 4 => 3 | n => n⟩
theorem layRep : Lays.n155 Tryz.prog qqp := {
 mixed := by kernel_rfl,
 f138 := Tryz.func161.trans (congrArg some (by kernel_rfl)),
 f143 := Tryz.func162.trans (congrArg some (by kernel_rfl)),
 f154 := Tryz.func147.trans (congrArg some (by kernel_rfl)),
 f155 := Tryz.func132.trans (congrArg some (by kernel_rfl)),
 f165 := Tryz.func140.trans (congrArg some (by kernel_rfl)),
 f166 := Tryz.func141.trans (congrArg some (by kernel_rfl)),
 f169 := Tryz.func143.trans (congrArg some (by kernel_rfl)),
 f195 := Tryz.func174.trans (congrArg some (by kernel_rfl)),
 f197 := Tryz.func156.trans (congrArg some (by kernel_rfl)),
 f217 := Tryz.func188.trans (congrArg some (by kernel_rfl)),
 f218 := Tryz.func175.trans (congrArg some (by kernel_rfl)),
 f219 := Tryz.func176.trans (congrArg some (by kernel_rfl)),
 f224 := Tryz.func190.trans (congrArg some (by kernel_rfl)),
 f225 := Tryz.func189.trans (congrArg some (by kernel_rfl)),
 f240 := Tryz.func154.trans (congrArg some (by kernel_rfl)),
 f241 := Tryz.func155.trans (congrArg some (by kernel_rfl)),
 f260 := Tryz.func171.trans (congrArg some (by kernel_rfl)),
 f266 := Tryz.func199.trans (congrArg some (by kernel_rfl)),
 f267 := Tryz.func191.trans (congrArg some (by kernel_rfl)),
 f276 := Tryz.func169.trans (congrArg some (by kernel_rfl)),
 f277 := Tryz.func170.trans (congrArg some (by kernel_rfl)),
 f314 := Tryz.func200.trans (congrArg some (by kernel_rfl)),
 t0 := Tryz.underlying0,
 a0 := Tryz.isAgg0,
 z0 := Tryz.sizeOf0,
 v0 := Tryz.zeroValue0,
 t3 := Tryz.underlying3,
 a3 := Tryz.isAgg3,
 z3 := Tryz.sizeOf3,
 v3 := Tryz.zeroValue3,
 t4 := Tryz.underlying4,
 a4 := Tryz.isAgg4,
 z4 := Tryz.sizeOf4,
 v4 := Tryz.zeroValue4,
 t5 := Tryz.underlying5,
 a5 := Tryz.isAgg5,
 z5 := Tryz.sizeOf5,
 v5 := Tryz.zeroValue5,
 t9 := Tryz.underlying9,
 a9 := Tryz.isAgg9,
 z9 := Tryz.sizeOf9,
 v9 := Tryz.zeroValue9,
 t20 := Tryz.underlying20,
 a20 := Tryz.isAgg20,
 z20 := Tryz.sizeOf20,
 v20 := Tryz.zeroValue20,
 t21 := Tryz.underlying21,
 a21 := Tryz.isAgg21,
 z21 := Tryz.sizeOf21,
 v21 := Tryz.zeroValue21,
 t37 := Tryz.underlying86,
 a37 := Tryz.isAgg86,
 z37 := Tryz.sizeOf86,
 v37 := Tryz.zeroValue86,
 t46 := Tryz.underlying201,
 a46 := Tryz.isAgg201,
 z46 := Tryz.sizeOf201,
 v46 := Tryz.zeroValue201,
 t51 := Tryz.underlying205,
 a51 := Tryz.isAgg205,
 z51 := Tryz.sizeOf205,
 v51 := Tryz.zeroValue205,
 t70 := Tryz.underlying157,
 a70 := Tryz.isAgg157,
 z70 := Tryz.sizeOf157,
 v70 := Tryz.zeroValue157,
 t72 := Tryz.underlying159,
 a72 := Tryz.isAgg159,
 z72 := Tryz.sizeOf159,
 v72 := Tryz.zeroValue159,
 t75 := Tryz.underlying162,
 a75 := Tryz.isAgg162,
 z75 := Tryz.sizeOf162,
 v75 := Tryz.zeroValue162,
 t76 := Tryz.underlying163,
 a76 := Tryz.isAgg163,
 z76 := Tryz.sizeOf163,
 v76 := Tryz.zeroValue163,
 t105 := Tryz.underlying175,
 a105 := Tryz.isAgg175,
 z105 := Tryz.sizeOf175,
 v105 := Tryz.zeroValue175,
 t119 := Tryz.underlying200,
 a119 := Tryz.isAgg200,
 z119 := Tryz.sizeOf200,
 t127 := Tryz.underlying174,
 a127 := Tryz.isAgg174,
 z127 := Tryz.sizeOf174,
 v127 := Tryz.zeroValue174,
 t138 := Tryz.underlying203,
 a138 := Tryz.isAgg203,
 z138 := Tryz.sizeOf203,
 v138 := Tryz.zeroValue203,
 t139 := Tryz.underlying204,
 a139 := Tryz.isAgg204,
 z139 := Tryz.sizeOf204,
 v139 := Tryz.zeroValue204,
 t146 := Tryz.underlying225,
 a146 := Tryz.isAgg225,
 z146 := Tryz.sizeOf225,
 v146 := Tryz.zeroValue225,
 t164 := Tryz.underlying183,
 a164 := Tryz.isAgg183,
 z164 := Tryz.sizeOf183,
 v164 := Tryz.zeroValue183,
 g1 := by kernel_rfl,
 g3 := by kernel_rfl,
 g4 := by kernel_rfl }
theorem q4k : Builder.Extra Tryz.prog qqp where
 sizeBuilder := by kernel_rfl
 liesBuilder := by kernel_rfl
 t5 := layRep.t5
 a5 := layRep.a5
 z5 := layRep.z5
 v5 := layRep.v5
 infoByte := by kernel_rfl
 cellsByte := by kernel_rfl
 sizeByte := by kernel_rfl
 neB5 := by decide
def qs9 : Go.Shelf.Ren := ⟨fun | 156 => 133 | 165 => 140 | 166 => 141 | 169 => 143 | 240 => 154 | 241 => 155 | 276 => 169 | 277 => 170 | n => n, fun | 31 => 71 | 9 => 9 | 3 => 3 | 4 => 4 | 0 => 0 | 20 => 20 | 72 => 159 | 76 => 163 | 70 => 157 | 37 => 86 | 75 => 162 | 127 => 174 | 164 => 183 | 5 => 5 | 80 => 100 | n => n, fun n => n⟩
theorem qzk : Lays.n156 Tryz.prog qs9 := {
 mixed := by kernel_rfl,
 f156 := Tryz.func133.trans (congrArg some (by kernel_rfl)),
 f165 := Tryz.func140.trans (congrArg some (by kernel_rfl)),
 f166 := Tryz.func141.trans (congrArg some (by kernel_rfl)),
 f169 := Tryz.func143.trans (congrArg some (by kernel_rfl)),
 f240 := Tryz.func154.trans (congrArg some (by kernel_rfl)),
 f241 := Tryz.func155.trans (congrArg some (by kernel_rfl)),
 f276 := Tryz.func169.trans (congrArg some (by kernel_rfl)),
 f277 := Tryz.func170.trans (congrArg some (by kernel_rfl)),
 t0 := Tryz.underlying0,
 a0 := Tryz.isAgg0,
 z0 := Tryz.sizeOf0,
 v0 := Tryz.zeroValue0,
 t3 := Tryz.underlying3,
 a3 := Tryz.isAgg3,
 z3 := Tryz.sizeOf3,
 v3 := Tryz.zeroValue3,
 t4 := Tryz.underlying4,
 a4 := Tryz.isAgg4,
 z4 := Tryz.sizeOf4,
 v4 := Tryz.zeroValue4,
 t9 := Tryz.underlying9,
 a9 := Tryz.isAgg9,
 z9 := Tryz.sizeOf9,
 v9 := Tryz.zeroValue9,
 t20 := Tryz.underlying20,
 a20 := Tryz.isAgg20,
 z20 := Tryz.sizeOf20,
 v20 := Tryz.zeroValue20,
 t31 := Tryz.underlying71,
 a31 := Tryz.isAgg71,
 z31 := Tryz.sizeOf71,
 v31 := Tryz.zeroValue71,
 t37 := Tryz.underlying86,
 a37 := Tryz.isAgg86,
 z37 := Tryz.sizeOf86,
 v37 := Tryz.zeroValue86,
 t70 := Tryz.underlying157,
 a70 := Tryz.isAgg157,
 z70 := Tryz.sizeOf157,
 v70 := Tryz.zeroValue157,
 t72 := Tryz.underlying159,
 a72 := Tryz.isAgg159,
 z72 := Tryz.sizeOf159,
 v72 := Tryz.zeroValue159,
 t75 := Tryz.underlying162,
 a75 := Tryz.isAgg162,
 z75 := Tryz.sizeOf162,
 v75 := Tryz.zeroValue162,
 t76 := Tryz.underlying163,
 a76 := Tryz.isAgg163,
 z76 := Tryz.sizeOf163,
 v76 := Tryz.zeroValue163,
 t127 := Tryz.underlying174,
 a127 := Tryz.isAgg174,
 z127 := Tryz.sizeOf174,
 v127 := Tryz.zeroValue174,
 t164 := Tryz.underlying183,
 a164 := Tryz.isAgg183,
 z164 := Tryz.sizeOf183,
 v164 := Tryz.zeroValue183 }
theorem qrs : Builder.Extra Tryz.prog qs9 where
 sizeBuilder := by kernel_rfl
 liesBuilder := by kernel_rfl
 t5 := Tryz.underlying5
 a5 := Tryz.isAgg5
 z5 := Tryz.sizeOf5
 v5 := Tryz.zeroValue5
 infoByte := by kernel_rfl
 cellsByte := by kernel_rfl
 sizeByte := by kernel_rfl
 neB5 := by decide
end Go.Ev
namespace Go.Ev
open Go.Proofs Go.RowKit
theorem q2a {P : Program} {f : FuncId} {l : List D} {r : D} (hl : l.all D.sc = true) (hr : r.sc = true)
 (h : ∀ w, Glob.inv w → Calls P f (l.map encF).toArray w fun e w' => e = .returned (encF r) ∧ Below w.heap.size w w') : Sem P f (l.map O.d) (.d r) := by
 intro w vs X os hX hA hd ⟨hn, oss, h1, h2, h3⟩ hgi
 have hvs : vs = (l.map encF).toArray := by
  refine Array.ext (by simpa using hn) fun i hi hi' => ?_
  have hil : i < l.length := by simpa using hi'
  obtain ⟨_, hrd⟩ := qt3 (d := l[i]) (h3 i vs[i] (.d l[i]) (oss[i]'(by rw [h1]; simpa using hil)) (by simp [hi]) (by simp [hil]) (by simp [h1, hil]))
  have := qro hrd (List.all_eq_true.1 hl _ (List.getElem_mem hil))
  simpa using this
 subst hvs
 refine Calls.mono (h w hgi.inv) ?_
 rintro e w' ⟨rfl, hb⟩
 refine ⟨encF r, encF r, [], rfl, ?_, .d _ _ (qx2 hr), ?_, ?_, qom hb⟩
 ·unfold Ret
  rw [qjx]
 ·intro i j b hi; simp at hi
 ·intro b hb'; cases hb'
theorem bytes_beq {a b : UInt8} : (a == b) = decide (a = b) := by rw [Bool.eq_iff_iff]; simp
theorem q7y (l : List UInt8) : Lib.index l [39] = if 39 ∈ l then (l.idxOf 39 : Int) else -1 := by
 induction l with
 | nil => rfl
 | cons b l ih =>
   unfold Lib.index
   by_cases e : b = 39
   ·subst e; simp [List.isPrefixOf]
   ·have e2 : ([39] : List UInt8).isPrefixOf (b :: l) = false := by simp [List.isPrefixOf, Ne.symm e]
    rw [e2, ih]
    simp only [Bool.false_eq_true, if_false, List.mem_cons, Ne.symm e, false_or]
    by_cases m : 39 ∈ l
    ·rw [if_pos m, if_pos m]
     rw [if_neg (by rw [beq_iff_eq]; omega), List.idxOf_cons, show (b == 39) = false from by simpa using e]
     rfl
    ·rw [if_neg m, if_neg m]; rfl
theorem qoo {l : List UInt8} (h : 39 ∉ l) : dblL l = l := by
 induction l with
 | nil => rfl
 | cons b l ih =>
   have hb : ¬ b = 39 := fun e => h (by simp [e])
   unfold dblL
   rw [if_neg hb, ih (fun m => h (by simp [m]))]
theorem q7z (a b : List UInt8) : dblL (a ++ b) = dblL a ++ dblL b := by
 induction a with
 | nil => rfl
 | cons x a ih =>
   simp only [List.cons_append, dblL, ih]
   split <;> simp
theorem qv1 : ∀ (k : Nat) (l : List UInt8), l.count 39 ≤ k → Lib.replaceK [39] [39, 39] k l = dblL l
 | 0, l, h => by
   unfold Lib.replaceK
   rw [qoo]
   exact List.count_eq_zero.1 (by omega)
 | k + 1, l, h => by
   unfold Lib.replaceK
   rw [q7y]
   by_cases m : 39 ∈ l
   ·rw [if_pos m]
    have hi := List.idxOf_lt_length_of_mem m
    have e0 : ((l.idxOf 39 : Nat) : Int).toNat = l.idxOf 39 := by omega
    rw [if_neg (by rw [beq_iff_eq]; omega), e0]
    have hsplit : l = l.take (l.idxOf 39) ++ 39 :: l.drop (l.idxOf 39 + 1) := by
     conv => lhs; rw [← List.take_append_drop (l.idxOf 39) l]
     congr 1
     rw [List.drop_eq_getElem_cons hi, List.getElem_idxOf hi]
    have hno : 39 ∉ l.take (l.idxOf 39) := by
     intro hm
     obtain ⟨j, hj, e⟩ := List.getElem_of_mem hm
     rw [List.getElem_take] at e
     have hjl : j < l.idxOf 39 := by rw [List.length_take] at hj; omega
     have := List.not_of_lt_findIdx hjl
     rw [e] at this; cases this
    have hc : (l.drop (l.idxOf 39 + 1)).count 39 ≤ k := by
     have := congrArg (List.count (39 : UInt8)) hsplit
     rw [List.count_append, List.count_cons_self] at this
     omega
    rw [show l.idxOf 39 + [(39 : UInt8)].length = l.idxOf 39 + 1 from rfl, qv1 k _ hc]
    conv => rhs; rw [hsplit, q7z, qoo hno]
    rw [show dblL (39 :: l.drop (l.idxOf 39 + 1)) = 39 :: 39 :: dblL (l.drop (l.idxOf 39 + 1)) from rfl]
    simp
   ·rw [if_neg m, if_pos (by rfl), qoo m]
theorem q4l (l : List UInt8) : Lib.replaceAll l [39] [39, 39] = dblL l := by
 unfold Lib.replaceAll Lib.replace
 rw [if_neg (by decide)]
 refine qv1 _ l ?_
 unfold Lib.replaceNum
 rw [if_pos (.inl (by decide)), Lib.count_one]
 exact Nat.le_refl _
theorem q70 {s : ByteArray} (h : s.size ≤ 1000) : Sem Tryz.prog 132 [.d (.s s), .d (.s ⟨#[39]⟩), .d (.s ⟨#[39, 39]⟩)] (.d (.s ⟨(dblL s.data.toList).toArray⟩)) :=
 q2a (l := [.s s, .s ⟨#[39]⟩, .s ⟨#[39, 39]⟩]) (r := .s ⟨(dblL s.data.toList).toArray⟩) rfl rfl fun w ⟨m, hm⟩ => by
  have h1 := Lib.countB_mul_le (⟨#[39]⟩ : ByteArray) (by decide) s.size s (Nat.le_refl _)
  have h2 : (⟨#[39]⟩ : ByteArray).size = 1 := rfl
  have h3 : (⟨#[39, 39]⟩ : ByteArray).size = 2 := rfl
  rw [h2] at h1
  have := Any.strings_ReplaceAll layRep q4k s ⟨#[39]⟩ ⟨#[39, 39]⟩ m w (by omega) hm (by decide) (by rw [h3]; omega)
  rw [← q4l]
  exact this
theorem qzl (l : List ByteArray) : flat (l.map D.s) = l.map D.s := by
 induction l with
 | nil => rfl
 | cons x l ih => rw [List.map_cons, qc0, ih]; rfl
theorem qzm {l : List ByteArray} {w : World} {X : Nat → Prop} {v : Value} (hv : RD w X v (.sl 1 (l.map D.s))) (h1 : l.length ≤ 1000000) (h2 : (Lib.join (l.map (·.data.toList)) [32]).length ≤ 140737488355328) :
 Calls Tryz.prog 133 #[v, .string ⟨#[32]⟩] w fun e w' => e = .returned (.string (spJ l)) ∧ Below w.heap.size w w' := by
 generalize hd : D.sl 1 (l.map D.s) = d at hv
 cases hv with
 | sl0 sz =>
   injection hd with _ h
   have hl : l = [] := List.map_eq_nil_iff.1 h
   subst hl
   refine Calls.mono (Any.strings_Join_none qzk qrs none 0 ⟨#[32]⟩ w) ?_
   rintro e w' ⟨rfl, rfl⟩
   exact ⟨rfl, Below.refl _ _⟩
 | sl a cap sz L u hc hsz hs ha hw hr =>
   injection hd with e1 e2
   subst e1
   subst e2
   rw [List.length_map] at hc ⊢
   cases l with
   | nil =>
     refine Calls.mono (Any.strings_Join_none qzk qrs (some a) cap ⟨#[32]⟩ w) ?_
     rintro e w' ⟨rfl, rfl⟩
     exact ⟨rfl, Below.refl _ _⟩
   | cons x l =>
     obtain ⟨sp, _⟩ := ha (by simp)
     obtain ⟨bk, o, sp'⟩ := a
     simp only at sp; subst sp
     have hcell : ∀ (j : Nat) y, (x :: l)[j]? = some y → w.cell? ⟨bk, o + j, none⟩ = some (.string y) := fun j y hj => by
      have hj' : (flat ((x :: l).map D.s))[j]? = some (.s y) := by rw [qzl, List.getElem?_map, hj]; rfl
      have h3 := hw j _ hj'
      have h4 := hr j _ hj'
      generalize u j = uj at h3 h4
      cases h4
      exact h3
     have hbk : bk < w.heap.size := World.block_lt_of_cell? w ⟨bk, o + 0, none⟩ (hcell 0 x rfl)
     exact Any.strings_Join qzk qrs bk o cap (x :: l) ⟨#[32]⟩ w hcell hbk (by omega) hc h2
 | b | i | s | agg | nil | cp | np | fn | mp | mp0 => cases hd
theorem q4m {l : List ByteArray} (h1 : l.length ≤ 1000000) (h2 : (Lib.join (l.map (·.data.toList)) [32]).length ≤ 140737488355328) : Sem Tryz.prog 133 [.d (.sl 1 (l.map D.s)), .d (.s ⟨#[32]⟩)] (.d (.s (spJ l))) := by
 intro w vs X os hX hA hd ⟨hn, oss, g1, g2, g3⟩ hgi
 have hn2 : vs.size = 2 := hn
 have gl : oss.length = 2 := g1
 obtain ⟨_, r0⟩ := qt3 (g3 0 vs[0] _ (oss[0]'(by omega)) (by simp [hn2]) rfl (by simp [gl]))
 obtain ⟨_, r1⟩ := qt3 (g3 1 vs[1] _ (oss[1]'(by omega)) (by simp [hn2]) rfl (by simp [gl]))
 have e1 : vs[1] = .string ⟨#[32]⟩ := qro r1 rfl
 have hvs : vs = #[vs[0], .string ⟨#[32]⟩] := by
  refine Array.ext (by simp [hn2]) fun i hi hi' => ?_
  have : i < 2 := by omega
  match i, this with
  | 0, _ => rfl
  | 1, _ => exact e1
 rw [hvs]
 refine Calls.mono (qzm r0 h1 h2) ?_
 rintro e w' ⟨rfl, hb⟩
 refine ⟨.string (spJ l), .string (spJ l), [], rfl, ?_, .d _ _ (.s _), ?_, ?_, qom hb⟩
 ·rfl
 ·intro i j b hi; simp at hi
 ·intro b hb'; cases hb'
end Go.Ev
namespace Go.Ev
noncomputable section
open Go.Proofs Ty
set_option maxRecDepth 10000
set_option maxHeartbeats 4000000
def e132 : List O → Option (Prop × O)
 | [.d (.s x), .d (.s a), .d (.s b)] => some (x.size ≤ 1000 ∧ a = ⟨#[39]⟩ ∧ b = ⟨#[39, 39]⟩, .d (.s ⟨(dblL x.data.toList).toArray⟩))
 | _ => none
def q2b : FuncId → List O → Option (Prop × O) := addT q5l 132 e132
def e133 : List O → Option (Prop × O)
 | [.d x, .d (.s b)] => match decL 1 decS x with
   | some l => some (l.length ≤ 1000000 ∧ (Go.Lib.join (l.map (·.data.toList)) [32]).length ≤ 140737488355328 ∧ b = ⟨#[32]⟩, .d (.s (spJ l)))
   | none => none
 | _ => none
def qv2 : FuncId → List O → Option (Prop × O) := addT q2b 133 e133
def e89 : List O → Option (Prop × O)
 | [.d (.i .i64 n), .d (.i .i64 lo), .d (.i .i64 hi)] => some (True, .d (.b (decide (lo ≤ n) && decide (n ≤ hi))))
 | _ => none
def qzn : FuncId → List O → Option (Prop × O) := addT qv2 89 e89
def e64 : List O → Option (Prop × O)
 | [.d (.b b), .d (.i .i64 e)] => some (True, .d (.i .i64 (if b = true then e else 0)))
 | _ => none
def qzo : FuncId → List O → Option (Prop × O) := addT qzn 64 e64
def e62 : List O → Option (Prop × O)
 | [.d x_l] => match decL 1 (decI .i64) x_l with
   | some l => some (l.length ≤ 1000000, .d (.i .i64 (fstE l)))
   | _ => none
 | _ => none
def qzp : FuncId → List O → Option (Prop × O) := addT qzo 62 e62
def e139 : List O → Option (Prop × O)
 | [.d (.i .u8 c)] => some (True, .d (.b (badC c)))
 | _ => none
def qv3 : FuncId → List O → Option (Prop × O) := addT qzp 139 e139
def e50a : List O → Option (Prop × O)
 | [.d x_l, .d (.fn 139 [])] => match decL 1 (decI .u8) x_l with
   | some l => some (l.length ≤ 1000000, .d (.i .i64 (idxP badC l)))
   | _ => none
 | _ => none
def qv4 : FuncId → List O → Option (Prop × O) := addT qv3 50 e50a
def qqq : List O → Option (Prop × O)
 | [.d x_l, .d (.fn 139 [])] => match decL 1 (decI .u8) x_l with
   | some l => some (l.length ≤ 1000000, .d (.b (hasP badC l)))
   | _ => none
 | _ => none
def qrt : FuncId → List O → Option (Prop × O) := addT qv4 138 qqq
def e124 : List O → Option (Prop × O)
 | [.d (.s s)] => some (s.size ≤ 1000000, .d (.b (qdo s)))
 | _ => none
def qv5 : FuncId → List O → Option (Prop × O) := addT qrt 124 e124
def e146 : List O → Option (Prop × O)
 | [.d (.i .u8 c)] => some (True, .d (.b (qbh c)))
 | _ => none
def qv6 : FuncId → List O → Option (Prop × O) := addT qv5 146 e146
def e50b : List O → Option (Prop × O)
 | [.d x_l, .d (.fn 146 [])] => match decL 1 (decI .u8) x_l with
   | some l => some (l.length ≤ 1000000, .d (.i .i64 (idxP qbh l)))
   | _ => none
 | _ => none
def qv7 : FuncId → List O → Option (Prop × O) := addT qv6 50 e50b
def qqr : List O → Option (Prop × O)
 | [.d x_l, .d (.fn 146 [])] => match decL 1 (decI .u8) x_l with
   | some l => some (l.length ≤ 1000000, .d (.b (hasP qbh l)))
   | _ => none
 | _ => none
def qru : FuncId → List O → Option (Prop × O) := addT qv7 138 qqr
def e131 : List O → Option (Prop × O)
 | [.d (.s s)] => some (s.size ≤ 1000000, .d (.b (qde s)))
 | _ => none
def qv8 : FuncId → List O → Option (Prop × O) := addT qru 131 e131
def e112 : List O → Option (Prop × O)
 | [.d (.s s)] => some (s.size ≤ 1000000, .d (.b (qes s)))
 | _ => none
def qv9 : FuncId → List O → Option (Prop × O) := addT qv8 112 e112
def e115 : List O → Option (Prop × O)
 | [.d x_v] => match qba x_v with
   | some v => some (qf9 v, .d (.i .i64 (vErr v)))
   | _ => none
 | _ => none
def qwa : FuncId → List O → Option (Prop × O) := addT qv9 115 e115
def e105 : List O → Option (Prop × O)
 | [.d x_p] => match qbd x_p with
   | some p => some (qvv p, .d (.i .i64 (pErr p)))
   | _ => none
 | _ => none
def qwb : FuncId → List O → Option (Prop × O) := addT qwa 105 e105
def e63 : List O → Option (Prop × O)
 | [.d x_c] => match qbf x_c with
   | some c => some (okC c, .d (.i .i64 (cErr c)))
   | _ => none
 | _ => none
def qzq : FuncId → List O → Option (Prop × O) := addT qwb 63 e63
def e113 : List O → Option (Prop × O)
 | [.d x_p] => match qbd x_p with
   | some p => some (pErr p = 0, .d (.s (qbv p)))
   | _ => none
 | _ => none
def qwc : FuncId → List O → Option (Prop × O) := addT qzq 113 e113
def e75 : List O → Option (Prop × O)
 | [.d x_c] => match qbf x_c with
   | some c => some (cErr c = 0, .d (.s (comT c)))
   | _ => none
 | _ => none
def qzr : FuncId → List O → Option (Prop × O) := addT qwc 75 e75
def e36 : List O → Option (Prop × O)
 | [.d x_c] => match qbf x_c with
   | some c => some (okC c, .tup [.d (.s (if cErr c = 0 then comT c else ⟨#[]⟩)), .d (.i .i64 (cErr c))])
   | _ => none
 | _ => none
def qzs : FuncId → List O → Option (Prop × O) := addT qzr 36 e36
def e114 : List O → Option (Prop × O)
 | [.d (.s s)] => some (s.size ≤ 1000000, .d (.b (qes s)))
 | _ => none
def qwd : FuncId → List O → Option (Prop × O) := addT qzs 114 e114
def e79 : List O → Option (Prop × O)
 | [.d x_v] => match qba x_v with
   | some v => some (qf9 v, .d (.i .i64 (vErr v)))
   | _ => none
 | _ => none
def qzt : FuncId → List O → Option (Prop × O) := addT qwd 79 e79
def e34 : List O → Option (Prop × O)
 | [.d x_c] => match qbf x_c with
   | some c => some (okC c, .d (.i .i64 (cErr c)))
   | _ => none
 | _ => none
def qzu : FuncId → List O → Option (Prop × O) := addT qzt 34 e34
def e77 : List O → Option (Prop × O)
 | [.d x_v] => match qba x_v with
   | some v => some (vErr v = 0, .d (.s (writ v)))
   | _ => none
 | _ => none
def qzv : FuncId → List O → Option (Prop × O) := addT qzu 77 e77
def e31 : List O → Option (Prop × O)
 | [.d x_c] => match qbf x_c with
   | some c => some (cErr c = 0, .d (.s (comT c)))
   | _ => none
 | _ => none
def qzw : FuncId → List O → Option (Prop × O) := addT qzv 31 e31
def e23 : List O → Option (Prop × O)
 | [.d x_c] => match qbf x_c with
   | some c => some (okC c, .d (q05 c))
   | _ => none
 | _ => none
def qzx : FuncId → List O → Option (Prop × O) := addT qzw 23 e23
def e21 : List O → Option (Prop × O)
 | [.d x_c] => match qbf x_c with
   | some c => some (True, .d (.b (fewS c)))
   | _ => none
 | _ => none
def qzy : FuncId → List O → Option (Prop × O) := addT qzx 21 e21
def e9 : List O → Option (Prop × O)
 | [.d x_c] => match qbf x_c with
   | some c => some (True, .d (.b true))
   | _ => none
 | _ => none
def tab9 : FuncId → List O → Option (Prop × O) := addT qzy 9 e9
end
end Go.Ev
namespace Go.Ev
noncomputable section
open Go.Proofs Ty
set_option maxRecDepth 10000
set_option maxHeartbeats 4000000
def e127 : List O → Option (Prop × O)
 | [.d (.s x)] => some (x.size ≤ 140737488355328 ∧ (∀ b ∈ x.data.toList, b.toNat < 128), .d (.s (upS x)))
 | _ => none
def qwe : FuncId → List O → Option (Prop × O) := addT tab9 127 e127
def e126 : List O → Option (Prop × O)
 | [.d (.i .u8 c)] => some (True, .d (.b (endC c)))
 | _ => none
def qwf : FuncId → List O → Option (Prop × O) := addT qwe 126 e126
def e96 : List O → Option (Prop × O)
 | [.d (.cp [.s s_r, .i .i64 a_r, .i .i64 p_r, .i .i64 e_r]), .d (.i .u8 c)] => match qcm s_r a_r p_r e_r with
   | some r => some (r.pos ≤ 401 ∧ r.s.size ≤ 400, .d (.b (isAt r.s r.pos c)))
   | _ => none
 | _ => none
def qzz : FuncId → List O → Option (Prop × O) := addT qwf 96 e96
def e54 : List O → Option (Prop × O)
 | [.bx 99 [.d (.s s_r), .d (.i .i64 a_r), .d (.i .i64 p_r), .d (.i .i64 e_r)], .d (.i .i64 place), .d (.i .i64 e)] => match qcm s_r a_r p_r e_r with
   | some r => some (True, .tup [.bx 99 [.d (.s r.s), .d (.i .i64 (r.pos : Int)), .d (.i .i64 (fP r.err r.place place)), .d (.i .i64 (fE r.err e))]])
   | _ => none
 | _ => none
def qz0 : FuncId → List O → Option (Prop × O) := addT qzz 54 e54
def e53 : List O → Option (Prop × O)
 | [.bx 99 [.d (.s s_r), .d (.i .i64 a_r), .d (.i .i64 p_r), .d (.i .i64 e_r)]] => match qcm s_r a_r p_r e_r with
   | some r => some (r.pos ≤ 401 ∧ r.s.size ≤ 400, .tup [.bx 99 [.d (.s r.blanks.s), .d (.i .i64 (r.blanks.pos : Int)), .d (.i .i64 r.blanks.place), .d (.i .i64 r.blanks.err)]])
   | _ => none
 | _ => none
def qz1 : FuncId → List O → Option (Prop × O) := addT qz0 53 e53
def e95 : List O → Option (Prop × O)
 | [.bx 99 [.d (.s s_r), .d (.i .i64 a_r), .d (.i .i64 p_r), .d (.i .i64 e_r)]] => match qcm s_r a_r p_r e_r with
   | some r => some (r.pos ≤ r.s.size ∧ asc r.s, .tup [.d (.s r.wtxt), .bx 99 [.d (.s r.word.s), .d (.i .i64 (r.word.pos : Int)), .d (.i .i64 r.word.place), .d (.i .i64 r.word.err)]])
   | _ => none
 | _ => none
def qz2 : FuncId → List O → Option (Prop × O) := addT qz1 95 e95
def e51 : List O → Option (Prop × O)
 | [.d (.i .u8 c)] => some (True, .d (.b (decide (c < 32) || decide (126 < c))))
 | _ => none
def qz3 : FuncId → List O → Option (Prop × O) := addT qz2 51 e51
def e50 : List O → Option (Prop × O)
 | [.d x_l, .d (.fn 51 [])] => match decL 1 (decI .u8) x_l with
   | some l => some (l.length ≤ 1000000, .d (.i .i64 (idxP badC l)))
   | _ => none
 | _ => none
def qz4 : FuncId → List O → Option (Prop × O) := addT qz3 50 e50
def e128 : List O → Option (Prop × O)
 | [.bx 99 [.d (.s s_r), .d (.i .i64 a_r), .d (.i .i64 p_r), .d (.i .i64 e_r)]] => match qcm s_r a_r p_r e_r with
   | some r => some (r.pos < r.s.size ∧ asc r.s, .tup [.d (q0k r.qval), .bx 99 [.d (.s r.quoted.s), .d (.i .i64 (r.quoted.pos : Int)), .d (.i .i64 r.quoted.place), .d (.i .i64 r.quoted.err)]])
   | _ => none
 | _ => none
def qwg : FuncId → List O → Option (Prop × O) := addT qz4 128 e128
def e98 : List O → Option (Prop × O)
 | [.bx 99 [.d (.s s_r), .d (.i .i64 a_r), .d (.i .i64 p_r), .d (.i .i64 e_r)], .d (.b op)] => match qcm s_r a_r p_r e_r with
   | some r => some (r.pos ≤ r.s.size ∧ asc r.s, .tup [.d (q0k r.valV), .bx 99 [.d (.s (r.valR.stop op).s), .d (.i .i64 ((r.valR.stop op).pos : Int)), .d (.i .i64 (r.valR.stop op).place), .d (.i .i64 (r.valR.stop op).err)]])
   | _ => none
 | _ => none
def qz5 : FuncId → List O → Option (Prop × O) := addT qwg 98 e98
def e52 : List O → Option (Prop × O)
 | [.bx 99 [.d (.s s_r), .d (.i .i64 a_r), .d (.i .i64 p_r), .d (.i .i64 e_r)]] => match qcm s_r a_r p_r e_r with
   | some r => some (r.pos ≤ r.s.size ∧ asc r.s, .tup [.d (.s r.nmT), .bx 99 [.d (.s r.nmR.s), .d (.i .i64 (r.nmR.pos : Int)), .d (.i .i64 r.nmR.place), .d (.i .i64 r.nmR.err)]])
   | _ => none
 | _ => none
def qz6 : FuncId → List O → Option (Prop × O) := addT qz5 52 e52
def e97 : List O → Option (Prop × O)
 | [.bx 99 [.d (.s s_r), .d (.i .i64 a_r), .d (.i .i64 p_r), .d (.i .i64 e_r)]] => match qcm s_r a_r p_r e_r with
   | some r => some (r.pos < r.s.size ∧ r.s.size ≤ 400 ∧ asc r.s ∧ r.err = 0, .tup [.d (.sl 2 (r.list.2.map q0k)), .bx 99 [.d (.s r.list.1.s), .d (.i .i64 (r.list.1.pos : Int)), .d (.i .i64 r.list.1.place), .d (.i .i64 r.list.1.err)]])
   | _ => none
 | _ => none
def qz7 : FuncId → List O → Option (Prop × O) := addT qz6 97 e97
def e55 : List O → Option (Prop × O)
 | [.bx 99 [.d (.s s_r), .d (.i .i64 a_r), .d (.i .i64 p_r), .d (.i .i64 e_r)]] => match qcm s_r a_r p_r e_r with
   | some r => some (r.pos ≤ r.s.size ∧ r.s.size ≤ 400 ∧ asc r.s ∧ r.err = 0, .tup [.d (q0d r.partV), .bx 99 [.d (.s r.partR.s), .d (.i .i64 (r.partR.pos : Int)), .d (.i .i64 r.partR.place), .d (.i .i64 r.partR.err)]])
   | _ => none
 | _ => none
def qz8 : FuncId → List O → Option (Prop × O) := addT qz7 55 e55
def e18 : List O → Option (Prop × O)
 | [.d (.s s)] => some (True, .tup [.d (q05 (qca s).1), .d (.i .i64 (qca s).2.1), .d (.i .i64 (qca s).2.2)])
 | _ => none
def qz9 : FuncId → List O → Option (Prop × O) := addT qz8 18 e18
def e20 : List O → Option (Prop × O)
 | [.d x_a, .d x_b] => match qbf x_a, qbf x_b with
   | some a, some b => some (qzj a, .d (.b (decide (a = b))))
   | _, _ => none
 | _ => none
def q00a : FuncId → List O → Option (Prop × O) := addT qz9 20 e20
end
end Go.Ev
namespace Go.Ev
def Rd.rest (r : Rd) (B : List UInt8) : Prop := ∃ A, r.s.data.toList = A ++ B ∧ r.pos = A.length
def cI (b : UInt8) : Int := (b.toNat : Int)
theorem qya (s : ByteArray) : s.size = s.data.toList.length := rfl
theorem Rd.rest.size {r : Rd} {B : List UInt8} (h : r.rest B) : r.s.size = r.pos + B.length := by
 obtain ⟨A, h1, h2⟩ := h
 rw [qya, h1, List.length_append]; omega
theorem q71 {s : ByteArray} {A B : List UInt8} (h : s.data.toList = A ++ B) (k : Nat) : chr s (A.length + k) = cI (B.getD k 0) := by
 unfold chr cI
 rw [h]
 simp only [List.getD]
 rw [List.getElem?_append_right (by omega)]
 simp
theorem Rd.rest.chr {r : Rd} {B : List UInt8} (h : r.rest B) (k : Nat) : chr r.s (r.pos + k) = cI (B.getD k 0) := by
 obtain ⟨A, h1, h2⟩ := h
 rw [h2]; exact q71 h1 k
theorem Rd.rest.chr0 {r : Rd} {b : UInt8} {B : List UInt8} (h : r.rest (b :: B)) : Ev.chr r.s r.pos = cI b := h.chr 0
theorem Rd.rest.lt {r : Rd} {b : UInt8} {B : List UInt8} (h : r.rest (b :: B)) : r.pos < r.s.size := by
 have := h.size; rw [List.length_cons] at this; omega
theorem Rd.rest.isAt {r : Rd} {b : UInt8} {B : List UInt8} (h : r.rest (b :: B)) (c : Int) : Ev.isAt r.s r.pos c = decide (cI b = c) := by
 rw [qcr h.lt, h.chr0]
theorem Rd.rest.isAt0 {r : Rd} (h : r.rest []) (c : Int) : Ev.isAt r.s r.pos c = false := by
 have := h.size
 unfold Ev.isAt
 rw [decide_eq_false (by simp at this; omega)]; rfl
theorem Rd.rest.go {r : Rd} {X Y : List UInt8} (h : r.rest (X ++ Y)) {q : Rd} (hs : q.s = r.s) (hp : q.pos = r.pos + X.length) : q.rest Y := by
 obtain ⟨A, h1, h2⟩ := h
 exact ⟨A ++ X, by rw [hs, h1, List.append_assoc], by rw [hp, h2, List.length_append]⟩
def qga (p : Int → Bool) (Y : List UInt8) : Prop := ∀ b Z, Y = b :: Z → p (cI b) = false
theorem qjn {r : Rd} {X Y : List UInt8} {p : Int → Bool} (h : r.rest (X ++ Y)) (hX : ∀ b ∈ X, p (cI b) = true) (hY : qga p Y) : skip p r.s r.pos = r.pos + X.length := by
 have hsz := h.size
 rw [List.length_append] at hsz
 refine qri (by omega) (by omega) (fun k h1 h2 => ?_) ?_
 ·have := h.chr (k - r.pos)
  rw [show r.pos + (k - r.pos) = k by omega] at this
  rw [this]
  have hk : k - r.pos < X.length := by omega
  have e : (X ++ Y).getD (k - r.pos) 0 = X[k - r.pos] := by
   simp only [List.getD]
   rw [List.getElem?_append_left hk, List.getElem?_eq_getElem hk]; rfl
  rw [e]
  exact hX _ (List.getElem_mem hk)
 ·cases Y with
  | nil => left; simp at hsz; omega
  | cons b Z =>
    right
    rw [h.chr X.length]
    have e : (X ++ b :: Z).getD X.length 0 = b := by
     simp only [List.getD]
     rw [List.getElem?_append_right (Nat.le_refl _)]; simp
    rw [e]
    exact hY b Z rfl
theorem qhi {r : Rd} {B : List UInt8} (h : r.rest B) (hB : qga isBl B) : r.blanks = r := by
 have := qjn (X := []) (p := isBl) h (by simp) hB
 unfold Rd.blanks
 rw [this]; rfl
theorem qwh {r : Rd} {B : List UInt8} (h : r.rest (32 :: B)) (hB : qga isBl B) : r.blanks = r.to (r.pos + 1) := by
 have := qjn (X := [32]) (p := isBl) (r := r) (Y := B) h (by simp [isBl, cI]) hB
 unfold Rd.blanks Rd.to
 rw [this]; rfl
theorem qjo {r : Rd} {X Y : List UInt8} (h : r.rest (X ++ Y)) (hX : ∀ b ∈ X, inW (cI b) = true) (hY : qga inW Y) : r.word = r.to (r.pos + X.length) ∧ r.wraw.data.toList = X := by
 have e : r.wend = r.pos + X.length := qjn h hX hY
 refine ⟨by unfold Rd.word Rd.to; rw [e], ?_⟩
 unfold Rd.wraw
 rw [e]
 obtain ⟨A, h1, h2⟩ := h
 rw [ByteArray.data_extract, Array.toList_extract, h1, h2]
 simp [List.extract]
def noSm (X : List UInt8) : Prop := ∀ b ∈ X, Go.Lib.isLowerB b = false
theorem q5o {s : ByteArray} (h : noSm s.data.toList) : upS s = s := by
 apply qcu
 show Go.Lib.toUpperA s.data.toList = _
 unfold Go.Lib.toUpperA
 conv => rhs; rw [← List.map_id s.data.toList]
 exact List.map_congr_left fun b hb => Go.Lib.upperB_of_not b (h b hb)
theorem qwi {p : Int → Bool} {s : ByteArray} (h : hasC p s = false) : ∀ b ∈ s.data.toList, p (cI b) = false := by
 intro b hb
 obtain ⟨i, hi, rfl⟩ := List.getElem_of_mem hb
 have := qqj h (i := i) hi
 unfold chr at this
 rw [show s.data.toList.getD i 0 = s.data.toList[i] from by simp only [List.getD]; rw [List.getElem?_eq_getElem hi]; rfl] at this
 exact this
theorem qfu {s : ByteArray} (h : qde s = true) : ∀ b ∈ s.data.toList, qbh (cI b) = false := qwi (by unfold qde at h; simpa using h)
theorem q2c {s : ByteArray} (h : qdo s = true) : ∀ b ∈ s.data.toList, badC (cI b) = false := qwi (by unfold qdo at h; simpa using h)
theorem qfh {c : Int} (h : qbh c = false) : 32 < c ∧ c ≤ 126 ∧ c ≠ 40 ∧ c ≠ 41 ∧ c ≠ 39 ∧ ¬ (97 ≤ c ∧ c ≤ 122) := by
 unfold qbh at h
 simp at h
 omega
theorem qmk {c : Int} (h : qbh c = false) : inW c = true := by rw [qm3]; have := qfh h; omega
theorem qml {b : UInt8} (h : qbh (cI b) = false) : Go.Lib.isLowerB b = false := by
 rw [Go.Lib.isLowerB_int]
 have := (qfh h).2.2.2.2.2
 unfold cI at this
 by_cases k : 97 ≤ (b.toNat : Int)
 ·rw [decide_eq_false (by omega : ¬ (b.toNat : Int) ≤ 122)]; simp
 ·rw [decide_eq_false k]; rfl
theorem qi4 {v : CVal} (h : vErr v = 0) (k : v.kind = 0) : v.text ≠ ⟨#[]⟩ ∧ qde v.text = true ∧ qdo v.text = true := by
 obtain ⟨h1, h⟩ := qci h
 obtain ⟨h2, h⟩ := qci h
 obtain ⟨h3, h⟩ := qci h
 obtain ⟨h4, h⟩ := qci h
 have h2 := qe3 h2 (by decide)
 have h4 := qe3 h4 (by decide)
 refine ⟨fun e => h2 ⟨k, e⟩, ?_, ?_⟩
 ·cases e : qde v.text with
  | true => rfl
  | false => exact absurd (.inl ⟨k, e⟩) h4
 ·cases e : qdo v.text with
  | true => rfl
  | false => exact absurd (.inr e) h4
theorem q72 {v : CVal} (h : vErr v = 0) : qdo v.text = true := by
 obtain ⟨h1, h⟩ := qci h
 obtain ⟨h2, h⟩ := qci h
 obtain ⟨h3, h⟩ := qci h
 obtain ⟨h4, h⟩ := qci h
 have h4 := qe3 h4 (by decide)
 cases e : qdo v.text with
 | true => rfl
 | false => exact absurd (.inr e) h4
def okY (op : Bool) (Y : List UInt8) : Prop := ∀ b Z, Y = b :: Z → b = 32 ∨ op = true ∧ b = 41
theorem qhj {q : Rd} {Y : List UInt8} {op : Bool} (hq : q.rest Y) (hY : okY op Y) : q.stop op = q := by
 rw [qbbt, if_neg]
 rintro ⟨h1, h2, h3⟩
 cases Y with
 | nil => have := hq.size; simp at this; omega
 | cons b Z =>
   rw [hq.chr0] at h2 h3
   rcases hY b Z rfl with rfl | ⟨h, rfl⟩
   ·exact h2 rfl
   ·exact h3 ⟨h, rfl⟩
theorem qkn {op : Bool} {Y : List UInt8} (h : okY op Y) : qga inW Y := fun b Z e => by
 rcases h b Z e with rfl | ⟨_, rfl⟩ <;> rfl
theorem qbbz {op : Bool} {Y : List UInt8} (h : okY op Y) : ∀ b Z, Y = b :: Z → ¬ cI b = 39 := fun b Z e => by
 rcases h b Z e with rfl | ⟨_, rfl⟩ <;> decide
theorem qko {v : CVal} (k : v.kind = 0) : writ v = v.text := if_pos k
theorem qi5 {v : CVal} (k : v.kind = 1) : (writ v).data.toList = 39 :: (dblL v.text.data.toList ++ [39]) := by
 unfold writ; rw [if_neg (by omega)]
theorem qg0 {v : CVal} (h : vErr v = 0) : ∃ b B, (writ v).data.toList = b :: B ∧ ¬ cI b = 32 ∧ ¬ cI b = 40 ∧ ¬ cI b = 41 ∧ (v.kind = 0 → qbh (cI b) = false) := by
 rcases (qdp h).1 with k | k
 ·obtain ⟨h1, h2, _⟩ := qi4 h k
  rw [qko k]
  cases e : v.text.data.toList with
  | nil => exact absurd (qcu (by rw [e])) h1
  | cons b B =>
    have hp := qfu h2 b (by rw [e]; simp)
    have := qfh hp
    exact ⟨b, B, rfl, by omega, by omega, by omega, fun _ => hp⟩
 ·exact ⟨39, _, qi5 k, by decide, by decide, by decide, fun e => by omega⟩
theorem q2d (b : UInt8) : qj1 (D.i .u8 (cI b)) = b := by
 show UInt8.ofNat (cI b).toNat = b
 unfold cI; simp
theorem q2e (l : List UInt8) : (txt (l.map cI)).data.toList = l := by
 show List.map qj1 ((l.map cI).map (D.i .u8)) = l
 rw [List.map_map, List.map_map]
 conv => rhs; rw [← List.map_id l]
 exact List.map_congr_left fun b _ => q2d b
theorem qwj : ∀ (t : List UInt8) (r : Rd) (Y : List UInt8) (out : List Int), r.rest (dblL t ++ 39 :: Y) → (∀ b Z, Y = b :: Z → ¬ cI b = 39) → qq r.s r.pos out = (r.pos + (dblL t).length + 1, out ++ t.map cI, true)
 | [], r, Y, out, h, hY => by
   have h : r.rest (39 :: Y) := h
   rw [qxr h.lt h.chr0]
   ·simp [dblL]
   ·rintro ⟨k1, k2⟩
    cases Y with
    | nil => have := h.size; simp at this; omega
    | cons b Z =>
      have := h.chr 1
      rw [this] at k2
      exact hY b Z rfl k2
 | b :: t, r, Y, out, h, hY => by
   by_cases e : b = 39
   ·subst e
    have h : r.rest (39 :: 39 :: (dblL t ++ 39 :: Y)) := h
    have h2 := h.chr 1
    have hs := h.size
    simp only [List.length_cons] at hs
    rw [q1k (by omega) h.chr0 h2]
    have := qwj t (r.to (r.pos + 2)) Y (out ++ [39]) (h.go (X := [39, 39]) rfl rfl) hY
    rw [show qq r.s (r.pos + 2) (out ++ [39]) = qq (r.to (r.pos + 2)).s (r.to (r.pos + 2)).pos (out ++ [39]) from rfl, this]
    simp [dblL, Rd.to, cI]
    omega
   ·have hd : dblL (b :: t) = b :: dblL t := by simp [dblL, e]
    rw [hd] at h ⊢
    have h : r.rest (b :: (dblL t ++ 39 :: Y)) := h
    have hc : ¬ chr r.s r.pos = 39 := by
     rw [h.chr0]
     intro k
     exact e (UInt8.toNat_inj.1 (by unfold cI at k; show b.toNat = 39; omega))
    rw [qxq h.lt hc, h.chr0]
    have := qwj t (r.to (r.pos + 1)) Y (out ++ [cI b]) (h.go (X := [b]) rfl rfl) hY
    rw [show qq r.s (r.pos + 1) (out ++ [cI b]) = qq (r.to (r.pos + 1)).s (r.to (r.pos + 1)).pos (out ++ [cI b]) from rfl, this]
    simp [Rd.to]
    omega
structure okR (r q : Rd) (Y : List UInt8) : Prop where
 rest : q.rest Y
 err : q.err = 0
 s : q.s = r.s
theorem qop {v : CVal} (h : vErr v = 0) {op : Bool} {r : Rd} {Y : List UInt8} (hr : r.rest ((writ v).data.toList ++ Y)) (he : r.err = 0) (hY : okY op Y) : r.valV = v ∧ okR r (r.valR.stop op) Y := by
 have h64 := (qdp h).2
 rcases (qdp h).1 with k | k
 ·obtain ⟨h1, h2, _⟩ := qi4 h k
  rw [qko k] at hr
  have hp := qfu h2
  obtain ⟨w1, w2⟩ := qjo hr (fun b hb => qmk (hp b hb)) (qkn hY)
  have e1 : r.wraw = v.text := qcu w2
  have e2 : r.wtxt = v.text := by rw [qof, e1, q5o fun b hb => qml (hp b hb)]
  have hq : r.word.rest Y := by rw [w1]; exact hr.go rfl rfl
  obtain ⟨b, B, f1, f2, f3, f4, f5⟩ := qg0 h
  rw [qko k] at f1
  have hn : ¬ chr r.s r.pos = 39 := by
   rw [f1] at hr
   rw [hr.chr0]
   have := qfh (f5 k); omega
  have hlt : r.pos < r.s.size := by rw [f1] at hr; exact hr.lt
  obtain ⟨v1, v2⟩ := qy8 hlt hn (by rw [e1]; omega)
  rw [v1, v2, qhj hq hY, e2]
  refine ⟨?_, hq, by rw [w1]; exact he, by rw [w1]; rfl⟩
  cases v; simp only at k; subst k; rfl
 ·rw [qi5 k] at hr
  have hr0 := hr
  have hr : r.rest (39 :: (dblL v.text.data.toList ++ 39 :: Y)) := by
   have e : (39 :: (dblL v.text.data.toList ++ [39])) ++ Y = 39 :: (dblL v.text.data.toList ++ 39 :: Y) := by simp
   rw [e] at hr; exact hr
  obtain ⟨v1, v2⟩ := q5i hr.lt hr.chr0
  have hq := qwj v.text.data.toList (r.to (r.pos + 1)) Y [] (hr.go (X := [39]) rfl rfl) (qbbz hY)
  have hq : r.qres = (r.pos + 1 + (dblL v.text.data.toList).length + 1, v.text.data.toList.map cI, true) := hq
  have hqv : r.qval = ⟨1, v.text⟩ := by
   unfold Rd.qval
   rw [hq]
   show (⟨1, txt (v.text.data.toList.map cI)⟩ : CVal) = _
   rw [qcu (q2e v.text.data.toList)]
  have hqq : r.quoted = r.to (r.pos + 1 + (dblL v.text.data.toList).length + 1) := by
   unfold Rd.quoted
   rw [hq]
   simp only [if_true]
   rw [if_neg (by rw [List.length_map]; exact Nat.not_lt.2 h64)]
  have hrq : r.quoted.rest Y := by
   rw [hqq]
   refine hr0.go rfl ?_
   show r.pos + 1 + (dblL v.text.data.toList).length + 1 = _
   simp only [List.length_cons, List.length_append, List.length_nil]; omega
  rw [v1, v2, qhj hrq hY, hqv]
  refine ⟨?_, hrq, by rw [hqq]; exact he, by rw [hqq]; rfl⟩
  cases v; simp only at k; subst k; rfl
def qe4 (vs : List CVal) (Z : List UInt8) : List UInt8 := (vs.map fun v => 32 :: (writ v).data.toList).flatten ++ 41 :: Z
theorem qwk (v : CVal) (vs : List CVal) (Z : List UInt8) : (spJ ((v :: vs).map writ)).data.toList ++ 41 :: Z = (writ v).data.toList ++ qe4 vs Z := by
 unfold spJ qe4
 rw [qqn, List.map_cons, List.map_cons, Go.Lib.join_cons, List.append_assoc]
 congr 1
 congr 1
 unfold Go.Lib.joinTail
 rw [List.map_map, List.map_map]
 rfl
theorem qqs {v : CVal} (h : vErr v = 0) (Z : List UInt8) : qga isBl ((writ v).data.toList ++ Z) := by
 obtain ⟨b, B, f1, f2, _⟩ := qg0 h
 rw [f1]
 intro c W e
 cases e
 unfold isBl; rw [decide_eq_false f2]
theorem qta (op : Nat) : ∀ (vs : List CVal) (v : CVal) (n : Nat) (r : Rd) (out : List CVal) (Y : List UInt8), (∀ x ∈ v :: vs, vErr x = 0) → r.rest ((writ v).data.toList ++ qe4 vs Y) → r.err = 0 → out.length + 1 + vs.length ≤ 10 → vs.length + 2 ≤ n → okY false Y →
 (lrun op n r out).2 = out ++ v :: vs ∧ okR r (lrun op n r out).1 Y
 | vs, v, 0, r, out, Y, _, _, _, _, hn, _ => by omega
 | vs, v, m + 1, r, out, Y, hv, hr, he, hl, hn, hY => by
   have hv1 := hv v (by simp)
   obtain ⟨b, B, f1, f2, f3, f4, _⟩ := qg0 hv1
   have hr2 : r.rest (b :: (B ++ qe4 vs Y)) := by rw [f1] at hr; exact hr
   have hok : okY true (qe4 vs Y) := by
    intro c Z e
    cases vs with
    | nil => cases e; exact .inr ⟨rfl, rfl⟩
    | cons x xs => unfold qe4 at e; simp only [List.map_cons, List.flatten_cons, List.cons_append] at e; cases e; exact .inl rfl
   obtain ⟨g1, g2⟩ := qop hv1 hr he hok
   unfold lrun
   rw [if_pos ⟨he, hr2.lt, by rw [hr2.isAt]; exact decide_eq_false f4⟩, if_neg (by omega), if_neg (by rw [hr2.isAt, decide_eq_false f3]; decide), g1]
   cases vs with
   | nil =>
     have hq : (r.valR.stop true).rest (41 :: Y) := g2.rest
     rw [qhi hq (fun c W e => by cases e; rfl)]
     obtain ⟨k, rfl⟩ : ∃ k, m = k + 1 := ⟨m - 1, by simp at hn; omega⟩
     unfold lrun
     rw [if_neg (by rw [hq.isAt]; simp [cI]), if_neg (by simp [g2.err]), if_neg (by have := hq.lt; omega), if_neg (by simp)]
     have hq2 : ((r.valR.stop true).to ((r.valR.stop true).pos + 1)).rest Y := hq.go (X := [41]) rfl rfl
     rw [qhj hq2 hY]
     exact ⟨rfl, hq2, g2.err, g2.s⟩
   | cons x xs =>
     have hq : (r.valR.stop true).rest (32 :: ((writ x).data.toList ++ qe4 xs Y)) := by
      have := g2.rest
      unfold qe4 at this
      simp only [List.map_cons, List.flatten_cons, List.cons_append, List.append_assoc] at this
      exact this
     have hx : ∀ y ∈ x :: xs, vErr y = 0 := fun y hy => hv y (List.mem_cons_of_mem _ hy)
     rw [qwh hq (qqs (hx x (by simp)) _)]
     have hq2 : ((r.valR.stop true).to ((r.valR.stop true).pos + 1)).rest ((writ x).data.toList ++ qe4 xs Y) := hq.go (X := [32]) rfl rfl
     obtain ⟨e1, e2⟩ := qta op xs x m _ (out ++ [v]) Y hx hq2 g2.err (by rw [List.length_append, List.length_singleton]; simp only [List.length_cons] at hl; omega) (by simp only [List.length_cons] at hn; omega) hY
     exact ⟨by rw [e1]; simp, e2.rest, e2.err, e2.s.trans g2.s⟩
theorem qtb {v : CVal} {vs : List CVal} {r : Rd} {Y : List UInt8} (hv : ∀ x ∈ v :: vs, vErr x = 0) (hr : r.rest (40 :: ((spJ ((v :: vs).map writ)).data.toList ++ 41 :: Y))) (he : r.err = 0) (hl : (v :: vs).length ≤ 10) (hY : okY false Y) :
 r.list.2 = v :: vs ∧ okR r r.list.1 Y := by
 rw [qwk] at hr
 have hq : (r.to (r.pos + 1)).rest ((writ v).data.toList ++ qe4 vs Y) := hr.go (X := [40]) rfl rfl
 have := qta r.pos vs v 12 (r.to (r.pos + 1)) [] Y hv hq he (by simp at hl ⊢; omega) (by simp at hl; omega) hY
 unfold Rd.list
 rw [qhi hq (qqs (hv v (by simp)) _)]
 exact ⟨this.1, this.2.rest, this.2.err, this.2.s⟩
theorem qco {s : ByteArray} (h : q0l s = true) : ∀ b ∈ s.data.toList, qbh (cI b) = false := by
 intro b hb
 obtain ⟨i, hi, rfl⟩ := List.getElem_of_mem hb
 unfold q0l at h
 simp only [Bool.and_eq_true, decide_eq_true_eq, List.all_eq_true, List.mem_range] at h
 have := h.2 i hi
 rw [qhz] at this
 unfold chr at this
 rw [show s.data.toList.getD i 0 = s.data.toList[i] from by simp only [List.getD]; rw [List.getElem?_eq_getElem hi]; rfl] at this
 rw [← Bool.not_eq_true]
 unfold qbh cI
 generalize ((s.data.toList[i]).toNat : Int) = c at this ⊢
 simp
 omega
theorem qnd {s : ByteArray} (h : q0l s = true) : ∃ b B, s.data.toList = b :: B ∧ qbh (cI b) = false := by
 cases e : s.data.toList with
 | nil => have := (qjy h).1; rw [qya, e] at this; simp at this
 | cons b B => exact ⟨b, B, rfl, qco h b (by rw [e]; simp)⟩
theorem q5p {s : ByteArray} (h : q0l s = true) {r : Rd} {Y : List UInt8} (hr : r.rest (s.data.toList ++ Y)) (hY : qga inW Y) : r.word = r.to (r.pos + s.size) ∧ r.wtxt = s ∧ r.word.rest Y := by
 obtain ⟨w1, w2⟩ := qjo hr (fun b hb => qmk (qco h b hb)) hY
 have e1 : r.wraw = s := qcu w2
 refine ⟨w1, by rw [qof, e1, q5o fun b hb => qml (qco h b hb)], by rw [w1]; exact hr.go rfl rfl⟩
theorem q2f {p : CPart} (h : pErr p = 0) {r : Rd} {Y : List UInt8} (hr : r.rest ((qbv p).data.toList ++ Y)) (he : r.err = 0) (hY : okY false Y) : r.partV = p ∧ okR r r.partR Y := by
 obtain ⟨_, h2, h3, h4⟩ := qgz h
 have hv : ∀ x ∈ p.values, vErr x = 0 := fun x hx => by
  obtain ⟨k, hk, e⟩ := qhh qbi hx
  rw [← e]; exact h4 k hk
 obtain ⟨v, vs, hvs⟩ : ∃ v vs, p.values = v :: vs := by
  cases e : p.values with
  | nil => rw [e] at h2; simp at h2
  | cons v vs => exact ⟨v, vs, rfl⟩
 by_cases c : p.keyword = ⟨#[]⟩ ∧ p.values.length = 1
 ·have hvs0 : vs = [] := by
   have := c.2; rw [hvs] at this; simpa using this
  subst hvs0
  have hv1 := hv v (by rw [hvs]; simp)
  have ht : (qbv p).data.toList = (writ v).data.toList := by
   unfold qbv; rw [if_pos c, hvs, List.map_cons, List.map_nil, qnc]
  rw [ht] at hr
  obtain ⟨b, B, f1, f2, f3, f4, f5⟩ := qg0 hv1
  have hr2 : r.rest (b :: (B ++ Y)) := by rw [f1] at hr; exact hr
  obtain ⟨g1, g2⟩ := qop hv1 hr he hY
  have hp : (⟨⟨#[]⟩, [v]⟩ : CPart) = p := by cases p; simp only at c hvs; rw [c.1, hvs]
  have a40 : isAt r.s r.pos 40 = false := by rw [hr2.isAt]; exact decide_eq_false f3
  have a41 : isAt r.s r.pos 41 = false := by rw [hr2.isAt]; exact decide_eq_false f4
  by_cases q : isAt r.s r.pos 39 = true
  ·have hV : r.partV = ⟨⟨#[]⟩, [r.valV]⟩ := by unfold Rd.partV; rw [if_neg (by rw [a40]; decide), if_neg (by rw [a41]; decide), if_pos q]
   have hR : r.partR = r.valR.stop false := by unfold Rd.partR; rw [if_neg (by rw [a40]; decide), if_neg (by rw [a41]; decide), if_pos q]
   rw [hV, hR, g1]; exact ⟨hp, g2⟩
  ·have hk : v.kind = 0 := by
    rcases (qdp hv1).1 with k | k
    ·exact k
    ·exfalso
     rw [qi5 k] at hr
     have hr3 : r.rest (39 :: ((dblL v.text.data.toList ++ [39]) ++ Y)) := hr
     rw [hr3.isAt] at q
     exact q rfl
   obtain ⟨h1, hpl, _⟩ := qi4 hv1 hk
   rw [qko hk] at hr
   obtain ⟨w1, w2⟩ := qjo hr (fun b hb => qmk (qfu hpl b hb)) (qkn hY)
   have hq : r.word.rest Y := by rw [w1]; exact hr.go rfl rfl
   have a : isAt r.s r.word.pos 40 = false := by
    have e : r.s = r.word.s := rfl
    rw [e]
    cases Y with
    | nil => exact hq.isAt0 40
    | cons b Z =>
      rw [hq.isAt]
      rcases hY b Z rfl with rfl | ⟨k, _⟩
      ·rfl
      ·cases k
   have hV : r.partV = ⟨⟨#[]⟩, [r.valV]⟩ := by unfold Rd.partV; rw [if_neg (by rw [a40]; decide), if_neg (by rw [a41]; decide), if_neg q, if_pos a]
   have hR : r.partR = r.valR.stop false := by unfold Rd.partR; rw [if_neg (by rw [a40]; decide), if_neg (by rw [a41]; decide), if_neg q, if_pos a]
   rw [hV, hR, g1]; exact ⟨hp, g2⟩
 ·have ht : (qbv p).data.toList ++ Y = p.keyword.data.toList ++ (40 :: ((spJ ((v :: vs).map writ)).data.toList ++ 41 :: Y)) := by
   unfold qbv; rw [if_neg c, hvs]; simp only [qc4, List.append_assoc]; rfl
  rw [ht] at hr
  have hvv : ∀ x ∈ v :: vs, vErr x = 0 := by rw [← hvs]; exact hv
  have hll : (v :: vs).length ≤ 10 := by rw [← hvs]; exact h3
  by_cases k : p.keyword = ⟨#[]⟩
  ·rw [k] at hr
   have hr : r.rest (40 :: ((spJ ((v :: vs).map writ)).data.toList ++ 41 :: Y)) := hr
   have a40 : isAt r.s r.pos 40 = true := by rw [hr.isAt]; rfl
   obtain ⟨e1, e2⟩ := qtb hvv hr he hll hY
   have hV : r.partV = ⟨⟨#[]⟩, r.list.2⟩ := by unfold Rd.partV; rw [if_pos a40]
   have hR : r.partR = r.list.1 := by unfold Rd.partR; rw [if_pos a40]
   rw [hV, hR, e1]
   refine ⟨?_, e2⟩
   cases p; simp only at k hvs; rw [k, hvs]
  ·have nm : q0l p.keyword = true := by
    have hh : qdh p = 0 := by
     by_cases e : qdh p = 0
     ·exact e
     ·rw [qgy e] at h; exact absurd h e
    have h1 := qe3 (qci hh).1 (by decide)
    cases n : q0l p.keyword with
    | true => rfl
    | false => exact absurd ⟨k, n⟩ h1
   obtain ⟨w1, w2, w3⟩ := q5p nm hr (fun b Z e => by cases e; rfl)
   obtain ⟨b, B, f1, f2⟩ := qnd nm
   have f3 := qfh f2
   have hr2 : r.rest (b :: (B ++ (40 :: ((spJ ((v :: vs).map writ)).data.toList ++ 41 :: Y)))) := by rw [f1] at hr; exact hr
   have a : ∀ c, c = 40 ∨ c = 41 ∨ c = 39 → isAt r.s r.pos c = false := fun c hc => by rw [hr2.isAt]; exact decide_eq_false (by omega)
   have a2 : isAt r.s r.word.pos 40 = true := by
    have e : r.s = r.word.s := rfl
    rw [e, w3.isAt]; rfl
   obtain ⟨e1, e2⟩ := qtb hvv w3 (by rw [w1]; exact he) hll hY
   have hV : r.partV = ⟨p.keyword, r.word.list.2⟩ := by unfold Rd.partV; rw [if_neg (by rw [a 40 (by simp)]; decide), if_neg (by rw [a 41 (by simp)]; decide), if_neg (by rw [a 39 (by simp)]; decide), if_neg (by rw [a2]; decide), w2, if_neg (by rw [nm]; decide)]
   have hR : r.partR = r.word.list.1 := by unfold Rd.partR; rw [if_neg (by rw [a 40 (by simp)]; decide), if_neg (by rw [a 41 (by simp)]; decide), if_neg (by rw [a 39 (by simp)]; decide), if_neg (by rw [a2]; decide), w2, if_neg (by rw [nm]; decide)]
   rw [hV, hR, e1]
   refine ⟨?_, e2.rest, e2.err, e2.s⟩
   cases p; simp only at hvs; rw [hvs]
end Go.Ev
namespace Go.Ev
def qek (ps : List CPart) : List UInt8 := (ps.map fun p => 32 :: (qbv p).data.toList).flatten
theorem qg1 : ∀ (ps : List CPart) (s : ByteArray), (comL s ps).data.toList = s.data.toList ++ qek ps
 | [], s => by simp [comL, qek]
 | p :: ps, s => by
   have := qg1 ps (s ++ (chS 32 ++ qbv p))
   show (comL (s ++ (chS 32 ++ qbv p)) ps).data.toList = _
   rw [this, qc4, qc4]
   unfold qek
   simp only [List.map_cons, List.flatten_cons, List.append_assoc]
   rfl
theorem qnz {p : CPart} (h : pErr p = 0) : ∃ b B, (qbv p).data.toList = b :: B ∧ ¬ cI b = 32 := by
 obtain ⟨_, h2, h3, h4⟩ := qgz h
 obtain ⟨v, vs, hvs⟩ : ∃ v vs, p.values = v :: vs := by
  cases e : p.values with
  | nil => rw [e] at h2; simp at h2
  | cons v vs => exact ⟨v, vs, rfl⟩
 have hv1 : vErr v = 0 := by have := h4 0 (by omega); rw [hvs] at this; exact this
 obtain ⟨b, B, f1, f2, _⟩ := qg0 hv1
 by_cases c : p.keyword = ⟨#[]⟩ ∧ p.values.length = 1
 ·have hvs0 : vs = [] := by have := c.2; rw [hvs] at this; simpa using this
  subst hvs0
  refine ⟨b, B, ?_, f2⟩
  unfold qbv; rw [if_pos c, hvs, List.map_cons, List.map_nil, qnc, f1]
 ·unfold qbv
  rw [if_neg c]
  simp only [qc4, List.append_assoc]
  cases e : p.keyword.data.toList with
  | nil => exact ⟨40, _, rfl, by decide⟩
  | cons k K =>
    refine ⟨k, _, rfl, ?_⟩
    have hh : qdh p = 0 := by
     by_cases e : qdh p = 0
     ·exact e
     ·rw [qgy e] at h; exact absurd h e
    have h1 := qe3 (qci hh).1 (by decide)
    have nm : q0l p.keyword = true := by
     cases n : q0l p.keyword with
     | true => rfl
     | false => exact absurd ⟨fun q => (by rw [q] at e; cases e), n⟩ h1
    have := qfh (qco nm k (by rw [e]; simp))
    omega
theorem qxa {p : CPart} (h : pErr p = 0) (Z : List UInt8) : qga isBl ((qbv p).data.toList ++ Z) := by
 obtain ⟨b, B, f1, f2⟩ := qnz h
 rw [f1]
 intro c W e
 cases e
 unfold isBl; rw [decide_eq_false f2]
theorem qoq (ps : List CPart) : okY false (qek ps) := by
 intro b Z e
 cases ps with
 | nil => cases e
 | cons p ps => unfold qek at e; simp only [List.map_cons, List.flatten_cons, List.cons_append] at e; cases e; exact .inl rfl
theorem qtc : ∀ (ps : List CPart) (n : Nat) (r : Rd) (out : List CPart), (∀ p ∈ ps, pErr p = 0) → r.rest (qek ps) → r.err = 0 → out.length + ps.length ≤ 12 → ps.length + 1 ≤ n → (prun n r.blanks out).2 = out ++ ps ∧ (prun n r.blanks out).1.err = 0
 | ps, 0, r, out, _, _, _, _, hn => by omega
 | [], n + 1, r, out, _, hr, he, _, _ => by
   have hr : r.rest [] := hr
   rw [qhi hr (fun b Z e => by cases e)]
   have hs := hr.size
   unfold prun
   rw [if_neg (by rintro ⟨_, k⟩; simp at hs; omega)]
   exact ⟨by simp, he⟩
 | p :: ps, n + 1, r, out, hp, hr, he, hl, hn => by
   have hp1 := hp p (by simp)
   have hr : r.rest (32 :: ((qbv p).data.toList ++ qek ps)) := by
    unfold qek at hr ⊢
    simp only [List.map_cons, List.flatten_cons, List.cons_append] at hr
    exact hr
   rw [qwh hr (qxa hp1 _)]
   have hq : (r.to (r.pos + 1)).rest ((qbv p).data.toList ++ qek ps) := hr.go (X := [32]) rfl rfl
   obtain ⟨e1, e2⟩ := q2f hp1 hq he (qoq ps)
   obtain ⟨b, B, f1, _⟩ := qnz hp1
   have hlt : (r.to (r.pos + 1)).pos < (r.to (r.pos + 1)).s.size := by rw [f1] at hq; exact hq.lt
   simp only [List.length_cons] at hl hn
   unfold prun
   rw [if_pos ⟨he, hlt⟩, if_neg (by omega), e1]
   obtain ⟨g1, g2⟩ := qtc ps n _ (out ++ [p]) (fun q hq => hp q (by simp [hq])) e2.rest e2.err (by rw [List.length_append, List.length_singleton]; omega) (by omega)
   exact ⟨by rw [g1]; simp, g2⟩
theorem qgb {c : Int} (h : qbh c = false) : badC c = false := by have := qfh h; exact qt4 ⟨by omega, by omega⟩
theorem q73 {l : List UInt8} (h : ∀ b ∈ l, badC (cI b) = false) : ∀ b ∈ dblL l, badC (cI b) = false := by
 induction l with
 | nil => intro b hb; cases hb
 | cons x l ih =>
   have ih := ih fun b hb => h b (by simp [hb])
   intro b hb
   unfold dblL at hb
   split at hb
   ·simp only [List.mem_cons] at hb
    rcases hb with rfl | rfl | hb
    ·rfl
    ·rfl
    ·exact ih b hb
   ·simp only [List.mem_cons] at hb
    rcases hb with rfl | hb
    ·exact h b (by simp)
    ·exact ih b hb
theorem qwl {v : CVal} (h : vErr v = 0) : ∀ b ∈ (writ v).data.toList, badC (cI b) = false := by
 have hs := q2c (q72 h)
 rcases (qdp h).1 with k | k
 ·rw [qko k]; exact hs
 ·rw [qi5 k]
  intro b hb
  simp only [List.mem_cons, List.mem_append, List.not_mem_nil, or_false] at hb
  rcases hb with rfl | hb | rfl
  ·rfl
  ·exact q73 hs b hb
  ·rfl
theorem qyb {l : List CVal} (h : ∀ v ∈ l, vErr v = 0) : ∀ b ∈ (spJ (l.map writ)).data.toList, badC (cI b) = false := by
 cases l with
 | nil => intro b hb; cases hb
 | cons v l =>
   unfold spJ
   rw [qqn, List.map_cons, List.map_cons, Go.Lib.join_cons]
   intro b hb
   rcases List.mem_append.1 hb with hb | hb
   ·exact qwl (h v (by simp)) b hb
   ·unfold Go.Lib.joinTail at hb
    obtain ⟨x, hx, hb⟩ := List.mem_flatten.1 hb
    obtain ⟨y, hy, rfl⟩ := List.mem_map.1 hx
    obtain ⟨z, hz, rfl⟩ := List.mem_map.1 hy
    obtain ⟨w, hw, rfl⟩ := List.mem_map.1 hz
    simp only [List.cons_append, List.nil_append, List.mem_cons] at hb
    rcases hb with rfl | hb
    ·rfl
    ·exact qwl (h w (by simp [hw])) b hb
theorem qtd {p : CPart} (h : pErr p = 0) : ∀ b ∈ (qbv p).data.toList, badC (cI b) = false := by
 obtain ⟨_, h2, h3, h4⟩ := qgz h
 have hv : ∀ x ∈ p.values, vErr x = 0 := fun x hx => by
  obtain ⟨k, hk, e⟩ := qhh qbi hx
  rw [← e]; exact h4 k hk
 unfold qbv
 split
 ·exact qyb hv
 ·intro b hb
  simp only [qc4, List.mem_append] at hb
  rcases hb with ((hb | hb) | hb) | hb
  ·have hh : qdh p = 0 := by
    by_cases e : qdh p = 0
    ·exact e
    ·rw [qgy e] at h; exact absurd h e
   have h1 := qe3 (qci hh).1 (by decide)
   cases n : q0l p.keyword with
   | true => exact qgb (qco n b hb)
   | false => exact absurd ⟨fun q => (by rw [q] at hb; cases hb), n⟩ h1
  ·have : b = 40 := by simpa [chS] using hb
   subst this; rfl
  ·exact qyb hv b hb
  ·have : b = 41 := by simpa [chS] using hb
   subst this; rfl
theorem qkp {c : CStr} (h : cErr c = 0) : q0l c.name = true := by
 have hh : qf1 c = 0 := by
  by_cases e : qf1 c = 0
  ·exact e
  ·rw [qmg e] at h; exact absurd h e
 have h1 := qe3 (qci hh).1 (by decide)
 simpa using h1
theorem qkq {c : CStr} (h : cErr c = 0) : ∀ p ∈ c.parts, pErr p = 0 := fun p hp => by
 obtain ⟨k, hk, e⟩ := qhh q0b hp
 rw [← e]; exact (qi3 h).2.2 k hk
theorem qwm {s : ByteArray} (h : ∀ b ∈ s.data.toList, badC (cI b) = false) : qei s = -1 := by
 refine q3y fun j hj => ?_
 have hj' : j < s.data.toList.length := hj
 unfold chr
 rw [show s.data.toList.getD j 0 = s.data.toList[j] from by simp only [List.getD]; rw [List.getElem?_eq_getElem hj']; rfl]
 exact h _ (List.getElem_mem hj')
theorem q4n {c : CStr} (h : cErr c = 0) : qei (comT c) = -1 := by
 refine qwm fun b hb => ?_
 unfold comT at hb
 rw [qg1] at hb
 rcases List.mem_append.1 hb with hb | hb
 ·exact qgb (qco (qkp h) b hb)
 ·unfold qek at hb
  obtain ⟨x, hx, hb⟩ := List.mem_flatten.1 hb
  obtain ⟨p, hp, rfl⟩ := List.mem_map.1 hx
  simp only [List.mem_cons] at hb
  rcases hb with rfl | hb
  ·rfl
  ·exact qtd (qkq h p hp) b hb
theorem q00b {c : CStr} (h : cErr c = 0) (hs : (comT c).size ≤ 400) : qca (comT c) = (c, 0, 0) := by
 have nm := qkp h
 obtain ⟨_, h12, _⟩ := qi3 h
 have hr : (rd0 (comT c)).rest (c.name.data.toList ++ qek c.parts) := ⟨[], by show (comT c).data.toList = _; unfold comT; rw [qg1]; rfl, rfl⟩
 obtain ⟨b, B, f1, f2⟩ := qnd nm
 have f3 := qfh f2
 have hr2 : (rd0 (comT c)).rest (b :: (B ++ qek c.parts)) := by rw [f1] at hr; exact hr
 have e0 : (rd0 (comT c)).blanks = rd0 (comT c) := qhi hr2 (fun d Z e => by cases e; unfold isBl; rw [decide_eq_false (by omega)])
 obtain ⟨w1, w2, w3⟩ := q5p nm hr (qkn (qoq _))
 have hne : ¬ (rd0 (comT c)).blanks.pos = (rd0 (comT c)).s.size := by rw [e0]; have := hr2.lt; omega
 have hT : (rd0 (comT c)).nmT = c.name := by rw [qpr hne, e0, w2]
 have hR : (rd0 (comT c)).nmR = (rd0 (comT c)).word := by
  rw [qtv hne (by rw [e0, w2]; exact nm), e0, qhj w3 (qoq _)]
 obtain ⟨g1, g2⟩ := qtc c.parts 13 (rd0 (comT c)).word [] (qkq h) w3 (by rw [w1]; rfl) (by simpa using h12) (by omega)
 rw [qjh (L := prun 13 (rd0 (comT c)).word.blanks []) (by omega) (by rw [q4n h]; decide) (by rw [hR]) g2, hT, g1]
 rfl
end Go.Ev
namespace Go.Ev
theorem qll {p : Int → Bool} {s : ByteArray} : ∀ (n i : Nat), s.size - i ≤ n → qb0 p s n i < s.size → p (chr s (qb0 p s n i)) = false
 | 0, i, h, k => by unfold qb0 at k; omega
 | n + 1, i, h, k => by
   unfold qb0 at k ⊢
   by_cases e : i < s.size ∧ p (chr s i) = true
   ·rw [if_pos e] at k ⊢; exact qll n (i + 1) (by omega) k
   ·rw [if_neg e] at k ⊢
    cases q : p (chr s i) with
    | false => rfl
    | true => exact absurd ⟨k, q⟩ e
theorem q2g {p : Int → Bool} {s : ByteArray} {i : Nat} (k : skip p s i < s.size) : p (chr s (skip p s i)) = false := qll _ _ (by omega) k
theorem qmm {p : Int → Bool} {s : ByteArray} : ∀ (n i k : Nat), i ≤ k → k < qb0 p s n i → p (chr s k) = true
 | 0, i, k, h1, h2 => by unfold qb0 at h2; omega
 | n + 1, i, k, h1, h2 => by
   unfold qb0 at h2
   by_cases e : i < s.size ∧ p (chr s i) = true
   ·rw [if_pos e] at h2
    by_cases q : i = k
    ·subst q; exact e.2
    ·exact qmm n (i + 1) k (by omega) h2
   ·rw [if_neg e] at h2; omega
theorem q4o {p : Int → Bool} {s : ByteArray} {i : Nat} (h : i < s.size) (hp : p (chr s i) = true) : i < skip p s i := by
 unfold skip
 obtain ⟨n, hn⟩ : ∃ n, s.size = n + 1 := ⟨s.size - 1, by omega⟩
 rw [hn]
 unfold qb0
 rw [if_pos ⟨h, hp⟩]
 have := (qhu (p := p) (s := s) n (i + 1) (by omega)).1
 omega
theorem qn0 {r : Rd} (k : r.blanks.pos < r.s.size) : ¬ chr r.s r.blanks.pos = 32 := by
 have := q2g (p := isBl) (s := r.s) (i := r.pos) k
 intro e
 rw [show r.blanks.pos = skip isBl r.s r.pos from rfl] at e
 rw [e] at this; cases this
theorem qor {q : Rd} {op : Bool} (h : (q.stop op).err = 0) : q.err = 0 := by
 by_cases e : q.err = 0
 ·exact e
 ·rw [qgn e] at h; exact h
theorem qlf {s : ByteArray} (hs : ∀ k, k < s.size → badC (chr s k) = false) : ∀ (n i : Nat) (l : List Int), (∀ c ∈ l, badC c = false) → ∀ c ∈ (qrun s n i l).2.1, badC c = false
 | 0, i, l, h => h
 | n + 1, i, l, h => by
   unfold qrun
   split
   ·rename_i hi
    split
    ·split
     ·refine qlf hs n (i + 2) _ fun c hc => ?_
      rcases List.mem_append.1 hc with hc | hc
      ·exact h c hc
      ·rw [List.mem_singleton] at hc; subst hc; rfl
     ·exact h
    ·refine qlf hs n (i + 1) _ fun c hc => ?_
     rcases List.mem_append.1 hc with hc | hc
     ·exact h c hc
     ·rw [List.mem_singleton] at hc; subst hc; exact hs i hi
   ·exact h
theorem q4p {s : ByteArray} (h : qfm s) : ∀ k, k < s.size → badC (chr s k) = false := fun k hk => qt4 (h.2 k hk)
theorem q74 (l : List Int) (hl : ∀ c ∈ l, 0 ≤ c ∧ c ≤ 255) {j : Nat} (h : j < (txt l).size) : chr (txt l) j = l.getD j 0 := by
 rw [qog] at h
 have e : (txt l).data.toList = l.map fun c => UInt8.ofNat c.toNat := by
  show List.map qj1 (l.map (D.i .u8)) = _
  rw [List.map_map]; rfl
 unfold chr
 rw [e]
 simp only [List.getD, List.getElem?_map, List.getElem?_eq_getElem h, Option.map_some, Option.getD_some]
 have := hl _ (List.getElem_mem h)
 simp; omega
theorem qyc {c : Int} (h : badC c = false) : 32 ≤ c ∧ c ≤ 126 := by
 unfold badC at h; simp at h; omega
theorem q00c {r : Rd} (hs : qfm r.s) (he : r.err = 0) (h : r.quoted.err = 0) : vErr r.qval = 0 := by
 unfold Rd.quoted at h
 by_cases c : r.qres.2.2 = true
 ·rw [if_pos c] at h
  by_cases k : 64 < r.qres.2.1.length
  ·rw [if_pos k, qcb (r := r.to r.qres.1) he] at h; cases h
  ·have hq : r.qval = ⟨1, txt r.qres.2.1⟩ := by unfold Rd.qval; rw [if_pos c]; rfl
   have hc := qlf (q4p hs) (r.s.size + 1) (r.pos + 1) [] (fun c hc => by cases hc)
   have hc : ∀ c ∈ r.qres.2.1, badC c = false := hc
   rw [hq]
   refine qvy (by simp) (by simp) (by rw [show ((⟨1, txt r.qres.2.1⟩ : CVal)).text = txt r.qres.2.1 from rfl, qog]; omega) ?_
   rintro (⟨a, _⟩ | b)
   ·cases a
   ·rw [qmi] at b
    ·cases b
    ·intro j hj
     have hj : j < (txt r.qres.2.1).size := hj
     show badC (chr (txt r.qres.2.1) j) = false
     rw [q74 _ (fun c hx => by have := qyc (hc c hx); omega) hj]
     exact hc _ (qiz 0 (by rw [qog] at hj; exact hj))
 ·rw [if_neg c, qcb (r := r.to r.qres.1) he] at h; cases h
theorem q4q {b : UInt8} (h1 : inW (cI b) = true) (h2 : 32 ≤ cI b ∧ cI b ≤ 126) : qbh (cI (Go.Lib.upperB b)) = false := by
 rw [qm3] at h1
 rw [← Bool.not_eq_true]
 cases e : Go.Lib.isLowerB b with
 | true =>
   have := Go.Lib.upperB_int b e
   rw [Go.Lib.isLowerB_int] at e
   simp only [Bool.and_eq_true, decide_eq_true_eq] at e
   unfold cI at *
   rw [this]
   unfold qbh; simp; omega
 | false =>
   rw [Go.Lib.upperB_of_not b e]
   rw [Go.Lib.isLowerB_int] at e
   simp only [Bool.and_eq_false_iff, decide_eq_false_iff_not] at e
   unfold cI at *
   unfold qbh; simp; omega
theorem q00d {r : Rd} (hs : qfm r.s) (h0 : r.pos < r.s.size) (hw : inW (chr r.s r.pos) = true) : r.wtxt ≠ ⟨#[]⟩ ∧ qde r.wtxt = true := by
 have hadv := q4o (p := inW) h0 hw
 have hle := (qer (r := r) (by omega)).2
 have hle : r.wend ≤ r.s.size := hle
 have hadv : r.pos < r.wend := hadv
 have hl : r.wraw.data.toList.length = r.wend - r.pos := by
  show r.wraw.size = _
  unfold Rd.wraw; rw [ByteArray.size_extract]; omega
 constructor
 ·intro e
  have := congrArg ByteArray.size e
  rw [qgo] at this
  have h2 : r.wraw.size = r.wend - r.pos := hl
  have h3 : (⟨#[]⟩ : ByteArray).size = 0 := rfl
  omega
 ·unfold qde
  rw [qrq]
  ·rfl
  ·intro j hj
   rw [qgo] at hj
   have hj2 : j < r.wraw.data.toList.length := hj
   have e1 : chr r.wtxt j = cI (Go.Lib.upperB (r.wraw.data.toList[j])) := by
    unfold chr cI
    have : r.wtxt.data.toList = r.wraw.data.toList.map Go.Lib.upperB := rfl
    rw [this]
    simp only [List.getD, List.getElem?_map, List.getElem?_eq_getElem hj2, Option.map_some, Option.getD_some]
   have e2 : cI (r.wraw.data.toList[j]) = chr r.s (r.pos + j) := by
    unfold chr cI
    have hlt : r.pos + j < r.s.data.toList.length := by show r.pos + j < r.s.size; omega
    have : r.wraw.data.toList[j]? = r.s.data.toList[r.pos + j]? := by
     unfold Rd.wraw
     rw [ByteArray.data_extract, Array.toList_extract]
     simp only [List.extract]
     rw [List.getElem?_take, if_pos (by omega), List.getElem?_drop]
    rw [List.getElem?_eq_getElem hj2, List.getElem?_eq_getElem hlt] at this
    simp only [List.getD, List.getElem?_eq_getElem hlt, Option.getD_some]
    rw [Option.some.inj this]
   rw [e1]
   refine q4q ?_ ?_
   ·rw [e2]; exact qmm r.s.size r.pos (r.pos + j) (by omega) (by show r.pos + j < r.wend; omega)
   ·rw [e2]; exact hs.2 _ (by omega)
theorem qte {r : Rd} {op : Bool} (hs : qfm r.s) (h0 : r.pos < r.s.size) (he : r.err = 0) (c1 : ¬ chr r.s r.pos = 32) (c2 : ¬ chr r.s r.pos = 40) (c3 : ¬ chr r.s r.pos = 41) (h : (r.valR.stop op).err = 0) : vErr r.valV = 0 := by
 have h := qor h
 by_cases q : chr r.s r.pos = 39
 ·obtain ⟨v1, v2⟩ := q5i h0 q
  rw [v1] at h
  rw [v2]; exact q00c hs he h
 ·have hw : inW (chr r.s r.pos) = true := by rw [qm3]; exact ⟨c1, c2, c3, q⟩
  obtain ⟨w1, w2⟩ := q00d hs h0 hw
  by_cases k : 64 < (r.wraw.size : Int)
  ·obtain ⟨v1, v2⟩ := qbbs h0 q k
   rw [v1, qcb (r := r.word) he] at h; cases h
  ·obtain ⟨v1, v2⟩ := qy8 h0 q k
   rw [v2]
   refine qvy (by simp) (fun z => w1 z.2) (by show ¬ 64 < ((r.wtxt.size : Nat) : Int); rw [qgo]; exact k) ?_
   rintro (⟨_, b⟩ | b)
   ·rw [w2] at b; cases b
   ·rw [qmi] at b
    ·cases b
    ·intro j hj
     exact qgb (qqj (by unfold qde at w2; simpa using w2) hj)
theorem q75 (op : Nat) {n : Nat} {r : Rd} {out : List CVal} (h : ¬ r.err = 0) : (lrun op n r out).1 = r := by
 cases n with
 | zero => rfl
 | succ n => unfold lrun; rw [if_neg (fun k => h k.1), if_pos h]
theorem qqt (op : Nat) : ∀ (n : Nat) (r : Rd) (out : List CVal), qfm r.s → r.pos ≤ r.s.size → (∀ v ∈ out, vErr v = 0) → out.length ≤ 10 → out.length + n = 12 → (lrun op n r.blanks out).1.err = 0 →
 (∀ v ∈ (lrun op n r.blanks out).2, vErr v = 0) ∧ 1 ≤ (lrun op n r.blanks out).2.length ∧ (lrun op n r.blanks out).2.length ≤ 10
 | 0, r, out, _, _, _, hl, hn, _ => by omega
 | n + 1, r, out, hs, hp, ho, hl, hn, h => by
   have hb := qcn hp
   unfold lrun at h ⊢
   by_cases c : r.blanks.err = 0 ∧ r.blanks.pos < r.blanks.s.size ∧ isAt r.blanks.s r.blanks.pos 41 = false
   ·rw [if_pos c] at h ⊢
    have hlt : r.blanks.pos < r.s.size := c.2.1
    by_cases f : out.length = 10
    ·rw [if_pos f, qcb c.1] at h; cases h
    ·rw [if_neg f] at h ⊢
     by_cases g : isAt r.blanks.s r.blanks.pos 40 = true
     ·rw [if_pos g, qcb c.1] at h; cases h
     ·rw [if_neg g] at h ⊢
      have he : (r.blanks.valR.stop true).err = 0 := by
       by_cases e : (r.blanks.valR.stop true).err = 0
       ·exact e
       ·rw [q75 op (r := (r.blanks.valR.stop true).blanks) e] at h; exact absurd h e
      have c40 : ¬ chr r.s r.blanks.pos = 40 := by
       have := qcr (r := r.blanks) (c := 40) hlt
       rw [this] at g
       have g : ¬ chr r.blanks.s r.blanks.pos = 40 := by simpa using g
       exact g
      have c41 : ¬ chr r.s r.blanks.pos = 41 := by
       have := qcr (r := r.blanks) (c := 41) hlt
       have c3 := c.2.2
       rw [this] at c3
       have c3 : ¬ chr r.blanks.s r.blanks.pos = 41 := by simpa using c3
       exact c3
      have hv := qte (r := r.blanks) hs hlt c.1 (qn0 hlt) c40 c41 he
      have hvp := qhd (r := r.blanks) hb.2
      refine qqt op n (r.blanks.valR.stop true) (out ++ [r.blanks.valV]) (by rw [qbn, qb9]; exact hs) (by rw [qc8, qbn, qb9]; exact hvp.2) (fun v hv' => ?_) (by rw [List.length_append, List.length_singleton]; omega) (by rw [List.length_append, List.length_singleton]; omega) h
      rcases List.mem_append.1 hv' with hv' | hv'
      ·exact ho v hv'
      ·rw [List.mem_singleton] at hv'; subst hv'; exact hv
   ·rw [if_neg c] at h ⊢
    by_cases e : ¬ r.blanks.err = 0
    ·rw [if_pos e] at h; exact absurd h e
    ·rw [if_neg e] at h ⊢
     have e : r.blanks.err = 0 := Classical.not_not.1 e
     by_cases k : r.blanks.pos = r.blanks.s.size
     ·rw [if_pos k, qcb e] at h
      have := qor h; cases this
     ·rw [if_neg k] at h ⊢
      by_cases o : out = []
      ·rw [if_pos o, qcb e] at h
       have := qor h; cases this
      ·rw [if_neg o]
       refine ⟨ho, ?_, hl⟩
       show 1 ≤ out.length
       cases out with
       | nil => exact absurd rfl o
       | cons x l => simp
theorem qqu {r : Rd} (hs : qfm r.s) (h0 : r.pos < r.s.size) (h : r.list.1.err = 0) : (∀ v ∈ r.list.2, vErr v = 0) ∧ 1 ≤ r.list.2.length ∧ r.list.2.length ≤ 10 :=
 qqt r.pos 12 (r.to (r.pos + 1)) [] hs (by show r.pos + 1 ≤ r.s.size; omega) (fun v hv => by cases hv) (by simp) (by simp) h
theorem qrv {p : CPart} (h1 : p.keyword = ⟨#[]⟩ ∨ q0l p.keyword = true) (h2 : 1 ≤ p.values.length) (h3 : p.values.length ≤ 10) (h4 : ∀ v ∈ p.values, vErr v = 0) : pErr p = 0 :=
 pEz (k := p.values.length) h1 (by omega) (by omega) (by omega) fun j hj => h4 _ (qiz qbi hj)
theorem q00e {r : Rd} (hs : qfm r.s) (h0 : r.pos < r.s.size) (he : r.err = 0) (c1 : ¬ chr r.s r.pos = 32) (h : r.partR.err = 0) : pErr r.partV = 0 := by
 unfold Rd.partR at h
 unfold Rd.partV
 by_cases a : isAt r.s r.pos 40 = true
 ·rw [if_pos a] at h ⊢
  obtain ⟨l1, l2, l3⟩ := qqu hs h0 h
  exact qrv (.inl rfl) l2 l3 l1
 ·rw [if_neg a] at h ⊢
  by_cases b : isAt r.s r.pos 41 = true
  ·rw [if_pos b, qcb he] at h; cases h
  ·rw [if_neg b] at h ⊢
   have c40 : ¬ chr r.s r.pos = 40 := by rw [qcr h0] at a; simpa using a
   have c41 : ¬ chr r.s r.pos = 41 := by rw [qcr h0] at b; simpa using b
   have one : ∀ (hh : (r.valR.stop false).err = 0), pErr ⟨⟨#[]⟩, [r.valV]⟩ = 0 := fun hh =>
    qrv (.inl rfl) (by simp) (by simp) fun v hv => by
     have hv : v = r.valV := by simpa using hv
     subst hv; exact qte hs h0 he c1 c40 c41 hh
   by_cases c : isAt r.s r.pos 39 = true
   ·rw [if_pos c] at h ⊢; exact one h
   ·rw [if_neg c] at h ⊢
    by_cases d : isAt r.s r.word.pos 40 = false
    ·rw [if_pos d] at h ⊢; exact one h
    ·rw [if_neg d] at h ⊢
     by_cases nm : q0l r.wtxt = false
     ·rw [if_pos nm, qcb (r := r.word) he] at h; cases h
     ·rw [if_neg nm] at h ⊢
      have hd : isAt r.s r.word.pos 40 = true := by simpa using d
      obtain ⟨l1, l2, l3⟩ := qqu (r := r.word) hs (qm5 hd) h
      exact qrv (.inr (by simpa using nm)) l2 l3 l1
theorem qqv : ∀ (n : Nat) (r : Rd) (out : List CPart), qfm r.s → r.pos ≤ r.s.size → (∀ p ∈ out, pErr p = 0) → out.length ≤ 12 → (prun n r.blanks out).1.err = 0 → (∀ p ∈ (prun n r.blanks out).2, pErr p = 0) ∧ (prun n r.blanks out).2.length ≤ 12
 | 0, r, out, _, _, ho, hl, _ => ⟨ho, hl⟩
 | n + 1, r, out, hs, hp, ho, hl, h => by
   unfold prun at h ⊢
   by_cases c : r.blanks.err = 0 ∧ r.blanks.pos < r.blanks.s.size
   ·rw [if_pos c] at h ⊢
    have hlt : r.blanks.pos < r.s.size := c.2
    by_cases f : out.length = 12
    ·rw [if_pos f, qcb c.1] at h; cases h
    ·rw [if_neg f] at h ⊢
     have he : r.blanks.partR.err = 0 := by
      by_cases e : r.blanks.partR.err = 0
      ·exact e
      ·rw [qhe (r := r.blanks.partR.blanks) e] at h; exact absurd h e
     have hv := q00e (r := r.blanks) hs hlt c.1 (qn0 hlt) he
     have hpp := qjg (r := r.blanks) hlt
     refine qqv n r.blanks.partR (out ++ [r.blanks.partV]) (by rw [qgp]; exact hs) (by rw [qgp]; exact hpp.2.2 he) (fun p hp' => ?_) (by rw [List.length_append, List.length_singleton]; omega) h
     rcases List.mem_append.1 hp' with hp' | hp'
     ·exact ho p hp'
     ·rw [List.mem_singleton] at hp'; subst hp'; exact hv
   ·rw [if_neg c]; exact ⟨ho, hl⟩
theorem q76 {c : CStr} (h1 : q0l c.name = true) (h2 : c.parts.length ≤ 12) (h3 : ∀ p ∈ c.parts, pErr p = 0) : cErr c = 0 :=
 q19 (by rw [h1]; decide) (by omega) fun j hj => h3 _ (qiz q0b hj)
theorem qn1 {s : ByteArray} (h : (qca s).2.2 = 0) : cErr (qca s).1 = 0 := by
 by_cases k : 400 < s.size
 ·rw [qi0 (by omega)] at h; cases h
 ·by_cases b : 0 ≤ qei s
  ·rw [qpu (by omega) b] at h; cases h
  ·by_cases z : (prun 13 (rd0 s).nmR.blanks []).1.err = 0
   ·rw [qjh (by omega) (by omega) rfl z]
    have hs : qfm s := ⟨by omega, qjw b⟩
    have hs0 : qfm (rd0 s).nmR.s := by rw [qk6]; exact hs
    obtain ⟨l1, l2⟩ := qqv 13 (rd0 s).nmR [] hs0 (by rw [qk6]; exact qrl (Nat.zero_le _)) (fun p hp => by cases hp) (by simp) z
    refine q76 ?_ l2 l1
    show q0l (rd0 s).nmT = true
    have e0 : (rd0 s).nmR.err = 0 := by
     by_cases e : (rd0 s).nmR.err = 0
     ·exact e
     ·rw [qhe (r := (rd0 s).nmR.blanks) e] at z; exact absurd z e
    by_cases c : (rd0 s).blanks.pos = (rd0 s).s.size
    ·rw [qy6 c, qcb rfl] at e0; cases e0
    ·rw [qpr c]
     by_cases nm : q0l (rd0 s).blanks.wtxt = true
     ·exact nm
     ·rw [Bool.not_eq_true] at nm
      rw [qy7 c nm] at e0
      exfalso
      by_cases q : ((rd0 s).blanks.word.stop false).err = 0
      ·rw [qcb q] at e0; cases e0
      ·rw [qrk q] at e0; exact q e0
   ·rw [qk7 (by omega) (by omega) rfl z] at h; exact absurd h z
theorem qmn {c : CStr} (h : cErr c = 0) : okC c := by
 obtain ⟨_, h2, h3⟩ := qi3 h
 refine ⟨by omega, fun i => ?_⟩
 by_cases hi : i < c.parts.length
 ·obtain ⟨_, _, g2, g3⟩ := qgz (h3 i hi)
  refine ⟨by omega, fun k => ?_⟩
  by_cases hk : k < (c.parts.getD i q0b).values.length
  ·have := (qdp (g3 k hk)).2
   unfold qf9; omega
  ·rw [qlc _ (by omega)]; simp [qf9, qbi]; decide
 ·rw [qlc _ (by omega)]
  exact ⟨by simp [q0b], fun k => by simp [q0b, qf9, qbi]; decide⟩
end Go.Ev
namespace Go.Ev
noncomputable section
open Go.Proofs Ty
set_option maxRecDepth 10000
set_option maxHeartbeats 4000000
def e41 : List O → Option (Prop × O)
 | [.d x_c] => match qbf x_c with
   | some c => some (cErr c = 0, .d (.b true))
   | _ => none
 | _ => none
def q00f : FuncId → List O → Option (Prop × O) := addT q00a 41 e41
def e11 : List O → Option (Prop × O)
 | [.d x_c, .d (.s s)] => match qbf x_c with
   | some c => some (True, .d (.b true))
   | _ => none
 | _ => none
def q00g : FuncId → List O → Option (Prop × O) := addT q00f 11 e11
end
end Go.Ev
namespace Go.Ev
abbrev lowB := Go.Lib.lowerB
theorem qbas {b : UInt8} (h : Go.Lib.isLowerB b = false) : Go.Lib.upperB (lowB b) = b := by
 cases e : Go.Lib.isUpperB b with
 | false =>
   rw [show lowB b = b from Go.Lib.lowerB_of_not b e]; exact Go.Lib.upperB_of_not b h
 | true =>
   have h1 := Go.Lib.lowerB_int b e
   rw [Go.Lib.isUpperB_int] at e
   simp only [Bool.and_eq_true, decide_eq_true_eq] at e
   have h2 : Go.Lib.isLowerB (lowB b) = true := by
    rw [Go.Lib.isLowerB_int, h1, decide_eq_true (by omega), decide_eq_true (by omega)]; rfl
   have h3 := Go.Lib.upperB_int (lowB b) h2
   rw [h1] at h3
   exact UInt8.toNat_inj.1 (by omega)
theorem qqw {b : UInt8} (h : qbh (cI b) = false) : inW (cI (lowB b)) = true ∧ ¬ cI (lowB b) = 39 ∧ ¬ cI (lowB b) = 40 ∧ ¬ cI (lowB b) = 41 ∧ ¬ cI (lowB b) = 32 := by
 have hp := qfh h
 rw [qm3]
 cases e : Go.Lib.isUpperB b with
 | false =>
   rw [show lowB b = b from Go.Lib.lowerB_of_not b e]; omega
 | true =>
   have h1 := Go.Lib.lowerB_int b e
   rw [Go.Lib.isUpperB_int] at e
   simp only [Bool.and_eq_true, decide_eq_true_eq] at e
   unfold cI at *
   rw [h1]; omega
def bl (m : Nat) : List UInt8 := List.replicate (m + 1) 32
theorem qlg {r : Rd} {B : List UInt8} {k : Nat} (h : r.rest (List.replicate k 32 ++ B)) (hB : qga isBl B) : r.blanks = r.to (r.pos + k) := by
 have := qjn (X := List.replicate k 32) (p := isBl) (r := r) (Y := B) h (fun b hb => by rw [List.eq_of_mem_replicate hb]; rfl) hB
 rw [List.length_replicate] at this
 unfold Rd.blanks Rd.to
 rw [this]
theorem qqx {r : Rd} {B : List UInt8} {k : Nat} (h : r.rest (List.replicate k 32 ++ B)) : (r.to (r.pos + k)).rest B := h.go rfl (by rw [List.length_replicate]; rfl)
def wB (v : CVal) : List UInt8 := if v.kind = 0 then v.text.data.toList.map lowB else (writ v).data.toList
theorem wB_0 {v : CVal} (k : v.kind = 0) : wB v = v.text.data.toList.map lowB := if_pos k
theorem wB_1 {v : CVal} (k : v.kind = 1) : wB v = (writ v).data.toList := if_neg (by omega)
theorem upl {t : ByteArray} {q : ByteArray} (h : q.data.toList = t.data.toList.map lowB) (hl : noSm t.data.toList) : upS q = t := by
 apply qcu
 show Go.Lib.toUpperA q.data.toList = _
 unfold Go.Lib.toUpperA
 rw [h, List.map_map]
 conv => rhs; rw [← List.map_id t.data.toList]
 exact List.map_congr_left fun b hb => qbas (hl b hb)
theorem qt5 {t : ByteArray} (hp : ∀ b ∈ t.data.toList, qbh (cI b) = false) {r : Rd} {Y : List UInt8} (hr : r.rest (t.data.toList.map lowB ++ Y)) (hY : qga inW Y) : r.word = r.to (r.pos + t.size) ∧ r.wtxt = t ∧ r.word.rest Y ∧ r.wraw.size = t.size := by
 obtain ⟨w1, w2⟩ := qjo hr (fun b hb => by
  obtain ⟨x, hx, rfl⟩ := List.mem_map.1 hb
  exact (qqw (hp x hx)).1) hY
 have hl : r.wraw.size = t.size := by show r.wraw.data.toList.length = _; rw [w2, List.length_map]; rfl
 rw [List.length_map] at w1
 refine ⟨w1, by rw [qof, upl w2 fun b hb => qml (hp b hb)], by rw [w1]; exact hr.go rfl (by rw [List.length_map]; rfl), hl⟩
theorem qi6 {v : CVal} (h : vErr v = 0) : ∃ b B, wB v = b :: B ∧ ¬ cI b = 32 ∧ ¬ cI b = 40 ∧ ¬ cI b = 41 ∧ (v.kind = 0 → ¬ cI b = 39) := by
 rcases (qdp h).1 with k | k
 ·obtain ⟨h1, h2, _⟩ := qi4 h k
  rw [wB_0 k]
  cases e : v.text.data.toList with
  | nil => exact absurd (qcu (by rw [e])) h1
  | cons b B =>
    have hp := qqw (qfu h2 b (by rw [e]; simp))
    exact ⟨lowB b, B.map lowB, rfl, hp.2.2.2.2, hp.2.2.1, hp.2.2.2.1, fun _ => hp.2.1⟩
 ·exact ⟨39, _, (wB_1 k).trans (qi5 k), by decide, by decide, by decide, fun e => by omega⟩
theorem qwn {v : CVal} (h : vErr v = 0) {op : Bool} {r : Rd} {Y : List UInt8} (hr : r.rest (wB v ++ Y)) (he : r.err = 0) (hY : okY op Y) : r.valV = v ∧ okR r (r.valR.stop op) Y := by
 rcases (qdp h).1 with k | k
 ·obtain ⟨h1, h2, _⟩ := qi4 h k
  obtain ⟨b, B, f1, f2, f3, f4, f5⟩ := qi6 h
  have hr2 : r.rest (b :: (B ++ Y)) := by rw [f1] at hr; exact hr
  rw [wB_0 k] at hr
  have h64 := (qdp h).2
  obtain ⟨w1, w2, w3, w4⟩ := qt5 (qfu h2) hr (qkn hY)
  have hn : ¬ chr r.s r.pos = 39 := by rw [hr2.chr0]; exact f5 k
  obtain ⟨v1, v2⟩ := qy8 hr2.lt hn (by rw [w4]; omega)
  rw [v1, v2, qhj w3 hY, w2]
  refine ⟨?_, w3, by rw [w1]; exact he, by rw [w1]; rfl⟩
  cases v; simp only at k; subst k; rfl
 ·rw [wB_1 k] at hr
  exact qop h hr he hY
def qc3 (m : Nat) (vs : List CVal) (Z : List UInt8) : List UInt8 := (vs.map fun v => bl m ++ wB v).flatten ++ 41 :: Z
theorem qwo {v : CVal} (h : vErr v = 0) (Z : List UInt8) : qga isBl (wB v ++ Z) := by
 obtain ⟨b, B, f1, f2, _⟩ := qi6 h
 rw [f1]
 intro c W e
 cases e
 unfold isBl; rw [decide_eq_false f2]
theorem qtf (m op : Nat) : ∀ (vs : List CVal) (v : CVal) (n : Nat) (r : Rd) (out : List CVal) (Y : List UInt8), (∀ x ∈ v :: vs, vErr x = 0) → r.rest (wB v ++ qc3 m vs Y) → r.err = 0 → out.length + 1 + vs.length ≤ 10 → vs.length + 2 ≤ n → okY false Y →
 (lrun op n r out).2 = out ++ v :: vs ∧ okR r (lrun op n r out).1 Y
 | vs, v, 0, r, out, Y, _, _, _, _, hn, _ => by omega
 | vs, v, k + 1, r, out, Y, hv, hr, he, hl, hn, hY => by
   have hv1 := hv v (by simp)
   obtain ⟨b, B, f1, f2, f3, f4, _⟩ := qi6 hv1
   have hr2 : r.rest (b :: (B ++ qc3 m vs Y)) := by rw [f1] at hr; exact hr
   have hok : okY true (qc3 m vs Y) := by
    intro c Z e
    cases vs with
    | nil => cases e; exact .inr ⟨rfl, rfl⟩
    | cons x xs => unfold qc3 bl at e; simp only [List.map_cons, List.flatten_cons, List.cons_append, List.replicate_succ] at e; cases e; exact .inl rfl
   obtain ⟨g1, g2⟩ := qwn hv1 hr he hok
   unfold lrun
   rw [if_pos ⟨he, hr2.lt, by rw [hr2.isAt]; exact decide_eq_false f4⟩, if_neg (by omega), if_neg (by rw [hr2.isAt, decide_eq_false f3]; decide), g1]
   cases vs with
   | nil =>
     have hq : (r.valR.stop true).rest (41 :: Y) := g2.rest
     rw [qhi hq (fun c W e => by cases e; rfl)]
     obtain ⟨j, rfl⟩ : ∃ j, k = j + 1 := ⟨k - 1, by simp at hn; omega⟩
     unfold lrun
     rw [if_neg (by rw [hq.isAt]; simp [cI]), if_neg (by simp [g2.err]), if_neg (by have := hq.lt; omega), if_neg (by simp)]
     have hq2 : ((r.valR.stop true).to ((r.valR.stop true).pos + 1)).rest Y := hq.go (X := [41]) rfl rfl
     rw [qhj hq2 hY]
     exact ⟨rfl, hq2, g2.err, g2.s⟩
   | cons x xs =>
     have hq : (r.valR.stop true).rest (List.replicate (m + 1) 32 ++ (wB x ++ qc3 m xs Y)) := by
      have := g2.rest
      unfold qc3 bl at this
      simp only [List.map_cons, List.flatten_cons, List.append_assoc] at this
      unfold qc3 bl
      exact this
     have hx : ∀ y ∈ x :: xs, vErr y = 0 := fun y hy => hv y (List.mem_cons_of_mem _ hy)
     rw [qlg hq (qwo (hx x (by simp)) _)]
     obtain ⟨e1, e2⟩ := qtf m op xs x k _ (out ++ [v]) Y hx (qqx hq) g2.err (by rw [List.length_append, List.length_singleton]; simp only [List.length_cons] at hl; omega) (by simp only [List.length_cons] at hn; omega) hY
     exact ⟨by rw [e1]; simp, e2.rest, e2.err, e2.s.trans g2.s⟩
theorem qtg {m : Nat} {v : CVal} {vs : List CVal} {r : Rd} {Y : List UInt8} (hv : ∀ x ∈ v :: vs, vErr x = 0) (hr : r.rest (40 :: (wB v ++ qc3 m vs Y))) (he : r.err = 0) (hl : (v :: vs).length ≤ 10) (hY : okY false Y) :
 r.list.2 = v :: vs ∧ okR r r.list.1 Y := by
 have hq : (r.to (r.pos + 1)).rest (wB v ++ qc3 m vs Y) := hr.go (X := [40]) rfl rfl
 have := qtf m r.pos vs v 12 (r.to (r.pos + 1)) [] Y hv hq he (by simp at hl ⊢; omega) (by simp at hl; omega) hY
 unfold Rd.list
 rw [qhi hq (qwo (hv v (by simp)) _)]
 exact ⟨this.1, this.2.rest, this.2.err, this.2.s⟩
def pB (m : Nat) (p : CPart) : List UInt8 := match p.values with
 | [] => []
 | v :: vs => if p.keyword = ⟨#[]⟩ ∧ p.values.length = 1 then wB v else p.keyword.data.toList.map lowB ++ 40 :: (wB v ++ qc3 m vs [])
theorem q2h (m : Nat) (vs : List CVal) (Z : List UInt8) : qc3 m vs [] ++ Z = qc3 m vs Z := by unfold qc3; rw [List.append_assoc]; rfl
theorem qrw {p : CPart} (h : pErr p = 0) (k : ¬ p.keyword = ⟨#[]⟩) : q0l p.keyword = true := by
 have hh : qdh p = 0 := by
  by_cases e : qdh p = 0
  ·exact e
  ·rw [qgy e] at h; exact absurd h e
 have h1 := qe3 (qci hh).1 (by decide)
 cases n : q0l p.keyword with
 | true => rfl
 | false => exact absurd ⟨k, n⟩ h1
theorem qrx {p : CPart} (h : pErr p = 0) : ∃ v vs, p.values = v :: vs ∧ (∀ x ∈ v :: vs, vErr x = 0) ∧ (v :: vs).length ≤ 10 := by
 obtain ⟨_, h2, h3, h4⟩ := qgz h
 have hv : ∀ x ∈ p.values, vErr x = 0 := fun x hx => by
  obtain ⟨k, hk, e⟩ := qhh qbi hx
  rw [← e]; exact h4 k hk
 cases e : p.values with
 | nil => rw [e] at h2; simp at h2
 | cons v vs => rw [e] at hv h3; exact ⟨v, vs, rfl, hv, h3⟩
theorem q2i {m : Nat} {p : CPart} (h : pErr p = 0) {r : Rd} {Y : List UInt8} (hr : r.rest (pB m p ++ Y)) (he : r.err = 0) (hY : okY false Y) : r.partV = p ∧ okR r r.partR Y := by
 obtain ⟨v, vs, hvs, hvv, hll⟩ := qrx h
 unfold pB at hr
 rw [hvs] at hr
 simp only at hr
 by_cases c : p.keyword = ⟨#[]⟩ ∧ (v :: vs).length = 1
 ·rw [if_pos c] at hr
  have hvs0 : vs = [] := by have := c.2; simpa using this
  subst hvs0
  have hv1 := hvv v (by simp)
  obtain ⟨b, B, f1, f2, f3, f4, f5⟩ := qi6 hv1
  have hr2 : r.rest (b :: (B ++ Y)) := by rw [f1] at hr; exact hr
  obtain ⟨g1, g2⟩ := qwn hv1 hr he hY
  have hp : (⟨⟨#[]⟩, [v]⟩ : CPart) = p := by cases p; simp only at c hvs; rw [c.1, hvs]
  have a40 : isAt r.s r.pos 40 = false := by rw [hr2.isAt]; exact decide_eq_false f3
  have a41 : isAt r.s r.pos 41 = false := by rw [hr2.isAt]; exact decide_eq_false f4
  by_cases q : isAt r.s r.pos 39 = true
  ·have hV : r.partV = ⟨⟨#[]⟩, [r.valV]⟩ := by unfold Rd.partV; rw [if_neg (by rw [a40]; decide), if_neg (by rw [a41]; decide), if_pos q]
   have hR : r.partR = r.valR.stop false := by unfold Rd.partR; rw [if_neg (by rw [a40]; decide), if_neg (by rw [a41]; decide), if_pos q]
   rw [hV, hR, g1]; exact ⟨hp, g2⟩
  ·have hk : v.kind = 0 := by
    rcases (qdp hv1).1 with k | k
    ·exact k
    ·exfalso
     rw [wB_1 k, qi5 k] at hr
     have hr3 : r.rest (39 :: ((dblL v.text.data.toList ++ [39]) ++ Y)) := hr
     rw [hr3.isAt] at q
     exact q rfl
   obtain ⟨h1, hpl, _⟩ := qi4 hv1 hk
   rw [wB_0 hk] at hr
   obtain ⟨w1, w2, hq, _⟩ := qt5 (qfu hpl) hr (qkn hY)
   have a : isAt r.s r.word.pos 40 = false := by
    have e : r.s = r.word.s := rfl
    rw [e]
    cases Y with
    | nil => exact hq.isAt0 40
    | cons b Z =>
      rw [hq.isAt]
      rcases hY b Z rfl with rfl | ⟨k, _⟩
      ·rfl
      ·cases k
   have hV : r.partV = ⟨⟨#[]⟩, [r.valV]⟩ := by unfold Rd.partV; rw [if_neg (by rw [a40]; decide), if_neg (by rw [a41]; decide), if_neg q, if_pos a]
   have hR : r.partR = r.valR.stop false := by unfold Rd.partR; rw [if_neg (by rw [a40]; decide), if_neg (by rw [a41]; decide), if_neg q, if_pos a]
   rw [hV, hR, g1]; exact ⟨hp, g2⟩
 ·rw [if_neg c] at hr
  have hr : r.rest (p.keyword.data.toList.map lowB ++ (40 :: (wB v ++ qc3 m vs Y))) := by
   have e : p.keyword.data.toList.map lowB ++ 40 :: (wB v ++ qc3 m vs []) ++ Y = p.keyword.data.toList.map lowB ++ (40 :: (wB v ++ qc3 m vs Y)) := by
    rw [← q2h m vs Y]; simp only [List.append_assoc, List.cons_append]
   rw [e] at hr; exact hr
  by_cases k : p.keyword = ⟨#[]⟩
  ·rw [k] at hr
   have hr : r.rest (40 :: (wB v ++ qc3 m vs Y)) := hr
   have a40 : isAt r.s r.pos 40 = true := by rw [hr.isAt]; rfl
   obtain ⟨e1, e2⟩ := qtg hvv hr he hll hY
   have hV : r.partV = ⟨⟨#[]⟩, r.list.2⟩ := by unfold Rd.partV; rw [if_pos a40]
   have hR : r.partR = r.list.1 := by unfold Rd.partR; rw [if_pos a40]
   rw [hV, hR, e1]
   refine ⟨?_, e2⟩
   cases p; simp only at k hvs; rw [k, hvs]
  ·have nm := qrw h k
   obtain ⟨w1, w2, w3, _⟩ := qt5 (qco nm) hr (fun b Z e => by cases e; rfl)
   obtain ⟨b, B, f1, f2⟩ := qnd nm
   have f3 := qqw f2
   have hr2 : r.rest (lowB b :: (B.map lowB ++ (40 :: (wB v ++ qc3 m vs Y)))) := by rw [f1] at hr; exact hr
   have a : ∀ c, c = 40 ∨ c = 41 ∨ c = 39 → isAt r.s r.pos c = false := fun c hc => by rw [hr2.isAt]; exact decide_eq_false (by omega)
   have a2 : isAt r.s r.word.pos 40 = true := by
    have e : r.s = r.word.s := rfl
    rw [e, w3.isAt]; rfl
   obtain ⟨e1, e2⟩ := qtg hvv w3 (by rw [w1]; exact he) hll hY
   have hV : r.partV = ⟨p.keyword, r.word.list.2⟩ := by unfold Rd.partV; rw [if_neg (by rw [a 40 (by simp)]; decide), if_neg (by rw [a 41 (by simp)]; decide), if_neg (by rw [a 39 (by simp)]; decide), if_neg (by rw [a2]; decide), w2, if_neg (by rw [nm]; decide)]
   have hR : r.partR = r.word.list.1 := by unfold Rd.partR; rw [if_neg (by rw [a 40 (by simp)]; decide), if_neg (by rw [a 41 (by simp)]; decide), if_neg (by rw [a 39 (by simp)]; decide), if_neg (by rw [a2]; decide), w2, if_neg (by rw [nm]; decide)]
   rw [hV, hR, e1]
   refine ⟨?_, e2.rest, e2.err, e2.s⟩
   cases p; simp only at hvs; rw [hvs]
end Go.Ev
namespace Go.Ev
def qel (m : Nat) (ps : List CPart) : List UInt8 := (ps.map fun p => bl m ++ pB m p).flatten
theorem qwp {m : Nat} {p : CPart} (h : pErr p = 0) : ∃ b B, pB m p = b :: B ∧ ¬ cI b = 32 := by
 obtain ⟨v, vs, hvs, hvv, _⟩ := qrx h
 unfold pB
 rw [hvs]
 simp only
 split
 ·obtain ⟨b, B, f1, f2, _⟩ := qi6 (hvv v (by simp))
  exact ⟨b, B, f1, f2⟩
 ·cases e : p.keyword.data.toList with
  | nil => exact ⟨40, _, rfl, by decide⟩
  | cons k K =>
    have nm := qrw h (fun q => by rw [q] at e; cases e)
    exact ⟨lowB k, _, rfl, (qqw (qco nm k (by rw [e]; simp))).2.2.2.2⟩
theorem q4r {m : Nat} {p : CPart} (h : pErr p = 0) (Z : List UInt8) : qga isBl (pB m p ++ Z) := by
 obtain ⟨b, B, f1, f2⟩ := qwp (m := m) h
 rw [f1]
 intro c W e
 cases e
 unfold isBl; rw [decide_eq_false f2]
theorem qmo (m : Nat) (ps : List CPart) : okY false (qel m ps ++ List.replicate m 32) := by
 intro b Z e
 cases ps with
 | nil =>
   cases m with
   | zero => cases e
   | succ m => rw [List.replicate_succ] at e; cases e; exact .inl rfl
 | cons p ps => unfold qel bl at e; simp only [List.map_cons, List.flatten_cons, List.cons_append, List.replicate_succ] at e; cases e; exact .inl rfl
theorem qth (m : Nat) : ∀ (ps : List CPart) (n : Nat) (r : Rd) (out : List CPart), (∀ p ∈ ps, pErr p = 0) → r.rest (qel m ps ++ List.replicate m 32) → r.err = 0 → out.length + ps.length ≤ 12 → ps.length + 1 ≤ n → (prun n r.blanks out).2 = out ++ ps ∧ (prun n r.blanks out).1.err = 0
 | ps, 0, r, out, _, _, _, _, hn => by omega
 | [], n + 1, r, out, _, hr, he, _, _ => by
   have hr : r.rest (List.replicate m 32 ++ []) := by rw [List.append_nil]; exact hr
   have h2 := qqx hr
   rw [qlg hr (fun b Z e => by cases e)]
   have hs := h2.size
   unfold prun
   rw [if_neg (by rintro ⟨_, k⟩; simp at hs; omega)]
   exact ⟨by simp, he⟩
 | p :: ps, n + 1, r, out, hp, hr, he, hl, hn => by
   have hp1 := hp p (by simp)
   have hr : r.rest (List.replicate (m + 1) 32 ++ (pB m p ++ (qel m ps ++ List.replicate m 32))) := by
    unfold qel bl at hr ⊢
    simp only [List.map_cons, List.flatten_cons, List.append_assoc] at hr
    exact hr
   rw [qlg hr (q4r hp1 _)]
   have hq := qqx hr
   obtain ⟨e1, e2⟩ := q2i hp1 hq he (qmo m ps)
   obtain ⟨b, B, f1, _⟩ := qwp (m := m) hp1
   have hlt : (r.to (r.pos + (m + 1))).pos < (r.to (r.pos + (m + 1))).s.size := by rw [f1] at hq; exact hq.lt
   simp only [List.length_cons] at hl hn
   unfold prun
   rw [if_pos ⟨he, hlt⟩, if_neg (by omega), e1]
   obtain ⟨g1, g2⟩ := qth m ps n _ (out ++ [p]) (fun q hq => hp q (by simp [hq])) e2.rest e2.err (by rw [List.length_append, List.length_singleton]; omega) (by omega)
   exact ⟨by rw [g1]; simp, g2⟩
theorem qxb {m : Nat} {c : CStr} (h : cErr c = 0) {s : ByteArray} (hb : s.data.toList = List.replicate m 32 ++ (c.name.data.toList.map lowB ++ (qel m c.parts ++ List.replicate m 32))) (hs : s.size ≤ 400) (hbad : qei s = -1) : qca s = (c, 0, 0) := by
 have nm := qkp h
 obtain ⟨_, h12, _⟩ := qi3 h
 have hr : (rd0 s).rest (List.replicate m 32 ++ (c.name.data.toList.map lowB ++ (qel m c.parts ++ List.replicate m 32))) := ⟨[], hb, rfl⟩
 obtain ⟨b, B, f1, f2⟩ := qnd nm
 have f3 := qqw f2
 have e0 : (rd0 s).blanks = (rd0 s).to m := by
  have := qlg hr (fun d Z e => by rw [f1] at e; cases e; unfold isBl; rw [decide_eq_false f3.2.2.2.2])
  rw [this]; show (rd0 s).to (0 + m) = _; rw [Nat.zero_add]
 have hr2 : ((rd0 s).to m).rest (c.name.data.toList.map lowB ++ (qel m c.parts ++ List.replicate m 32)) := by
  have := qqx hr
  rw [show (rd0 s).pos + m = m from Nat.zero_add m] at this
  exact this
 have hlt : ((rd0 s).to m).pos < ((rd0 s).to m).s.size := by rw [f1] at hr2; exact hr2.lt
 obtain ⟨w1, w2, w3, _⟩ := qt5 (qco nm) hr2 (qkn (qmo m _))
 have hne : ¬ (rd0 s).blanks.pos = (rd0 s).s.size := by
  rw [e0]
  have : ((rd0 s).to m).s.size = (rd0 s).s.size := rfl
  omega
 have hT : (rd0 s).nmT = c.name := by rw [qpr hne, e0, w2]
 have hR : (rd0 s).nmR = ((rd0 s).to m).word := by
  rw [qtv hne (by rw [e0, w2]; exact nm), e0, qhj w3 (qmo m _)]
 obtain ⟨g1, g2⟩ := qth m c.parts 13 ((rd0 s).to m).word [] (qkq h) w3 (by rw [w1]; rfl) (by simpa using h12) (by omega)
 rw [qjh (L := prun 13 ((rd0 s).to m).word.blanks []) (by omega) (by rw [hbad]; decide) (by rw [hR]) g2, hT, g1]
 rfl
def qb3 (m : Nat) (q : Bool) (b : UInt8) : Bool × List UInt8 :=
 if (if b = 39 then !q else q) = false then (false, if Go.Lib.isUpperB b = true then [lowB b] else if b = 32 then bl m else [b]) else (true, [b])
def q0x (m : Nat) : Bool → List UInt8 → Bool × List UInt8
 | q, [] => (q, [])
 | q, b :: l => ((q0x m (qb3 m q b).1 l).1, (qb3 m q b).2 ++ (q0x m (qb3 m q b).1 l).2)
theorem qlh {m : Nat} {q : Bool} {b : UInt8} {l : List UInt8} : q0x m q (b :: l) = ((q0x m (qb3 m q b).1 l).1, (qb3 m q b).2 ++ (q0x m (qb3 m q b).1 l).2) := rfl
theorem qh5 (m : Nat) : ∀ (a b : List UInt8) (q : Bool), q0x m q (a ++ b) = ((q0x m (q0x m q a).1 b).1, (q0x m q a).2 ++ (q0x m (q0x m q a).1 b).2)
 | [], b, q => rfl
 | x :: a, b, q => by
   rw [List.cons_append, qlh, qh5 m a b, qlh]
   simp only [List.append_assoc]
theorem qgt (m : Nat) (q : Bool) (b : UInt8) : q0x m q [b] = qb3 m q b := by
 unfold q0x q0x
 simp
theorem qem {m : Nat} {a b : List UInt8} {q : Bool} {x : List UInt8} (h : q0x m q a = (false, x)) : q0x m q (a ++ b) = ((q0x m false b).1, x ++ (q0x m false b).2) := by
 rw [qh5, h]
theorem q4s {m : Nat} {b : UInt8} (h : qbh (cI b) = false) : qb3 m false b = (false, [lowB b]) := by
 have hp := qfh h
 have h1 : ¬ b = 39 := fun e => by subst e; exact hp.2.2.2.2.1 rfl
 have h2 : ¬ b = 32 := fun e => by subst e; have := hp.1; revert this; decide
 unfold qb3
 rw [if_neg h1, if_pos rfl]
 cases e : Go.Lib.isUpperB b with
 | true => rfl
 | false => rw [if_neg (by decide), if_neg h2, show lowB b = b from Go.Lib.lowerB_of_not b e]
theorem qii {m : Nat} : ∀ {l : List UInt8}, (∀ b ∈ l, qbh (cI b) = false) → q0x m false l = (false, l.map lowB)
 | [], _ => rfl
 | b :: l, h => by
   unfold q0x
   rw [q4s (h b (by simp)), qii fun x hx => h x (by simp [hx])]
   rfl
theorem qwq {m : Nat} : ∀ (l : List UInt8), q0x m true (dblL l) = (true, dblL l)
 | [] => rfl
 | b :: l => by
   by_cases e : b = 39
   ·subst e
    rw [show dblL (39 :: l) = 39 :: 39 :: dblL l from rfl]
    unfold q0x q0x
    rw [show (qb3 m true 39) = (false, [39]) from rfl]
    simp only
    rw [show (qb3 m false 39) = (true, [39]) from rfl]
    simp only
    rw [qwq l]; rfl
   ·have hd : dblL (b :: l) = b :: dblL l := by simp [dblL, e]
    rw [hd]
    unfold q0x
    have hf : qb3 m true b = (true, [b]) := by unfold qb3; rw [if_neg e, if_neg (by decide)]
    rw [hf]
    simp only
    rw [qwq l]; rfl
theorem qmp {m : Nat} {v : CVal} (h : vErr v = 0) : q0x m false (writ v).data.toList = (false, wB v) := by
 rcases (qdp h).1 with k | k
 ·rw [qko k, wB_0 k]
  exact qii (qfu (qi4 h k).2.1)
 ·rw [wB_1 k, qi5 k]
  unfold q0x
  rw [show (qb3 m false 39) = (true, [39]) from rfl]
  simp only
  rw [qh5, qwq]
  simp only
  rw [qgt, show (qb3 m true 39) = (false, [39]) from rfl]
  rfl
theorem qti {m : Nat} : ∀ {vs : List CVal}, (∀ v ∈ vs, vErr v = 0) → q0x m false (qe4 vs []) = (false, qc3 m vs [])
 | [], _ => rfl
 | v :: vs, h => by
   have e1 : qe4 (v :: vs) [] = [32] ++ ((writ v).data.toList ++ qe4 vs []) := by unfold qe4; simp
   have e2 : qc3 m (v :: vs) [] = bl m ++ (wB v ++ qc3 m vs []) := by unfold qc3; simp
   rw [e1, e2, qem (x := bl m) (by rw [qgt]; rfl), qem (qmp (h v (by simp))), qti fun x hx => h x (by simp [hx])]
theorem qxc {p : CPart} {v : CVal} {vs : List CVal} (hvs : p.values = v :: vs) : (qbv p).data.toList = if p.keyword = ⟨#[]⟩ ∧ p.values.length = 1 then (writ v).data.toList else p.keyword.data.toList ++ ([40] ++ ((writ v).data.toList ++ qe4 vs [])) := by
 unfold qbv
 split
 ·rename_i c
  have hvs0 : vs = [] := by have := c.2; rw [hvs] at this; simpa using this
  subst hvs0
  rw [hvs, List.map_cons, List.map_nil, qnc]
 ·rw [← qwk v vs [], hvs]
  simp only [qc4, List.append_assoc]
  rfl
theorem q2j {m : Nat} {p : CPart} (h : pErr p = 0) : q0x m false (qbv p).data.toList = (false, pB m p) := by
 obtain ⟨v, vs, hvs, hvv, _⟩ := qrx h
 rw [qxc hvs]
 unfold pB
 rw [hvs]
 simp only
 by_cases c : p.keyword = ⟨#[]⟩ ∧ (v :: vs).length = 1
 ·rw [if_pos c, if_pos c]; exact qmp (hvv v (by simp))
 ·rw [if_neg c, if_neg c]
  have hk : q0x m false p.keyword.data.toList = (false, p.keyword.data.toList.map lowB) := by
   by_cases k : p.keyword = ⟨#[]⟩
   ·rw [k]; rfl
   ·exact qii (qco (qrw h k))
  rw [qem hk, qem (x := [40]) (by rw [qgt]; rfl), qem (qmp (hvv v (by simp))), qti fun x hx => hvv x (by simp [hx])]
  rfl
theorem qqy {m : Nat} : ∀ {ps : List CPart}, (∀ p ∈ ps, pErr p = 0) → q0x m false (qek ps) = (false, qel m ps)
 | [], _ => rfl
 | p :: ps, h => by
   have e1 : qek (p :: ps) = [32] ++ ((qbv p).data.toList ++ qek ps) := by unfold qek; simp
   have e2 : qel m (p :: ps) = bl m ++ (pB m p ++ qel m ps) := by unfold qel; simp
   rw [e1, e2, qem (x := bl m) (by rw [qgt]; rfl), qem (q2j (h p (by simp))), qqy fun x hx => h x (by simp [hx])]
theorem q4t {m : Nat} {c : CStr} (h : cErr c = 0) : (q0x m false (comT c).data.toList).2 = c.name.data.toList.map lowB ++ qel m c.parts := by
 unfold comT
 rw [qg1, qem (qii (qco (qkp h))), qqy (qkq h)]
theorem q77 {b : UInt8} (h : badC (cI b) = false) : badC (cI (lowB b)) = false := by
 have := qyc h
 cases e : Go.Lib.isUpperB b with
 | false => rw [show lowB b = b from Go.Lib.lowerB_of_not b e]; exact h
 | true =>
   have h1 := Go.Lib.lowerB_int b e
   rw [Go.Lib.isUpperB_int] at e
   simp only [Bool.and_eq_true, decide_eq_true_eq] at e
   unfold cI at *
   exact qt4 (by rw [h1]; omega)
theorem q2k {m : Nat} {q : Bool} {b : UInt8} (h : badC (cI b) = false) : ∀ x ∈ (qb3 m q b).2, badC (cI x) = false := by
 intro x hx
 unfold qb3 at hx
 by_cases k : (if b = 39 then !q else q) = false
 ·rw [if_pos k] at hx
  have hx : x ∈ (if Go.Lib.isUpperB b = true then [lowB b] else if b = 32 then bl m else [b]) := hx
  by_cases u : Go.Lib.isUpperB b = true
  ·rw [if_pos u, List.mem_singleton] at hx; subst hx; exact q77 h
  ·rw [if_neg u] at hx
   by_cases e : b = 32
   ·rw [if_pos e] at hx; rw [List.eq_of_mem_replicate hx]; rfl
   ·rw [if_neg e, List.mem_singleton] at hx; subst hx; exact h
 ·rw [if_neg k] at hx
  have hx : x ∈ [b] := hx
  rw [List.mem_singleton] at hx; subst hx; exact h
theorem qtj {m : Nat} : ∀ {l : List UInt8} {q : Bool}, (∀ b ∈ l, badC (cI b) = false) → ∀ x ∈ (q0x m q l).2, badC (cI x) = false
 | [], q, _, x, hx => by cases hx
 | b :: l, q, h, x, hx => by
   unfold q0x at hx
   rcases List.mem_append.1 hx with hx | hx
   ·exact q2k (h b (by simp)) x hx
   ·exact qtj (fun y hy => h y (by simp [hy])) x hx
theorem q00h {c : CStr} (h : cErr c = 0) : ∀ b ∈ (comT c).data.toList, badC (cI b) = false := by
 intro b hb
 unfold comT at hb
 rw [qg1] at hb
 rcases List.mem_append.1 hb with hb | hb
 ·exact qgb (qco (qkp h) b hb)
 ·unfold qek at hb
  obtain ⟨x, hx, hb⟩ := List.mem_flatten.1 hb
  obtain ⟨p, hp, rfl⟩ := List.mem_map.1 hx
  simp only [List.mem_cons] at hb
  rcases hb with rfl | hb
  ·rfl
  ·exact qtd (qkq h p hp) b hb
def qen (m : Nat) (s : ByteArray) (i : Nat) : ByteArray := ⟨(List.replicate m 32 ++ (q0x m false (s.data.toList.take i)).2).toArray⟩
def blT (m : Nat) : ByteArray := ⟨(List.replicate m 32).toArray⟩
theorem qf5 {m : Nat} {s : ByteArray} {i : Nat} : (qen m s i).data.toList = List.replicate m 32 ++ (q0x m false (s.data.toList.take i)).2 := rfl
theorem qmq {m : Nat} : (blT m).data.toList = List.replicate m 32 := rfl
theorem q00i {m : Nat} {c : CStr} (h : cErr c = 0) {i : Nat} (hi : (comT c).size ≤ i) (hs : (qen m (comT c) i ++ blT m).size ≤ 400) : qca (qen m (comT c) i ++ blT m) = (c, 0, 0) := by
 have hb : (qen m (comT c) i ++ blT m).data.toList = List.replicate m 32 ++ (c.name.data.toList.map lowB ++ (qel m c.parts ++ List.replicate m 32)) := by
  rw [qc4, qf5, qmq, List.take_of_length_le (show (comT c).data.toList.length ≤ i from hi), q4t h]
  simp only [List.append_assoc]
 refine qxb h hb hs (qwm fun b hbm => ?_)
 rw [qc4, qf5, qmq, List.take_of_length_le (show (comT c).data.toList.length ≤ i from hi)] at hbm
 rcases List.mem_append.1 hbm with hbm | hbm
 ·rcases List.mem_append.1 hbm with hbm | hbm
  ·rw [List.eq_of_mem_replicate hbm]; rfl
  ·exact qtj (q00h h) b hbm
 ·rw [List.eq_of_mem_replicate hbm]; rfl
theorem qyd (m : Nat) : txt (List.replicate m 32) = blT m := by
 apply qcu
 show List.map qj1 ((List.replicate m 32).map (D.i .u8)) = List.replicate m 32
 rw [List.map_replicate, List.map_replicate]; rfl
theorem qwr {m : Nat} : (blT m).size = m := by show (List.replicate m 32).length = m; rw [List.length_replicate]
def mB (b : Int) : Nat := (b.tmod 4).toNat
theorem qbb0 (b : Int) : mB b ≤ 3 := by
 unfold mB
 have := Int.tmod_lt_of_pos b (show (0 : Int) < 4 by decide)
 omega
theorem qqz {m : Nat} (hm : m ≤ 3) : ∀ (l : List UInt8) (q : Bool), (q0x m q l).2.length ≤ 4 * l.length
 | [], q => Nat.zero_le _
 | b :: l, q => by
   have ih := qqz hm l (qb3 m q b).1
   have h1 : (qb3 m q b).2.length ≤ 4 := by
    unfold qb3
    by_cases k : (if b = 39 then !q else q) = false
    ·rw [if_pos k]
     show (if Go.Lib.isUpperB b = true then [lowB b] else if b = 32 then bl m else [b]).length ≤ 4
     split
     ·simp
     ·split
      ·unfold bl; rw [List.length_replicate]; omega
      ·simp
    ·rw [if_neg k]; simp
   rw [qlh, List.length_append, List.length_cons]
   omega
theorem q00j {m : Nat} (hm : m ≤ 3) (s : ByteArray) (i : Nat) : (qen m s i).size ≤ 3 + 4 * s.size := by
 show (List.replicate m 32 ++ (q0x m false (s.data.toList.take i)).2).length ≤ _
 have := qqz hm (s.data.toList.take i) false
 rw [List.length_append, List.length_replicate]
 rw [List.length_take] at this
 have h : s.data.toList.length = s.size := rfl
 omega
theorem q78 (m : Nat) (s : ByteArray) : qen m s 0 = blT m := by
 apply qcu
 rw [qf5, qmq, List.take_zero]
 show _ ++ [] = _
 rw [List.append_nil]
theorem qhk (m : Nat) {s : ByteArray} {i : Nat} (hi : i < s.size) : ∃ b : UInt8, s.extract i (i + 1) = ⟨#[b]⟩ ∧ chr s i = cI b ∧ qen m s (i + 1) = qen m s i ++ ⟨((qb3 m (q0x m false (s.data.toList.take i)).1 b).2).toArray⟩ ∧
 (q0x m false (s.data.toList.take (i + 1))).1 = (qb3 m (q0x m false (s.data.toList.take i)).1 b).1 := by
 have hl : s.data.toList.length = s.size := rfl
 refine ⟨s.data.toList.getD i 0, qcu (qon hi), rfl, ?_, ?_⟩
 ·apply qcu
  rw [qc4, qf5, qf5, qej 0 (by rw [hl]; exact hi), qh5, qgt, List.append_assoc]
 ·rw [qej 0 (by rw [hl]; exact hi), qh5, qgt]
theorem ba1 {a b : UInt8} : ((⟨#[a]⟩ : ByteArray) = ⟨#[b]⟩) = (a = b) := by
 refine propext ⟨fun h => ?_, fun h => by rw [h]⟩
 have := congrArg (fun x : ByteArray => x.data.toList) h
 simpa using this
theorem qq0 {b : UInt8} : Go.Lib.isUpperB b = (decide (65 ≤ cI b) && decide (cI b ≤ 90)) := Go.Lib.isUpperB_int b
theorem q4u {α β : Type} (f : α → β) (c : α) (i : Nat) : List.take i (List.map f (List.replicate i c)) = List.map f (List.replicate i c) := qdk _ _ (by rw [List.length_map, List.length_replicate])
theorem qbb1 (x : Int) : (strD [D.i .u8 x]).size = 1 := rfl
theorem qws {b : UInt8} (h : 65 ≤ cI b ∧ cI b ≤ 90) : strD [D.i .u8 (cI b - 65 + 97)] = ⟨#[lowB b]⟩ := by
 have u : Go.Lib.isUpperB b = true := by rw [qq0, decide_eq_true h.1, decide_eq_true h.2]; rfl
 have h1 := Go.Lib.lowerB_int b u
 apply qcu
 show [UInt8.ofNat (cI b - 65 + 97).toNat] = [lowB b]
 congr 1
 apply UInt8.toNat_inj.1
 have h1 : ((lowB b).toNat : Int) = cI b + 32 := h1
 have h2 : (cI b - 65 + 97).toNat = (lowB b).toNat := by omega
 rw [h2]; simp
theorem q2l {c : CStr} (h : cErr c = 0) : (comT c).size ≤ 20000 := by
 have := qmh h (i := c.parts.length)
 rw [List.take_length] at this; exact this
theorem b39 {b : UInt8} (h : (⟨#[b]⟩ : ByteArray) = ⟨#[39]⟩) : b = 39 := by rw [ba1] at h; exact h
section
variable {m : Nat} {s : ByteArray} {i : Nat}
theorem fk_u (hi : i < s.size) (A : s.extract i (i + 1) = ⟨#[39]⟩) (U : 65 ≤ chr s i) : False := by
 obtain ⟨b, e1, e2, _⟩ := qhk 0 hi
 rw [e1] at A; have := b39 A; subst this; rw [e2] at U; revert U; decide
theorem fk_s (A : s.extract i (i + 1) = ⟨#[39]⟩) (S : s.extract i (i + 1) = ⟨#[32]⟩) : False := by
 rw [A, ba1] at S; revert S; decide
theorem fk_l (hi : i < s.size) (U : 65 ≤ chr s i ∧ chr s i ≤ 90) (S : strD [D.i .u8 (chr s i - 65 + 97)] = ⟨#[32]⟩) : False := by
 obtain ⟨b, e1, e2, _⟩ := qhk 0 hi
 rw [e2] at U S
 rw [qws U, ba1] at S
 have u : Go.Lib.isUpperB b = true := by rw [qq0, decide_eq_true U.1, decide_eq_true U.2]; rfl
 have h1 := Go.Lib.lowerB_int b u
 rw [show Go.Lib.lowerB b = 32 from S] at h1
 unfold cI at U
 have h2 : ((32 : UInt8).toNat : Int) = 32 := rfl
 omega
theorem fk_4 (hi : i < s.size) (A : s.extract i (i + 1) = ⟨#[39]⟩) : qen m s (i + 1) = qen m s i ++ s.extract i (i + 1) ∧ (q0x m false (s.data.toList.take (i + 1))).1 = !(q0x m false (s.data.toList.take i)).1 := by
 obtain ⟨b, e1, e2, e3, e4⟩ := qhk m hi
 have A2 := A
 rw [e1] at A; have := b39 A; subst this
 rw [e3, e4, e1]
 generalize (q0x m false (s.data.toList.take i)).1 = q
 cases q <;> exact ⟨rfl, rfl⟩
theorem fk_b {b : UInt8} (e1 : s.extract i (i + 1) = ⟨#[b]⟩) (A : ¬ s.extract i (i + 1) = ⟨#[39]⟩) : ¬ b = 39 := fun e => A (by rw [e1, e])
theorem fk_6 (hi : i < s.size) (A : ¬ s.extract i (i + 1) = ⟨#[39]⟩) (U : (q0x m false (s.data.toList.take i)).1 = false ∧ 65 ≤ chr s i ∧ chr s i ≤ 90) :
 qen m s (i + 1) = qen m s i ++ strD [D.i .u8 (chr s i - 65 + 97)] ∧ (q0x m false (s.data.toList.take (i + 1))).1 = (q0x m false (s.data.toList.take i)).1 := by
 obtain ⟨b, e1, e2, e3, e4⟩ := qhk m hi
 have hb := fk_b e1 A
 obtain ⟨U1, U2⟩ := U
 rw [e2] at U2
 have u : Go.Lib.isUpperB b = true := by rw [qq0, decide_eq_true U2.1, decide_eq_true U2.2]; rfl
 have hf : qb3 m false b = (false, [lowB b]) := by unfold qb3; rw [if_neg hb, if_pos rfl, if_pos u]
 rw [e3, e4, U1, hf, e2, qws U2]
 exact ⟨rfl, rfl⟩
theorem fk_7 (hi : i < s.size) (S : (q0x m false (s.data.toList.take i)).1 = false ∧ s.extract i (i + 1) = ⟨#[32]⟩) :
 qen m s (i + 1) = qen m s i ++ (s.extract i (i + 1) ++ blT m) ∧ (q0x m false (s.data.toList.take (i + 1))).1 = (q0x m false (s.data.toList.take i)).1 := by
 obtain ⟨b, e1, e2, e3, e4⟩ := qhk m hi
 obtain ⟨S1, S2⟩ := S
 have hb : b = 32 := by rw [e1, ba1] at S2; exact S2
 subst hb
 rw [e3, e4, S1, e1]
 exact ⟨by congr 1, rfl⟩
theorem fk_8 (hi : i < s.size) (A : ¬ s.extract i (i + 1) = ⟨#[39]⟩) (U : (q0x m false (s.data.toList.take i)).1 = true ∨ chr s i < 65 ∨ 90 < chr s i) (S : (q0x m false (s.data.toList.take i)).1 = true ∨ ¬ s.extract i (i + 1) = ⟨#[32]⟩) :
 qen m s (i + 1) = qen m s i ++ s.extract i (i + 1) ∧ (q0x m false (s.data.toList.take (i + 1))).1 = (q0x m false (s.data.toList.take i)).1 := by
 obtain ⟨b, e1, e2, e3, e4⟩ := qhk m hi
 have hb := fk_b e1 A
 rw [e3, e4, e1]
 rw [e2] at U
 rw [e1, ba1] at S
 generalize (q0x m false (s.data.toList.take i)).1 = q at U S
 cases q with
 | true =>
   have hf : qb3 m true b = (true, [b]) := by unfold qb3; rw [if_neg hb, if_neg (by decide)]
   rw [hf]; exact ⟨rfl, rfl⟩
 | false =>
   have U : cI b < 65 ∨ 90 < cI b := by rcases U with U | U; cases U; exact U
   have S : ¬ b = 32 := by rcases S with S | S; cases S; exact S
   have u : ¬ Go.Lib.isUpperB b = true := by
    rw [qq0, Bool.and_eq_true, decide_eq_true_eq, decide_eq_true_eq]; omega
   have hf : qb3 m false b = (false, [b]) := by unfold qb3; rw [if_neg hb, if_pos rfl, if_neg u, if_neg S]
   rw [hf]; exact ⟨rfl, rfl⟩
theorem qbb2 (hi : i < s.size) (A : s.extract i (i + 1) = ⟨#[39]⟩) (U : (q0x m false (s.data.toList.take i)).1 = true ∧ 65 ≤ chr s i ∧ chr s i ≤ 90) : False := fk_u hi A U.2.1
theorem qbb3 (hi : i < s.size) (U : (q0x m false (s.data.toList.take i)).1 = false ∧ 65 ≤ chr s i ∧ chr s i ≤ 90) (S : (q0x m false (s.data.toList.take i)).1 = false ∧ strD [D.i .u8 (chr s i - 65 + 97)] = ⟨#[32]⟩) : False := fk_l hi U.2 S.2
theorem qbb4 (A : s.extract i (i + 1) = ⟨#[39]⟩) (S : (q0x m false (s.data.toList.take i)).1 = true ∧ s.extract i (i + 1) = ⟨#[32]⟩) : False := fk_s A S.2
end
end Go.Ev
namespace Go.Ev
noncomputable section
open Go.Proofs Ty
set_option maxRecDepth 10000
set_option maxHeartbeats 4000000
def e42 : List O → Option (Prop × O)
 | [.d (.i .u8 c), .d (.i .i64 n)] => some (n ≤ 1000, .d (.s (txt (List.replicate n.toNat c))))
 | _ => none
def q00k : FuncId → List O → Option (Prop × O) := addT q00g 42 e42
def e12 : List O → Option (Prop × O)
 | [.d x_c, .d (.i .u8 bk)] => match qbf x_c with
   | some c => some (True, .d (.b true))
   | _ => none
 | _ => none
def qbb5 : FuncId → List O → Option (Prop × O) := addT q00k 12 e12
def e59 : List O → Option (Prop × O)
 | [.bx 105 [.d (.s s_r), .d (.i .i64 a_r), .d (.i .i64 p_r), .d (.i .i64 e_r)], .d (.i .i64 pl), .d (.i .i64 e)] => match qcm s_r a_r p_r e_r with
   | some r => some (True, .tup [.bx 105 [.d (.s r.s), .d (.i .i64 (r.pos : Int)), .d (.i .i64 (fP r.err r.place pl)), .d (.i .i64 (fE r.err e))]])
   | _ => none
 | _ => none
def qbb6 : FuncId → List O → Option (Prop × O) := addT qbb5 59 e59
def e56 : List O → Option (Prop × O)
 | [.bx 105 [.d (.s s_r), .d (.i .i64 a_r), .d (.i .i64 p_r), .d (.i .i64 e_r)]] => match qcm s_r a_r p_r e_r with
   | some r => some (r.pos ≤ 401 ∧ r.s.size ≤ 400, .tup [.d (.b r.more), .bx 105 [.d (.s r.blanks.s), .d (.i .i64 (r.blanks.pos : Int)), .d (.i .i64 r.blanks.place), .d (.i .i64 r.blanks.err)]])
   | _ => none
 | _ => none
def qbb7 : FuncId → List O → Option (Prop × O) := addT qbb6 56 e56
def e57 : List O → Option (Prop × O)
 | [.d (.s x)] => some (x.size ≤ 400 ∧ ∀ b ∈ x.data.toList, b.toNat < 128, .d (.s (upS x)))
 | _ => none
def qbb8 : FuncId → List O → Option (Prop × O) := addT qbb7 57 e57
def e58 : List O → Option (Prop × O)
 | [.bx 105 [.d (.s s_r), .d (.i .i64 a_r), .d (.i .i64 p_r), .d (.i .i64 e_r)]] => match qcm s_r a_r p_r e_r with
   | some r => some (r.pos ≤ r.s.size ∧ qfm r.s, .tup [.d (.s r.wraw), .bx 105 [.d (.s r.word.s), .d (.i .i64 (r.word.pos : Int)), .d (.i .i64 r.word.place), .d (.i .i64 r.word.err)]])
   | _ => none
 | _ => none
def qbb9 : FuncId → List O → Option (Prop × O) := addT qbb8 58 e58
def e102 : List O → Option (Prop × O)
 | [.bx 105 [.d (.s s_r), .d (.i .i64 a_r), .d (.i .i64 p_r), .d (.i .i64 e_r)]] => match qcm s_r a_r p_r e_r with
   | some r => some (r.pos < r.s.size ∧ r.s.size ≤ 400, .tup [.d (q0k r.qval), .bx 105 [.d (.s r.quoted.s), .d (.i .i64 (r.quoted.pos : Int)), .d (.i .i64 r.quoted.place), .d (.i .i64 r.quoted.err)]])
   | _ => none
 | _ => none
def qbat : FuncId → List O → Option (Prop × O) := addT qbb9 102 e102
def e101 : List O → Option (Prop × O)
 | [.bx 105 [.d (.s s_r), .d (.i .i64 a_r), .d (.i .i64 p_r), .d (.i .i64 e_r)]] => match qcm s_r a_r p_r e_r with
   | some r => some (r.pos < r.s.size ∧ qfm r.s, .tup [.d (.sl 2 (r.rlist.2.map q0k)), .bx 105 [.d (.s r.rlist.1.s), .d (.i .i64 (r.rlist.1.pos : Int)), .d (.i .i64 r.rlist.1.place), .d (.i .i64 r.rlist.1.err)]])
   | _ => none
 | _ => none
def qbau : FuncId → List O → Option (Prop × O) := addT qbat 101 e101
def e60 : List O → Option (Prop × O)
 | [.bx 105 [.d (.s s_r), .d (.i .i64 a_r), .d (.i .i64 p_r), .d (.i .i64 e_r)]] => match qcm s_r a_r p_r e_r with
   | some r => some (r.pos < r.s.size ∧ qfm r.s, .tup [.d (q0d r.rpart.2), .bx 105 [.d (.s r.rpart.1.s), .d (.i .i64 (r.rpart.1.pos : Int)), .d (.i .i64 r.rpart.1.place), .d (.i .i64 r.rpart.1.err)]])
   | _ => none
 | _ => none
def qbca : FuncId → List O → Option (Prop × O) := addT qbau 60 e60
def e19 : List O → Option (Prop × O)
 | [.d (.s s)] => some (True, .tup [.d (q05 (qkc s).1), .d (.i .i64 (qkc s).2.1), .d (.i .i64 (qkc s).2.2)])
 | _ => none
def qbef : FuncId → List O → Option (Prop × O) := addT qbca 19 e19
def e4 : List O → Option (Prop × O)
 | [.d (.s s)] => some (True, .d (.b true))
 | _ => none
end
end Go.Ev
