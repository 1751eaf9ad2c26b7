/- Tools and contracts under the laws of this seat: DevSortP to DevTabs. -/
import Derived.Test.YtblpebplbdoneaaGreatE04
import Derived.Test.YtblpebplbdoneaaGreatE03
import Derived.WalkKit
set_option linter.unusedVariables false
set_option linter.unusedSimpArgs false
namespace Go.Ev
open Go.RowKit
end Go.Ev
namespace Go.Ev
theorem qv7 {e : Entry} (h : qde e = 0) : 1 ≤ e.number ∧ e.number ≤ 9999 := by
 unfold qde at h
 split at h
 ·cases h
 split at h
 ·cases h
 omega
theorem q5p {l : List Entry} (h : ∀ j, j < l.length → chk l j) (i : Nat) : ∀ j, i < j → j < l.length → (l.getD i q0i).number < (l.getD j q0i).number
 | 0, h1, _ => by omega
 | j + 1, h1, h2 => by
   have q := (h (j + 1) h2).2.1
   have b := qv7 (h j (by omega)).1
   rw [qjz, show j + 1 - 1 = j from rfl, w64 (by omega) (by omega)] at q
   have hq : (l.getD (j + 1) q0i).number = (l.getD j q0i).number + 1 := Decidable.byContradiction fun e => q ⟨by omega, e⟩
   by_cases e : i = j
   ·subst e; omega
   ·have := q5p h i j (by omega) (by omega); omega
theorem q4s (l : List Entry) : (qb6 l).length ≤ l.length := by
 have key : ∀ (l : List Entry) (us : List AUnit), (l.foldl qjc us).length ≤ us.length + l.length := fun l => by
  induction l with
  | nil => intro us; simp
  | cons e l ih =>
    intro us
    have h1 := ih (qjc us e)
    have h2 : (qjc us e).length ≤ us.length + 1 := by
     unfold qjc
     split
     ·simp
     split
     ·split <;> simp
     ·simp
    simp only [List.foldl_cons, List.length_cons]
    omega
 have := key l []
 simpa [qb6] using this
theorem qyx {l : List Entry} (h : (qbv l).2 = 0) : l.length ≤ 80 := by
 unfold qbv at h
 split at h
 ·cases h
 ·omega
theorem q7b {l : List Entry} : (qj8 l).length ≤ 80 := by
 by_cases h : (qbv l).2 = 0
 ·rw [qo8 h]
  have := q4s l; have := qyx h
  omega
 ·rw [qk1 h]; simp
end Go.Ev
namespace Go.Ev
end Go.Ev
namespace Go.Ev
end Go.Ev
namespace Go.Ev
structure DType where
 kind : Int
 length : Int
 scale : Int
deriving DecidableEq
def qbi (x : DType) : D := .agg [.i .i64 x.kind, .i .i64 x.length, .i .i64 x.scale]
def q1a : DType := ⟨0, 0, 0⟩
theorem qck (x : DType) : (⟨x.kind, x.length, x.scale⟩ : DType) = x := rfl
def qbl : D → Option DType
 | .agg [.i .i64 a0, .i .i64 a1, .i .i64 a2] => some ⟨a0, a1, a2⟩
 | _ => none
theorem qfy {d : D} {x : DType} (h : qbl d = some x) : dle d (qbi x) := by
 unfold qbl at h
 split at h
 ·cases h; exact q09 _
 ·cases h
theorem qdc : (⟨0, 0, 0⟩ : DType) = q1a := rfl
structure Field where
 name : ByteArray
 type_ : DType
deriving DecidableEq
def q01 (x : Field) : D := .agg [.s x.name, .i .i64 x.type_.kind, .i .i64 x.type_.length, .i .i64 x.type_.scale]
def q03 : Field := ⟨⟨#[]⟩, q1a⟩
theorem qdh (x : Field) : (⟨x.name, x.type_⟩ : Field) = x := rfl
def qb7 : D → Option Field
 | .agg [.s a0, .i .i64 a1, .i .i64 a2, .i .i64 a3] => some ⟨a0, ⟨a1, a2, a3⟩⟩
 | _ => none
theorem qon (x : Field) : qb7 (q01 x) = some x := rfl
theorem qlg {d : D} {x : Field} (h : qb7 d = some x) : dle d (q01 x) := by
 unfold qb7 at h
 split at h
 ·cases h; exact q09 _
 ·cases h
theorem qd5 : (⟨⟨#[]⟩, q1a⟩ : Field) = q03 := rfl
theorem qdi {a0 b0 : ByteArray} {a1 b1 : Int} {a2 b2 : Int} {a3 b3 : Int} : qdv [.s, .i, .i, .i] [.s a0, .i .i64 a1, .i .i64 a2, .i .i64 a3] [.s b0, .i .i64 b1, .i .i64 b2, .i .i64 b3] = some (eqB (⟨a0, ⟨a1, a2, a3⟩⟩ : Field) ⟨b0, ⟨b1, b2, b3⟩⟩) := by
 simp only [qdv, qis, qcr, ↓reduceIte, Option.some.injEq, Bool.and_true]; rw [Bool.eq_iff_iff]; simp [eqB]
theorem q7c (l : List Field) (k : Nat) : (l.map q01).getD k (q01 q03) = q01 (l.getD k q03) := by
 simp only [List.getD, List.getElem?_map]
 cases l[k]? <;> rfl
theorem qb3 (l : List Field) (k : Nat) : (l.map q01).getD k (.agg [.s ⟨#[]⟩, .i .i64 0, .i .i64 0, .i .i64 0]) = q01 (l.getD k q03) := q7c l k
theorem qdj (l : List Field) : decL 4 qb7 (.sl 4 (l.map q01)) = some l := qgi qon l
theorem qdk (l : List Field) : decM qb7 (l.map q01) = some l := qhc qon l
structure KField where
 name : ByteArray
 descending : Bool
deriving DecidableEq
def q06 (x : KField) : D := .agg [.s x.name, .b x.descending]
def qec : KField := ⟨⟨#[]⟩, false⟩
theorem qcx (x : KField) : (⟨x.name, x.descending⟩ : KField) = x := rfl
def qbz : D → Option KField
 | .agg [.s a0, .b a1] => some ⟨a0, a1⟩
 | _ => none
theorem qnq (x : KField) : qbz (q06 x) = some x := rfl
theorem qoo {d : D} {x : KField} (h : qbz d = some x) : dle d (q06 x) := by
 unfold qbz at h
 split at h
 ·cases h; exact q09 _
 ·cases h
theorem qdl : (⟨⟨#[]⟩, false⟩ : KField) = qec := rfl
theorem qcy {a0 b0 : ByteArray} {a1 b1 : Bool} : qdv [.s, .b] [.s a0, .b a1] [.s b0, .b b1] = some (eqB (⟨a0, a1⟩ : KField) ⟨b0, b1⟩) := by
 simp only [qdv, qis, qcr, ↓reduceIte, Option.some.injEq, Bool.and_true]; rw [Bool.eq_iff_iff]; simp [eqB]
theorem q4t (l : List KField) (k : Nat) : (l.map q06).getD k (q06 qec) = q06 (l.getD k qec) := by
 simp only [List.getD, List.getElem?_map]
 cases l[k]? <;> rfl
theorem qbr (l : List KField) (k : Nat) : (l.map q06).getD k (.agg [.s ⟨#[]⟩, .b false]) = q06 (l.getD k qec) := q4t l k
theorem qcz (l : List KField) : decL 2 qbz (.sl 2 (l.map q06)) = some l := qgi qnq l
theorem qc0 (l : List KField) : decM qbz (l.map q06) = some l := qhc qnq l
structure Fmt where
 name : ByteArray
 fields : List Field
deriving DecidableEq
def qb1 (x : Fmt) : D := .agg [.s x.name, .sl 4 (x.fields.map q01)]
def zFmt : Fmt := ⟨⟨#[]⟩, []⟩
theorem qem (x : Fmt) : (⟨x.name, x.fields⟩ : Fmt) = x := rfl
def qb8 : D → Option Fmt
 | .agg [.s a0, a1] => match (decL 4 qb7) a1 with
   | some b1 => some ⟨a0, b1⟩
   | _ => none
 | _ => none
theorem qeh {d : D} {x : Fmt} (h : qb8 d = some x) : dle d (qb1 x) := by
 unfold qb8 at h
 split at h
 ·split at h
  ·rename_i h1
   cases h
   simp only [dle, dles, qb1, and_true, true_and]
   exact (q00 qlg) h1
  ·cases h
 ·cases h
theorem qfe : (⟨⟨#[]⟩, []⟩ : Fmt) = zFmt := rfl
structure File where
 name : ByteArray
 format : Fmt
 keys : List KField
 unique : Bool
deriving DecidableEq
def qcb (x : File) : D := .agg [.s x.name, .s x.format.name, .sl 4 (x.format.fields.map q01), .sl 2 (x.keys.map q06), .b x.unique]
def qv8 : File := ⟨⟨#[]⟩, zFmt, [], false⟩
theorem qd6 (x : File) : (⟨x.name, x.format, x.keys, x.unique⟩ : File) = x := rfl
def qcm : D → Option File
 | .agg [.s a0, .s a1, a2, a3, .b a4] => match (decL 4 qb7) a2, (decL 2 qbz) a3 with
   | some b2, some b3 => some ⟨a0, ⟨a1, b2⟩, b3, a4⟩
   | _, _ => none
 | _ => none
theorem qh3 {d : D} {x : File} (h : qcm d = some x) : dle d (qcb x) := by
 unfold qcm at h
 split at h
 ·split at h
  ·rename_i h2 h3
   cases h
   simp only [dle, dles, qcb, and_true, true_and]
   exact ⟨(q00 qlg) h2, (q00 qoo) h3⟩
  ·cases h
 ·cases h
theorem qen : (⟨⟨#[]⟩, zFmt, [], false⟩ : File) = qv8 := rfl
structure Rec where
 deleted : Bool
 bytes : ByteArray
deriving DecidableEq
def qbt (x : Rec) : D := .agg [.b x.deleted, .s x.bytes]
def zRec : Rec := ⟨false, ⟨#[]⟩⟩
theorem qeo (x : Rec) : (⟨x.deleted, x.bytes⟩ : Rec) = x := rfl
def qdm : D → Option Rec
 | .agg [.b a0, .s a1] => some ⟨a0, a1⟩
 | _ => none
theorem qqu (x : Rec) : qdm (qbt x) = some x := rfl
theorem ql6 {d : D} {x : Rec} (h : qdm d = some x) : dle d (qbt x) := by
 unfold qdm at h
 split at h
 ·cases h; exact q09 _
 ·cases h
theorem qff : (⟨false, ⟨#[]⟩⟩ : Rec) = zRec := rfl
theorem qep {a0 b0 : Bool} {a1 b1 : ByteArray} : qdv [.b, .s] [.b a0, .s a1] [.b b0, .s b1] = some (eqB (⟨a0, a1⟩ : Rec) ⟨b0, b1⟩) := by
 simp only [qdv, qis, qcr, ↓reduceIte, Option.some.injEq, Bool.and_true]; rw [Bool.eq_iff_iff]; simp [eqB]
theorem qbfp (l : List Rec) (k : Nat) : (l.map qbt).getD k (qbt zRec) = qbt (l.getD k zRec) := by
 simp only [List.getD, List.getElem?_map]
 cases l[k]? <;> rfl
theorem qc1 (l : List Rec) (k : Nat) : (l.map qbt).getD k (.agg [.b false, .s ⟨#[]⟩]) = qbt (l.getD k zRec) := qbfp l k
theorem qeq (l : List Rec) : decL 2 qdm (.sl 2 (l.map qbt)) = some l := qgi qqu l
theorem qer (l : List Rec) : decM qdm (l.map qbt) = some l := qhc qqu l
structure Table where
 file : File
 records : List Rec
deriving DecidableEq
def q0c (x : Table) : D := .agg [.s x.file.name, .s x.file.format.name, .sl 4 (x.file.format.fields.map q01), .sl 2 (x.file.keys.map q06), .b x.file.unique, .sl 2 (x.records.map qbt)]
def q0z : Table := ⟨qv8, []⟩
theorem qdn (x : Table) : (⟨x.file, x.records⟩ : Table) = x := rfl
def q0y : D → Option Table
 | .agg [.s a0, .s a1, a2, a3, .b a4, a5] => match (decL 4 qb7) a2, (decL 2 qbz) a3, (decL 2 qdm) a5 with
   | some b2, some b3, some b5 => some ⟨⟨a0, ⟨a1, b2⟩, b3, a4⟩, b5⟩
   | _, _, _ => none
 | _ => none
theorem qop (x : Table) : q0y (q0c x) = some x := by
 simp [q0y, q0c, (qgi qon), (qgi qnq), (qgi qqu)]
theorem q07 {d : D} {x : Table} (h : q0y d = some x) : dle d (q0c x) := by
 unfold q0y at h
 split at h
 ·split at h
  ·rename_i h2 h3 h5
   cases h
   simp only [dle, dles, q0c, and_true, true_and]
   exact ⟨(q00 qlg) h2, (q00 qoo) h3, (q00 ql6) h5⟩
  ·cases h
 ·cases h
theorem qd7 : (⟨qv8, []⟩ : Table) = q0z := rfl
theorem qc5 (l : List Table) : decL 6 q0y (.sl 6 (l.map q0c)) = some l := qgi qop l
theorem qcl (l : List Table) : decM q0y (l.map q0c) = some l := qhc qop l
structure Val where
 n : Int
 s : ByteArray
deriving DecidableEq
def qce (x : Val) : D := .agg [.i .i64 x.n, .s x.s]
def zVal : Val := ⟨0, ⟨#[]⟩⟩
theorem qd3 (x : Val) : (⟨x.n, x.s⟩ : Val) = x := rfl
def qdr : D → Option Val
 | .agg [.i .i64 a0, .s a1] => some ⟨a0, a1⟩
 | _ => none
theorem qbbg {d : D} {x : Val} (h : qdr d = some x) : dle d (qce x) := by
 unfold qdr at h
 split at h
 ·cases h; exact q09 _
 ·cases h
theorem qet : (⟨0, ⟨#[]⟩⟩ : Val) = zVal := rfl
end Go.Ev
namespace Go.Ev
theorem qb9 (l : List Int) (k : Nat) : (l.map (D.i .i64)).getD k (.i .i64 0) = .i .i64 (l.getD k 0) := by
 simp only [List.getD, List.getElem?_map]
 cases l[k]? <;> rfl
theorem qbfq (l : List Int) (k : Nat) : (l.map (D.i .u8)).getD k (.i .u8 0) = .i .u8 (l.getD k 0) := by
 simp only [List.getD, List.getElem?_map]
 cases l[k]? <;> rfl
theorem qd4 (l : List Int) : decL 1 (decI .i64) (.sl 1 (l.map (D.i .i64))) = some l := qgi (fun x => by simp [decI]) l
theorem qee (l : List Int) : decM (decI .i64) (l.map (D.i .i64)) = some l := qhc (fun x => by simp [decI]) l
end Go.Ev
namespace Go.Ev
structure Ans where
 tables : List Table
 n : Int
 units : List Int
 err : Int
deriving DecidableEq
def qft (x : Ans) : D := .agg [.sl 6 (x.tables.map q0c), .i .i64 x.n, .sl 1 (x.units.map (D.i .i64)), .i .i64 x.err]
def zAns : Ans := ⟨[], 0, [], 0⟩
theorem qii (x : Ans) : (⟨x.tables, x.n, x.units, x.err⟩ : Ans) = x := rfl
def qgt : D → Option Ans
 | .agg [a0, .i .i64 a1, a2, .i .i64 a3] => match (decL 6 q0y) a0, (decL 1 (decI .i64)) a2 with
   | some b0, some b2 => some ⟨b0, a1, b2, a3⟩
   | _, _ => none
 | _ => none
theorem qv9 (x : Ans) : qgt (qft x) = some x := by
 simp [qgt, qft, (qgi qop), (qgi (qbfe _))]
theorem qj1 : (⟨[], 0, [], 0⟩ : Ans) = zAns := rfl
theorem qij (l : List Ans) : decL 4 qgt (.sl 4 (l.map qft)) = some l := qgi qv9 l
theorem qik (l : List Ans) : decM qgt (l.map qft) = some l := qhc qv9 l
end Go.Ev
namespace Go.Ev
noncomputable section
open Go.Proofs Ty
set_option maxRecDepth 10000
set_option maxHeartbeats 4000000
theorem isK3 (n : Int) : isK Tryz.prog 3 (.i .i64 n) = true := by unfold isK; rw [Tryz.underlying3]; simp
theorem qbjg (us : List AUnit) : ∀ d ∈ us.map keyU, isK Tryz.prog 3 d = true := fun d hd => by
 obtain ⟨u, _, rfl⟩ := List.mem_map.1 hd
 exact isK3 _
theorem q0a {P Q : Prop} (h : P) (e : P = Q := by simp only [Bool.or_eq_true, Bool.and_eq_true, Bool.or_eq_false_iff, Bool.and_eq_false_iff, Bool.not_eq_true', Bool.not_eq_false', Bool.not_eq_true, Bool.not_eq_false, decide_eq_true_eq, decide_eq_false_iff_not, beq_iff_eq, bne_iff_ne, beq_eq_false_iff_ne, bne_eq_false_iff_eq, ne_eq, Int.not_lt, Int.not_le, D.b.injEq, D.i.injEq, D.s.injEq, D.agg.injEq, D.sl.injEq, true_and, and_true, List.cons.injEq, gt_iff_lt, ge_iff_le,  Bool.cond_true_left, Bool.cond_false_right, Bool.cond_true_right, Bool.cond_false_left, qxj, qcr, qbjd, qbje, qbjb, qbjc]; exact rfl) : Q := e.mp h
theorem q0w {P Q : Prop} (q : Q) (e : P = Q := by simp only [Bool.or_eq_true, Bool.and_eq_true, Bool.or_eq_false_iff, Bool.and_eq_false_iff, Bool.not_eq_true', Bool.not_eq_false', Bool.not_eq_true, Bool.not_eq_false, decide_eq_true_eq, decide_eq_false_iff_not, beq_iff_eq, bne_iff_ne, beq_eq_false_iff_ne, bne_eq_false_iff_eq, ne_eq, Int.not_lt, Int.not_le, D.b.injEq, D.i.injEq, D.s.injEq, D.agg.injEq, D.sl.injEq, true_and, and_true, List.cons.injEq, gt_iff_lt, ge_iff_le,  Bool.cond_true_left, Bool.cond_false_right, Bool.cond_true_right, Bool.cond_false_left, qxj, qcr, qbjd, qbje, qbjb, qbjc]; exact rfl) : P := e.mpr q
theorem siQ {P Q : Prop} (q : Q) (e : P = Q := by simp (maxSteps := 1000000) only [go_sem, ↓reduceIte, reduceCtorEq, Nat.reduceEqDiff, Nat.reduceLT, Nat.reduceLeDiff, Nat.reduceMul, Nat.reduceAdd, Nat.reduceSub, reduceDIte, Nat.reduceBEq, Nat.reduceBNe]; exact rfl) : P := e.mpr q
theorem subQ {P Q : Prop} (q : Q) (e : P = Q := by simp (maxSteps := 1000000) only [forall_eq, V.ptr.injEq, V.row.injEq, V.rp.injEq, V.mref.injEq, exists_eq_left', and_assoc, rhoV, qlm, q61, rhoO, q62, qvy, rho1, HS.obj?, forall_eq', qki, qtb, qvv, nfL, vs, vss, vds, vd1, os, aget, go_sem, ↓reduceIte, reduceCtorEq, Nat.reduceEqDiff, Nat.reduceLT, Nat.reduceLeDiff, Nat.reduceMul, Nat.reduceAdd, Nat.reduceSub, reduceDIte, Nat.reduceBEq, Nat.reduceBNe]; exact rfl) : P := e.mpr q
theorem inQ {P Q : Prop} (q : Q) (e : P = Q := by simp only [qmq, qhr, inO, inO2, inO1, inOs, List.append_nil, List.nil_append, Nat.mul_zero, List.cons_append, Nat.zero_add, Nat.reduceAdd, Nat.reduceMul, List.length_map, q0s, q0h, qbff, qbi, q01, qb1, q06, qcb, qbt, q0c, qce, qft]; exact rfl) : P := e.mpr q
theorem follows : Tryz.prog.follows .mixedOrders = true := by kernel_rfl
def e57 : List O → Option (Prop × O)
 | [.d (.i .i64 n), .d (.i .i64 least), .d (.i .i64 most)] => some (True, .d (.b (decide (least ≤ n) && decide (n ≤ most))))
 | _ => none
def q7d : FuncId → List O → Option (Prop × O) := addT (fun _ _ => none) 57 e57
def e100 : List O → Option (Prop × O)
 | [.d (.i .i64 n), .d (.i .i64 least), .d (.i .i64 most)] => some (True, .d (.b (decide (least ≤ n) && decide (n ≤ most))))
 | _ => none
def q1b : FuncId → List O → Option (Prop × O) := addT q7d 100 e100
def e62 : List O → Option (Prop × O)
 | [.d (.b b)] => some (True, .d (.i .i64 (if b = true then 1 else 0)))
 | _ => none
def q7e : FuncId → List O → Option (Prop × O) := addT q1b 62 e62
def e117 : List O → Option (Prop × O)
 | [.d (.i .u8 c)] => some (True, .d (.b (decide (65 ≤ c) && decide (c ≤ 90))))
 | _ => none
def q1c : FuncId → List O → Option (Prop × O) := addT q7e 117 e117
def e118 : List O → Option (Prop × O)
 | [.d (.i .u8 c)] => some (True, .d (.b (decide (48 ≤ c) && decide (c ≤ 57))))
 | _ => none
def q1d : FuncId → List O → Option (Prop × O) := addT q1c 118 e118
def e106 : List O → Option (Prop × O)
 | [.d (.s s)] => some (True, .d (.b (qcn s)))
 | _ => none
def q1e : FuncId → List O → Option (Prop × O) := addT q1d 106 e106
def e101 : List O → Option (Prop × O)
 | [.d (.s s)] => some (True, .d (.b (qcn s)))
 | _ => none
def q1f : FuncId → List O → Option (Prop × O) := addT q1e 101 e101
def e107 : List O → Option (Prop × O)
 | [.d x_c] => match q0x x_c with
   | some c => some (True, .d (.i .i64 (qjs c)))
   | _ => none
 | _ => none
def q1g : FuncId → List O → Option (Prop × O) := addT q1f 107 e107
def e105 : List O → Option (Prop × O)
 | [.d x_e] => match q0v x_e with
   | some e => some (True, .d (.i .i64 (qtg e)))
   | _ => none
 | _ => none
def q1h : FuncId → List O → Option (Prop × O) := addT q1g 105 e105
def e90 : List O → Option (Prop × O)
 | [.d x_e] => match q0v x_e with
   | some e => some (True, .d (.i .i64 (qde e)))
   | _ => none
 | _ => none
def q7f : FuncId → List O → Option (Prop × O) := addT q1h 90 e90
def e82 : List O → Option (Prop × O)
 | [.d x_e] => match q0v x_e with
   | some e => some (True, .d (.i .i64 (qde e)))
   | _ => none
 | _ => none
def q7g : FuncId → List O → Option (Prop × O) := addT q7f 82 e82
def e9 : List O → Option (Prop × O)
 | [.d x_l] => match decL 8 q0v x_l with
   | some l => some (True, .d (.b (qtf l)))
   | _ => none
 | _ => none
def tab9 : FuncId → List O → Option (Prop × O) := addT q7g 9 e9
def e76 : List O → Option (Prop × O)
 | [.d x_l, .d (.i .i64 unit)] => match decL 8 q0v x_l with
   | some l => some (l.length ≤ 1000000, .d (.b (begins l unit)))
   | _ => none
 | _ => none
def q7h : FuncId → List O → Option (Prop × O) := addT tab9 76 e76
def e77 : List O → Option (Prop × O)
 | [.d x_l, .d (.i .i64 unit)] => match decL 8 q0v x_l with
   | some l => some (l.length ≤ 1000000, .d (.i .i64 (ends l unit)))
   | _ => none
 | _ => none
def q7i : FuncId → List O → Option (Prop × O) := addT q7h 77 e77
def e49 : List O → Option (Prop × O)
 | [.d x_l, .d (.i .i64 unit)] => match decL 8 q0v x_l with
   | some l => some (l.length ≤ 1000000, .d (.b (isOpen l unit)))
   | _ => none
 | _ => none
def q7j : FuncId → List O → Option (Prop × O) := addT q7i 49 e49
def e91 : List O → Option (Prop × O)
 | [.d x_l, .d x_e] => match decL 8 q0v x_l, q0v x_e with
   | some l, some e => some (l.length ≤ 1000000, .d (.i .i64 (qez l e)))
   | _, _ => none
 | _ => none
def q7k : FuncId → List O → Option (Prop × O) := addT q7j 91 e91
def e60 : List O → Option (Prop × O)
 | [.d x_l] => match decL 8 q0v x_l with
   | some l => some (l.length ≤ 1000000, .tup [.d (.i .i64 (qbv l).1), .d (.i .i64 (qbv l).2)])
   | _ => none
 | _ => none
def q7l : FuncId → List O → Option (Prop × O) := addT q7k 60 e60
def e34 : List O → Option (Prop × O)
 | [.d x_l] => match decL 8 q0v x_l with
   | some l => some (l.length ≤ 1000000, .d (.i .i64 (qbv l).2))
   | _ => none
 | _ => none
def q7m : FuncId → List O → Option (Prop × O) := addT q7l 34 e34
def e18 : List O → Option (Prop × O)
 | [.d x_a, .d x_b] => match decL 8 q0v x_a, decL 8 q0v x_b with
   | some a, some b => some (a.length ≤ 1000000, .d (.b (decide (a = b))))
   | _, _ => none
 | _ => none
def q7n : FuncId → List O → Option (Prop × O) := addT q7m 18 e18
def e52 : List O → Option (Prop × O)
 | [.d x_l] => match decL 8 q0v x_l with
   | some l => some (l.length ≤ 1000000, .tup [.d (.mp ((qj8 l).map keyU) ((qj8 l).map fun u => .cp (qed u))), .d (.i .i64 (qbv l).1), .d (.i .i64 (qbv l).2)])
   | _ => none
 | _ => none
def q7o : FuncId → List O → Option (Prop × O) := addT q7n 52 e52
def e25 : List O → Option (Prop × O)
 | [.d x_l] => match decL 8 q0v x_l with
   | some l => some (l.length ≤ 1000000, .tup [.d (.i .i64 (qbv l).1), .d (.i .i64 (qbv l).2)])
   | _ => none
 | _ => none
def q7p : FuncId → List O → Option (Prop × O) := addT q7o 25 e25
def e13 : List O → Option (Prop × O)
 | [.d x_l] => match decL 8 q0v x_l with
   | some l => some (l.length ≤ 1000000, .own 52 8 (l.map q0h))
   | _ => none
 | _ => none
def q7q : FuncId → List O → Option (Prop × O) := addT q7p 13 e13
def mkC (n : Nat) (t : FuncId → List O → Option (Prop × O)) : Cfg := ⟨Tryz.prog, n, t, (fun _ _ => []), [], (fun _ => none)⟩
attribute [go_sem] qbey qba0 qbez qba1 q6t e1_n e1_g q00t qba3 qba2 q4j q6u qbmc qba4 qbe0 aget qba5 qba6 q6v qbvz qba7 q4k qbmd qba8 qbme qbe1 qbqx qbmf qbe2 q4l qbe3 qbmg q00u qbe4 q00v qbe5 qbe6 qzy qbe7 q6y q4m q6z qbmh qbe9 V.cells V.one D.one D.cells newObj nm HS.isFree HS.isLive q6r q6q List.map_cons List.map_nil Option.bind_some Option.bind_none putL List.cons_append List.nil_append q00y qbba q60 qvw q00z qno true_and and_true qef qhf cval Option.map_some Option.map_none loadAt storeAt ldV ldD mkAgg V.asD qdb List.take_succ_cons List.take_zero List.drop_succ_cons List.drop_zero List.getElem?_cons_zero List.getElem?_cons_succ List.getElem?_nil List.all_cons List.all_nil Bool.and_true Bool.true_and Bool.and_self List.length_cons List.length_nil vals qf5 qg7 argO toD3 toD2 toD1 toDs O.ok O.ok2 O.ok1 O.flat O.flat1 D.flat D.flatA inO inO2 inO1 inOs List.filterMap_nil List.filterMap_cons List.filter_nil List.filter_cons List.nodup_nil decide_true decide_false Bool.not_true Bool.not_false not_true_eq_false not_false_eq_true or_false false_or and_false false_and ne_eq List.append_nil optB qp1 qht beq_self_eq_true List.mapM_cons List.mapM_nil Option.pure_def Option.bind_eq_bind true_or or_true or_self qe5 ite_self not_true not_false_iff ite_true ite_false if_true if_false Bool.false_eq_true Bool.true_eq_false List.any_nil List.any_cons List.contains_nil List.contains_cons eq_self qkl qkn qmb qm7 qmc qoc qls qhq qs1 lenOf binD qu3 unD qrs q6x q6w q00w qlx qly q5e qu4 qba9 q00x qbe8 List.range_zero Nat.zero_le Nat.zero_mul Nat.zero_add Nat.add_zero List.length_append List.take_length List.isEmpty_nil List.isEmpty_cons V.neg List.flatMap_nil and_self List.range_succ forall_const implies_true Nat.not_lt_zero q000 qbbb qbfa qz2 qtc qbfc qbbc qhp qgh mvAt qoi qnf qbfb ole oles dle dles List.nodup_cons List.mem_cons List.not_mem_nil List.drop_length Nat.le_refl Nat.lt_irrefl id_eq Option.some.injEq Bool.or_false Bool.false_or Bool.or_self Bool.or_true Bool.true_or false_implies Bool.and_false Bool.false_and List.reverse_cons List.reverse_nil sh1 qs2 mget qjr qhm qoy qow qox Option.isSome_some Option.isSome_none Bool.cond_true_left Bool.cond_false_right Bool.cond_true_right Bool.cond_false_left beq_true beq_false Bool.not_not imp_self qml notB qu5 qkk qko qs9 D.splice kEq Option.toList_some Option.toList_none adel List.getD_cons_zero List.getD_cons_succ qll bxId qkm hget one1 qha qir
attribute [go_sem] sz3 ag3 zr3 zo3 zd3 by3 sl3 st3 bo3 pt3 ck3 sz5 ag5 zr5 zo5 zd5 by5 sl5 st5 bo5 pt5 ck5 sz4 ag4 zr4 zo4 zd4 by4 sl4 st4 bo4 pt4 sz9 ag9 zr9 zo9 zd9 by9 sl9 un9 st9 bo9 pt9 ck9 sz50 ag50 zr50 zd50 by50 sl50 st50 bo50 pt50 qbrg qbrh qbri qbrj qbrk qbrl qbrm qbrn qbro qbrp pl50 ek50 sz52 ag52 zr52 zd52 by52 sl52 st52 bo52 pt52 qbrq qbrr qbrs qbrt qbru qbrv qbrw qbrx pl52 ek52 sz22 ag22 zr22 zo22 zd22 by22 el22 sl22 un22 st22 bo22 pt22 sz31 ag31 zr31 zo31 zd31 by31 sl31 st31 bo31 pt31 ck31 sz97 ag97 by97 sl97 st97 bo97 pt97 mt97 qbwu qbwv qbww qbwx qbwy qbwz qbw0 qbw1 qbw2 qbw3 qbw4 qbw5 qbw6 qbw7 qbw8 qbw9 qbxa qbxb qbxc qbmw qbmx qbmy qbmz qbm0 qbm1 qbm2 qbm3 qbxd qbxe qbxf qbxg qbxh qbxi qbxj qbxk qbxl qbxm qbxn qbxo qbxp qbxq qbym qbyn qbyo qbyp qbyq qbyr qbys qbyt qbyu qbyv qbyw qbyx qbyy sz126 qbv0 qbv1 qbv2 qbv3 qbv4 qbv5 qbv6 qbv7 qbmi qbmj qbmk qbml qbmm qbmn qbv8 qbv9 qbx3 qbx4 qbx5 qbx6 qbx7 qbx8 qbx9 qbya qbyb qbm4 qbm5 qbm6 qbm7 qbyc qbyd qbyz qby0 qby1 qby2 qby3 qby4 qby5 qby6 qby7 qby8 qby9 sz86 ag86 zr86 zo86 zd86 by86 el86 sl86 un86 st86 bo86 pt86 sz128 qbwa qbwb qbwc qbwd qbwe qbwf qbwg qbwh qbmo qbmp qbmq qbmr qbwi qbwj sz61 ag61 zr61 zo61 zd61 by61 el61 sl61 un61 st61 bo61 pt61 sz63 ag63 zr63 zd63 by63 sl63 st63 bo63 pt63 qbr8 qbr9 qbsa qbsb pl63 sz64 ag64 zr64 zo64 zd64 by64 el64 sl64 un64 st64 bo64 pt64 sz66 ag66 zr66 zd66 by66 sl66 st66 bo66 pt66 qbsc qbsd qbse qbsf qbsg qbsh qbsi qbsj pl66 sz131 qbwk qbwl qbwm qbwn qbwo qbwp qbwq qbwr qbms qbmt qbmu qbmv qbws qbwt qbye qbyf qbyg qbyh qbyi qbyj qbyk qbyl qbxr qbxs qbxt qbxu qbxv qbxw qbxx qbxy qbxz qbx0 qbx1 qbx2 sz67 ag67 zr67 zo67 zd67 by67 el67 sl67 un67 st67 bo67 pt67 sz69 ag69 zr69 zd69 by69 sl69 st69 bo69 pt69 qbsk qbsl qbsm qbsn pl69 sz71 ag71 zr71 zd71 by71 sl71 st71 bo71 pt71 qbso qbsp qbsq qbsr pl71 ek71 sz26 ag26 zr26 zo26 zd26 by26 el26 sl26 un26 st26 bo26 pt26 sz84 ag84 zr84 zo84 zd84 by84 el84 sl84 un84 st84 bo84 pt84 sz88 ag88 zr88 zd88 by88 sl88 st88 bo88 pt88 qbss qbst qbsu qbsv qbsw qbsx qbsy qbsz pl88 sz23 ag23 zr23 zo23 zd23 by23 el23 sl23 un23 st23 bo23 pt23 sz25 ag25 zr25 zd25 by25 sl25 st25 bo25 pt25 qbqy qbqz qbq0 qbq1 qbq2 qbq3 qbq4 qbq5 qbq6 qbq7 qbq8 qbq9 pl25 sz59 ag59 zr59 zd59 by59 sl59 st59 bo59 pt59 qbr4 qbr5 qbr6 qbr7 pl59 ek59 sz54 ag54 zr54 zd54 by54 sl54 st54 bo54 pt54 qbry qbrz qbr0 qbr1 qbr2 qbr3 pl54 ek54 sz55 ag55 zr55 zo55 zd55 by55 el55 sl55 un55 st55 bo55 pt55 sz38 ag38 zr38 zd38 by38 sl38 st38 bo38 pt38 qbra qbrb qbrc qbrd qbre qbrf pl38
end
end Go.Ev
namespace Go.Ev
end Go.Ev
namespace Go.Ev
end Go.Ev
namespace Go.Ev
open Go.Proofs Ty
set_option maxRecDepth 10000
set_option maxHeartbeats 4000000
end Go.Ev
namespace Go.Ev
def qb2 : List Int → Int
 | [] => 0
 | e :: r => if e ≠ 0 then e else qb2 r
theorem qwa {l : List Int} {i : Nat} (h : qb2 (l.drop i) = qb2 l) (hi : i < l.length) (h1 : ¬l.getD i 0 = 0) : qb2 l = l.getD i 0 := by
 rw [← h, qd2 0 hi, qb2, if_pos h1]
theorem qyy {l : List Int} {i : Nat} (h : qb2 (l.drop i) = qb2 l) (hi : i < l.length) (h1 : l.getD i 0 = 0) : qb2 (l.drop (i + 1)) = qb2 l := by
 rw [qd2 0 hi, qb2, if_neg (fun e => e h1)] at h; exact h
theorem qwb {l : List Int} {i : Nat} (h : qb2 (l.drop i) = qb2 l) (hi : l.length ≤ i) : qb2 l = 0 := by
 rw [← h, List.drop_of_length_le hi]; rfl
def qbs (t : DType) : Int :=
 if t.kind = 0 then (if ¬(1 ≤ t.length ∧ t.length ≤ 256) then 18 else if t.scale ≠ 0 then 3 else 0)
 else if t.kind = 1 ∨ t.kind = 2 then (if ¬(1 ≤ t.length ∧ t.length ≤ 15) then 18 else if ¬(0 ≤ t.scale ∧ t.scale ≤ t.length) then 3 else 0)
 else if t.kind = 3 then (if ¬(t.length = 4 ∨ t.length = 9) then 18 else if ¬(0 ≤ t.scale ∧ t.scale ≤ t.length) then 3 else 0)
 else if t.kind = 4 then (if t.length ≠ 0 then 18 else if t.scale ≠ 0 then 3 else 0)
 else 4
def qfh (t : DType) : Int := if t.kind = 1 then t.length / 2 + 1 else if t.kind = 3 then 2 + t.length / 9 * 2 else if t.kind = 4 then 16 else t.length
theorem qk2 {t : DType} (h : qbs t = 0) : 0 ≤ t.kind ∧ t.kind ≤ 4 ∧ 0 ≤ t.length ∧ t.length ≤ 256 ∧ (t.kind ≠ 0 → t.length ≤ 15) ∧ (t.kind ≠ 4 → 1 ≤ t.length) ∧ (t.kind = 3 → t.length = 4 ∨ t.length = 9) := by
 unfold qbs at h
 split at h
 ·split at h
  ·cases h
  ·omega
 split at h
 ·split at h
  ·cases h
  ·omega
 split at h
 ·split at h
  ·cases h
  ·omega
 split at h
 ·split at h
  ·cases h
  ·omega
 ·cases h
theorem qmt {t : DType} (h : qbs t = 0) : 1 ≤ qfh t ∧ qfh t ≤ 256 := by
 have := qk2 h
 unfold qfh
 split
 ·omega
 split
 ·omega
 split
 ·omega
 ·omega
def p10 (n : Int) : Int := 10 ^ (min n 18).toNat
theorem qwc (n : Int) : 1 ≤ p10 n ∧ p10 n ≤ 1000000000000000000 := by
 unfold p10
 have h : (min n 18).toNat ≤ 18 := by omega
 generalize (min n 18).toNat = k at h
 have h1 : (1 : Int) ≤ 10 ^ k := by
  have : 0 < (10 : Int) ^ k := Int.pow_pos (by decide)
  omega
 have h2 : (10 : Int) ^ k ≤ 10 ^ 18 := by
  have : (10 : Nat) ^ k ≤ 10 ^ 18 := Nat.pow_le_pow_right (by decide) h
  exact_mod_cast this
 omega
theorem qbfr {k : Nat} (h : k ≤ 18) : (1 : Int) ≤ 10 ^ k ∧ (10 : Int) ^ k ≤ 1000000000000000000 := by
 have := qwc (k : Int)
 unfold p10 at this
 have e : (min (k : Int) 18).toNat = k := by omega
 rwa [e] at this
def qj2 (t : DType) (v : Val) : Int :=
 if qbs t ≠ 0 then qbs t else if t.kind = 4 then 17
 else if t.kind = 0 then (if v.n ≠ 0 then 5 else if (v.s.size : Int) ≠ t.length then 18 else 0)
 else if v.s ≠ ⟨#[]⟩ then 5 else if ¬(-(p10 t.length - 1) ≤ v.n ∧ v.n ≤ p10 t.length - 1) then 19 else 0
def binN (b : ByteArray) : Int := (b.data.toList.tail).foldl (fun n c => ior .i64 (IntKind.i64.wrap (n * 2 ^ 8)) (c.toNat : Int)) (IntKind.i8.wrap (chr b 0))
def hiB (c : Int) : Int := c.fdiv (2 ^ 4)
def loB (c : Int) : Int := iand .u8 c 15
def qgp (t : DType) (b : ByteArray) : Nat → List Int
 | 0 => []
 | i + 1 => qgp t b i ++ (if t.kind = 1 then [hiB (chr b i), loB (chr b i)] else [loB (chr b i)])
def qhj (t : DType) : Nat → List Int
 | 0 => []
 | i + 1 => qhj t i ++ (if t.kind = 1 then [(i : Int), (i : Int)] else [(i : Int)])
def qb5 (t : DType) (b : ByteArray) : List Int × List Int :=
 if t.kind = 2 then (qgp t b b.size ++ [hiB (chr b (b.size - 1))], qhj t b.size ++ [(b.size : Int) - 1]) else (qgp t b b.size, qhj t b.size)
theorem qgl (t : DType) (b : ByteArray) : ∀ i, (qgp t b i).length = if t.kind = 1 then 2 * i else i
 | 0 => by simp [qgp]
 | i + 1 => by
   unfold qgp
   rw [List.length_append, qgl t b i]
   split <;> simp <;> omega
theorem qiy (t : DType) : ∀ i, (qhj t i).length = if t.kind = 1 then 2 * i else i
 | 0 => by simp [qhj]
 | i + 1 => by
   unfold qhj
   rw [List.length_append, qiy t i]
   split <;> simp <;> omega
theorem qqv (t : DType) (b : ByteArray) : (qb5 t b).1.length = (if t.kind = 1 then 2 * b.size else if t.kind = 2 then b.size + 1 else b.size) ∧ (qb5 t b).2.length = (qb5 t b).1.length := by
 unfold qb5
 by_cases h2 : t.kind = 2
 ·have h1 : ¬t.kind = 1 := by omega
  simp [qgl, qiy, h2]
 ·by_cases h1 : t.kind = 1
  ·simp [qgl, qiy, h1]
  ·simp [qgl, qiy, h1, h2]
def qh4 (len : Int) (l at_ : List Int) (last : Int) : List Int → Nat → Int → Int × Int × Int
 | [], _, n => if l.getD last.toNat 0 < 10 then (0, at_.getD last.toNat 0, 21) else (if l.getD last.toNat 0 = 11 ∨ l.getD last.toNat 0 = 13 then IntKind.i64.wrap (0 - n) else n, 0, 0)
 | d :: r, i, n => if 9 < d ∨ (0 < d ∧ (i : Int) < last - len) then (0, at_.getD i 0, 21) else qh4 len l at_ last r (i + 1) (IntKind.i64.wrap (IntKind.i64.wrap (n * 10) + IntKind.i64.wrap d))
def decN (t : DType) (b : ByteArray) : Int × Int × Int :=
 qh4 t.length (qb5 t b).1 (qb5 t b).2 ((qb5 t b).1.length - 1) ((qb5 t b).1.take ((qb5 t b).1.length - 1)) 0 0
def qd9 (t : DType) (b : ByteArray) : Val × Int × Int :=
 if qbs t ≠ 0 then (zVal, 0, qbs t) else if t.kind = 4 then (zVal, 0, 17) else if (b.size : Int) ≠ qfh t then (zVal, 0, 18)
 else if t.kind = 0 then (⟨0, b⟩, 0, 0)
 else if t.kind = 3 then (if qj2 t ⟨binN b, ⟨#[]⟩⟩ ≠ 0 then (zVal, 0, qj2 t ⟨binN b, ⟨#[]⟩⟩) else (⟨binN b, ⟨#[]⟩⟩, 0, 0))
 else (⟨(decN t b).1, ⟨#[]⟩⟩, (decN t b).2.1, (decN t b).2.2)
def qny (b : ByteArray) (i : Nat) : Int := ((b.data.toList.tail).take i).foldl (fun n c => ior .i64 (IntKind.i64.wrap (n * 2 ^ 8)) (c.toNat : Int)) (IntKind.i8.wrap (chr b 0))
theorem qur (b : ByteArray) : (b.extract 1 b.size).size = b.size - 1 := by rw [ByteArray.size_extract]; omega
theorem qbna (b : ByteArray) (i : Nat) (h : i < b.size - 1) : chr (b.extract 1 b.size) i = chr b (i + 1) := by
 unfold chr
 congr 2
 have : (b.extract 1 b.size).data = b.data.extract 1 b.size := by simp
 rw [this]
 simp only [List.getD_eq_getElem?_getD, Array.getElem?_toList]
 congr 1
 have hs : b.data.size = b.size := rfl
 rw [Array.getElem?_extract]
 rw [if_pos (by omega), Nat.add_comm]
theorem qmi (b : ByteArray) (i : Nat) (h : i < b.size - 1) : qny b (i + 1) = ior .i64 (IntKind.i64.wrap (qny b i * 2 ^ 8)) (chr b (i + 1)) := by
 unfold qny
 have hs : b.data.toList.tail.length = b.size - 1 := by rw [List.length_tail, Array.length_toList]; rfl
 rw [qdx 0 (by omega), List.foldl_append]
 simp only [List.foldl_cons, List.foldl_nil]
 congr 1
 unfold chr
 simp [List.getD, List.getElem?_tail]
theorem qse (b : ByteArray) (i : Nat) (h : b.size - 1 ≤ i) : qny b i = binN b := by
 unfold qny binN
 have hs : b.data.toList.tail.length = b.size - 1 := by rw [List.length_tail, Array.length_toList]; rfl
 rw [List.take_of_length_le (by omega)]
theorem q5q {n : Int} {i : Nat} (h1 : (i : Int) ≤ max 0 (min n 18)) (h2 : min n 18 ≤ (i : Int)) : p10 n = 10 ^ i := by
 unfold p10; congr 1; omega
theorem q1i {i : Nat} (h : i < 18) : (10 : Int) ^ (i + 1) = IntKind.i64.wrap (10 ^ i * 10) := by
 have := qbfr (k := i + 1) (by omega)
 rw [Int.pow_succ] at this ⊢
 rw [w64 (by omega) (by omega)]
theorem qua {n : Int} (h0 : 0 ≤ n) (h : n ≤ 256) : IntKind.i64.wrap (IntKind.i64.wrap (n.tdiv 2) + 1) = n / 2 + 1 := by
 rw [Int.tdiv_eq_ediv_of_nonneg h0, w64 (n := n / 2) (by omega) (by omega), w64 (by omega) (by omega)]
theorem q4u {n : Int} (h0 : 0 ≤ n) (h : n ≤ 256) : IntKind.i64.wrap (2 + IntKind.i64.wrap (IntKind.i64.wrap (n.tdiv 9) * 2)) = 2 + n / 9 * 2 := by
 rw [Int.tdiv_eq_ediv_of_nonneg h0, w64 (n := n / 9) (by omega) (by omega), w64 (n := n / 9 * 2) (by omega) (by omega), w64 (by omega) (by omega)]
theorem qxm {t : DType} {b : ByteArray} {i : Nat} (h : t.kind = 1) : qgp t b (i + 1) = qgp t b i ++ [hiB (chr b i), loB (chr b i)] := by rw [qgp, if_pos h]
theorem qxn {t : DType} {b : ByteArray} {i : Nat} (h : ¬t.kind = 1) : qgp t b (i + 1) = qgp t b i ++ [loB (chr b i)] := by rw [qgp, if_neg h]
theorem qxo {t : DType} {i : Nat} (h : t.kind = 1) : qhj t (i + 1) = qhj t i ++ [(i : Int), (i : Int)] := by rw [qhj, if_pos h]
theorem qxp {t : DType} {i : Nat} (h : ¬t.kind = 1) : qhj t (i + 1) = qhj t i ++ [(i : Int)] := by rw [qhj, if_neg h]
theorem qmu {t : DType} {b : ByteArray} (h : t.kind = 2) : qb5 t b = (qgp t b b.size ++ [hiB (chr b (b.size - 1))], qhj t b.size ++ [(b.size : Int) - 1]) := by rw [qb5, if_pos h]
theorem qoq {t : DType} {b : ByteArray} (h : ¬t.kind = 2) : qb5 t b = (qgp t b b.size, qhj t b.size) := by rw [qb5, if_neg h]
end Go.Ev
namespace Go.Ev
theorem q5r (n : Int) : -128 ≤ IntKind.i8.wrap n ∧ IntKind.i8.wrap n ≤ 127 := by
 unfold IntKind.wrap
 simp only [IntKind.bits, IntKind.signed, Bool.true_and]
 split <;> rename_i h <;> simp only [decide_eq_true_eq, ge_iff_le] at h <;> omega
end Go.Ev
namespace Go.Ev
section
variable {len last n : Int} {l a r : List Int} {i : Nat} {c : Int × Int × Int}
theorem qbbh (h : qh4 len l a last (r.drop i) i n = c) (hi : i < r.length) (h1 : 9 < r.getD i 0 ∨ (0 < r.getD i 0 ∧ (i : Int) < last - len)) : c = (0, a.getD i 0, 21) := by
 rw [← h, qd2 0 hi, qh4, if_pos h1]
theorem q7r (h : qh4 len l a last (r.drop i) i n = c) (hi : i < r.length) (h1 : ¬(9 < r.getD i 0 ∨ (0 < r.getD i 0 ∧ (i : Int) < last - len))) : qh4 len l a last (r.drop (i + 1)) (i + 1) (IntKind.i64.wrap (IntKind.i64.wrap (n * 10) + IntKind.i64.wrap (r.getD i 0))) = c := by
 rw [qd2 0 hi, qh4, if_neg h1] at h; exact h
theorem q7s (h : qh4 len l a last (r.drop i) i n = c) (hi : r.length ≤ i) (h1 : l.getD last.toNat 0 < 10) : c = (0, a.getD last.toNat 0, 21) := by
 rw [← h, List.drop_of_length_le hi, qh4, if_pos h1]
theorem q7t (h : qh4 len l a last (r.drop i) i n = c) (hi : r.length ≤ i) (h1 : ¬l.getD last.toNat 0 < 10) (h2 : l.getD last.toNat 0 = 11 ∨ l.getD last.toNat 0 = 13) : c = (IntKind.i64.wrap (0 - n), 0, 0) := by
 rw [← h, List.drop_of_length_le hi, qh4, if_neg h1, if_pos h2]
theorem q7u (h : qh4 len l a last (r.drop i) i n = c) (hi : r.length ≤ i) (h1 : ¬l.getD last.toNat 0 < 10) (h2 : ¬(l.getD last.toNat 0 = 11 ∨ l.getD last.toNat 0 = 13)) : c = (n, 0, 0) := by
 rw [← h, List.drop_of_length_le hi, qh4, if_neg h1, if_neg h2]
end
end Go.Ev
namespace Go.Ev
noncomputable section
open Go.Proofs Ty
set_option maxRecDepth 10000
set_option maxHeartbeats 4000000
def e179 : List O → Option (Prop × O)
 | [.d (.i .i64 n), .d (.i .i64 lo), .d (.i .i64 hi)] => some (True, .d (.b (decide (lo ≤ n) && decide (n ≤ hi))))
 | _ => none
def q1j : FuncId → List O → Option (Prop × O) := addT q7q 179 e179
def e168 : List O → Option (Prop × O)
 | [.d (.b b), .d (.i .i64 e)] => some (True, .d (.i .i64 (if b = true then e else 0)))
 | _ => none
def q1k : FuncId → List O → Option (Prop × O) := addT q1j 168 e168
def e167 : List O → Option (Prop × O)
 | [.d x_l] => match decL 1 (decI .i64) x_l with
   | some l => some (l.length ≤ 1000000, .d (.i .i64 (qb2 l)))
   | _ => none
 | _ => none
def q1l : FuncId → List O → Option (Prop × O) := addT q1k 167 e167
def e85 : List O → Option (Prop × O)
 | [.d (.b b), .d (.i .i64 e)] => some (True, .d (.i .i64 (if b = true then e else 0)))
 | _ => none
def q7v : FuncId → List O → Option (Prop × O) := addT q1l 85 e85
def e83 : List O → Option (Prop × O)
 | [.d x_l] => match decL 1 (decI .i64) x_l with
   | some l => some (l.length ≤ 1000000, .d (.i .i64 (qb2 l)))
   | _ => none
 | _ => none
def q7w : FuncId → List O → Option (Prop × O) := addT q7v 83 e83
def e144 : List O → Option (Prop × O)
 | [.d (.s s)] => some (True, .d (.b (qcn s)))
 | _ => none
def q1m : FuncId → List O → Option (Prop × O) := addT q7w 144 e144
def e165 : List O → Option (Prop × O)
 | [.d x_t] => match qbl x_t with
   | some t => some (True, .d (.i .i64 (qbs t)))
   | _ => none
 | _ => none
def q1n : FuncId → List O → Option (Prop × O) := addT q1m 165 e165
def e169 : List O → Option (Prop × O)
 | [.d x_t] => match qbl x_t with
   | some t => some (qbs t = 0, .d (.i .i64 (qfh t)))
   | _ => none
 | _ => none
def q1o : FuncId → List O → Option (Prop × O) := addT q1n 169 e169
def e166 : List O → Option (Prop × O)
 | [.d x_t] => match qbl x_t with
   | some t => some (True, .tup [.d (.i .i64 (if qbs t = 0 then qfh t else 0)), .d (.i .i64 (qbs t))])
   | _ => none
 | _ => none
def q1p : FuncId → List O → Option (Prop × O) := addT q1o 166 e166
def e180 : List O → Option (Prop × O)
 | [.d (.i .i64 n)] => some (True, .d (.i .i64 (p10 n)))
 | _ => none
def q1q : FuncId → List O → Option (Prop × O) := addT q1p 180 e180
def e171 : List O → Option (Prop × O)
 | [.d x_t, .d x_v] => match qbl x_t, qdr x_v with
   | some t, some v => some (True, .d (.i .i64 (qj2 t v)))
   | _, _ => none
 | _ => none
def q1r : FuncId → List O → Option (Prop × O) := addT q1q 171 e171
def e170 : List O → Option (Prop × O)
 | [.d (.s b)] => some (0 < b.size ∧ b.size ≤ 1000, .d (.i .i64 (binN b)))
 | _ => none
def q1s : FuncId → List O → Option (Prop × O) := addT q1r 170 e170
def e181 : List O → Option (Prop × O)
 | [.d x_t, .d (.s b)] => match qbl x_t with
   | some t => some (0 < b.size ∧ b.size ≤ 1000, .tup [.d (.sl 1 ((qb5 t b).1.map (D.i .u8))), .d (.sl 1 ((qb5 t b).2.map (D.i .i64)))])
   | _ => none
 | _ => none
def q1t : FuncId → List O → Option (Prop × O) := addT q1s 181 e181
def e172 : List O → Option (Prop × O)
 | [.d x_t, .d (.s b)] => match qbl x_t with
   | some t => some (0 < b.size ∧ b.size ≤ 1000 ∧ 0 ≤ t.length ∧ t.length ≤ 1000, .tup [.d (.i .i64 (decN t b).1), .d (.i .i64 (decN t b).2.1), .d (.i .i64 (decN t b).2.2)])
   | _ => none
 | _ => none
def q1u : FuncId → List O → Option (Prop × O) := addT q1t 172 e172
def e148 : List O → Option (Prop × O)
 | [.d x_t, .d (.s b)] => match qbl x_t with
   | some t => some (True, .tup [.d (qce (qd9 t b).1), .d (.i .i64 (qd9 t b).2.1), .d (.i .i64 (qd9 t b).2.2)])
   | _ => none
 | _ => none
def q1v : FuncId → List O → Option (Prop × O) := addT q1u 148 e148
end
end Go.Ev
namespace Go.Ev
def qcf (g : Nat → Int) (n : Nat) : Option Nat := (List.range n).find? fun i => decide (g i ≠ 0)
theorem qeu {g : Nat → Int} {n i : Nat} (h : ∀ j, j < i → g j = 0) (hi : i < n) (hg : ¬g i = 0) : qcf g n = some i := by
 unfold qcf
 rw [List.find?_eq_some_iff_getElem]
 refine ⟨by simpa using hg, i, by simpa using hi, by simp, fun j hj => ?_⟩
 simp [h j hj]
theorem qev {g : Nat → Int} {n : Nat} (h : ∀ j, j < n → g j = 0) : qcf g n = none := by
 unfold qcf
 rw [List.find?_eq_none]
 intro j hj
 simp [h j (List.mem_range.1 hj)]
theorem qex {g : Nat → Int} {i : Nat} (h : ∀ j, j < i → g j = 0) (hg : g i = 0) : ∀ j, j < i + 1 → g j = 0 := fun j hj => by
 by_cases e : j = i
 ·subst e; exact hg
 ·exact h j (by omega)
def qgb (x : Field) : Int := if qbs x.type_ = 0 then qfh x.type_ else 0
theorem qjt (x : Field) : 0 ≤ qgb x ∧ qgb x ≤ 256 := by
 unfold qgb
 split
 ·have := qmt (t := x.type_) (by assumption); omega
 ·omega
def qct (l : List Field) : Nat → Int
 | 0 => 0
 | i + 1 => qct l i + qgb (l.getD i q03)
theorem qhd (l : List Field) : ∀ i, 0 ≤ qct l i ∧ qct l i ≤ 256 * (i : Int)
 | 0 => by simp [qct]
 | i + 1 => by
   have h1 := qhd l i
   have h2 := qjt (l.getD i q03)
   simp only [qct]
   omega
def idxF (l : List Field) (name : ByteArray) : Option Nat := l.findIdx? fun x => decide (x.name = name)
def atF (l : List Field) (name : ByteArray) : Int × Int × Bool := match idxF l name with
 | some i => (i, qct l i, true)
 | none => (0, 0, false)
theorem qbnb {l : List Field} {name : ByteArray} {i : Nat} (h : idxF (l.take i) name = none) (hi : i < l.length) (e : (l.getD i q03).name = name) : atF l name = ((i : Int), qct l i, true) := by
 unfold atF
 have : idxF l name = some i := by
  unfold idxF at h ⊢
  rw [← List.take_append_drop i l, List.findIdx?_append, h, qd2 q03 hi, List.findIdx?_cons]
  have hl : (l.take i).length = i := by rw [List.length_take]; omega
  have e' : decide ((l.getD i q03).name = name) = true := by simpa using e
  rw [e', hl, if_pos rfl]
  simp
 rw [this]
theorem qyz {l : List Field} {name : ByteArray} {i : Nat} (h : idxF (l.take i) name = none) (hi : i < l.length) (e : ¬(l.getD i q03).name = name) : idxF (l.take (i + 1)) name = none := by
 unfold idxF at h ⊢
 rw [qdx q03 hi, List.findIdx?_append, h]
 simp [List.findIdx?_cons, e] at e ⊢
 exact e
theorem qbs1 {l : List Field} {name : ByteArray} {i : Nat} (h : idxF (l.take i) name = none) (hi : l.length ≤ i) : atF l name = (0, 0, false) := by
 rw [List.take_of_length_le hi] at h
 unfold atF; rw [h]
def qe3 (l : List Field) (i : Nat) : Int :=
 if qcn (l.getD i q03).name = false then 7 else if (atF (l.take i) (l.getD i q03).name).2.2 = true then 13
 else if qbs (l.getD i q03).type_ ≠ 0 then qbs (l.getD i q03).type_ else if (l.getD i q03).type_.kind = 4 then 17 else 0
def qco (f : Fmt) : Int × Int :=
 if qcn f.name = false then (0, 7) else if f.fields.length = 0 then (0, 1) else if 20 < f.fields.length then (0, 2)
 else match qcf (qe3 f.fields) f.fields.length with
  | some i => (i, qe3 f.fields i)
  | none => (0, if 200 < qct f.fields f.fields.length then 18 else 0)
theorem qbnc {f : Fmt} {i : Nat} (h0 : qcn f.name = true ∧ 1 ≤ f.fields.length ∧ f.fields.length ≤ 20) (h : ∀ j, j < i → qe3 f.fields j = 0) (hi : i < f.fields.length) (hg : ¬qe3 f.fields i = 0) : qco f = ((i : Int), qe3 f.fields i) := by
 unfold qco
 rw [if_neg (by simp [h0.1]), if_neg (by omega), if_neg (by omega), qeu h hi hg]
theorem q5s {f : Fmt} {i : Nat} (h0 : qcn f.name = true ∧ 1 ≤ f.fields.length ∧ f.fields.length ≤ 20) (h : ∀ j, j < i → qe3 f.fields j = 0) (hi : f.fields.length ≤ i) : qco f = (0, if 200 < qct f.fields f.fields.length then 18 else 0) := by
 unfold qco
 rw [if_neg (by simp [h0.1]), if_neg (by omega), if_neg (by omega), qev fun j hj => h j (by omega)]
theorem qwd {f : Fmt} (h : (qco f).2 = 0) : qcn f.name = true ∧ 1 ≤ f.fields.length ∧ f.fields.length ≤ 20 ∧ (∀ j, j < f.fields.length → qe3 f.fields j = 0) ∧ qct f.fields f.fields.length ≤ 200 ∧ (qco f).1 = 0 := by
 have hd := h
 unfold qco at h
 split at h
 ·cases h
 split at h
 ·cases h
 split at h
 ·cases h
 rename_i h1 h2 h3
 split at h
 ·rename_i i hi
  unfold qcf at hi
  have := List.find?_some hi
  simp at this
  exact absurd h this
 ·rename_i hn
  split at h
  ·cases h
  ·rename_i h4
   unfold qcf at hn
   rw [List.find?_eq_none] at hn
   refine ⟨by simpa using h1, by omega, by omega, fun j hj => ?_, by omega, ?_⟩
   ·have := hn j (List.mem_range.2 hj)
    simpa using this
   ·unfold qco
    rw [if_neg h1, if_neg h2, if_neg h3, qev fun j hj => by have := hn j (List.mem_range.2 hj); simpa using this]
theorem qy0 {l : List Field} {i : Nat} (h : qe3 l i = 0) : qbs (l.getD i q03).type_ = 0 ∧ (l.getD i q03).type_.kind ≠ 4 := by
 unfold qe3 at h
 split at h
 ·cases h
 split at h
 ·cases h
 split at h
 ·rename_i h3; exact absurd h h3
 split at h
 ·cases h
 ·rename_i h3 h4; exact ⟨by omega, h4⟩
def qmv (f : Fmt) : Int := if qcn f.name = false then 7 else if f.fields.length = 0 then 1 else if 20 < f.fields.length then 2 else 0
theorem qbnd (f : Fmt) : qb2 [if qcn f.name = false then 7 else 0, if (f.fields.length : Int) = 0 then 1 else 0, if 20 < (f.fields.length : Int) then 2 else 0] = qmv f := by
 simp only [qb2, qmv]
 (repeat' split) <;> first | rfl | omega | (exfalso; omega) | simp_all
theorem q1w {f : Fmt} (h : ¬qmv f = 0) : qco f = (0, qmv f) := by
 unfold qmv at h ⊢
 unfold qco
 split
 ·rfl
 split
 ·rfl
 split
 ·rfl
 ·simp_all
theorem qxq {f : Fmt} (h : qmv f = 0) : qcn f.name = true ∧ 1 ≤ f.fields.length ∧ f.fields.length ≤ 20 := by
 unfold qmv at h
 split at h
 ·cases h
 split at h
 ·cases h
 split at h
 ·cases h
 ·exact ⟨by simpa using ‹¬qcn f.name = false›, by omega, by omega⟩
theorem qbs2 (l : List Field) (i : Nat) : qb2 [if qcn (l.getD i q03).name = false then 7 else 0, if (atF (l.take i) (l.getD i q03).name).2.2 = true then 13 else 0, qbs (l.getD i q03).type_, if (l.getD i q03).type_.kind = 4 then 17 else 0] = qe3 l i := by
 simp only [qb2, qe3]
 (repeat' split) <;> first | rfl | omega | (exfalso; omega) | simp_all
def qlw (f : File) : Int := if qcn f.name = false then 7 else if (qco f.format).2 ≠ 0 then (qco f.format).2 else if 4 < f.keys.length then 2 else 0
theorem qbfs (f : File) : qb2 [if qcn f.name = false then 7 else 0, (qco f.format).2, if 4 < (f.keys.length : Int) then 2 else 0] = qlw f := by
 simp only [qb2, qlw]
 (repeat' split) <;> first | rfl | omega | (exfalso; omega) | simp_all
def keyE (f : File) (i : Nat) : Int :=
 if (atF f.format.fields (f.keys.getD i qec).name).2.2 = false then 11 else if (f.keys.take i).any (fun k => decide (k.name = (f.keys.getD i qec).name)) = true then 13 else 0
def qcs (f : File) : Int × Int :=
 if qcn f.name = false then (0, 7) else if (qco f.format).2 ≠ 0 then (0, (qco f.format).2) else if 4 < f.keys.length then (0, 2)
 else match qcf (keyE f) f.keys.length with
  | some i => (i, keyE f i)
  | none => (0, 0)
theorem qbft {f : File} {i : Nat} (h0 : qcn f.name = true ∧ (qco f.format).2 = 0 ∧ f.keys.length ≤ 4) (h : ∀ j, j < i → keyE f j = 0) (hi : i < f.keys.length) (hg : ¬keyE f i = 0) : qcs f = ((i : Int), keyE f i) := by
 unfold qcs
 rw [if_neg (by simp [h0.1]), if_neg (fun e => e h0.2.1), if_neg (by omega), qeu h hi hg]
theorem qbfu {f : File} {i : Nat} (h0 : qcn f.name = true ∧ (qco f.format).2 = 0 ∧ f.keys.length ≤ 4) (h : ∀ j, j < i → keyE f j = 0) (hi : f.keys.length ≤ i) : qcs f = (0, 0) := by
 unfold qcs
 rw [if_neg (by simp [h0.1]), if_neg (fun e => e h0.2.1), if_neg (by omega), qev fun j hj => h j (by omega)]
theorem qbne {f : File} (h : (qcs f).2 = 0) : qcn f.name = true ∧ (qco f.format).2 = 0 ∧ f.keys.length ≤ 4 := by
 unfold qcs at h
 split at h
 ·cases h
 split at h
 ·rename_i h2; exact absurd h h2
 split at h
 ·cases h
 ·exact ⟨by simpa using ‹¬qcn f.name = false›, by omega, by omega⟩
def qqw (f : Fmt) (b : ByteArray) (i : Nat) : ByteArray := b.extract (qct f.fields i).toNat (qct f.fields (i + 1)).toNat
def q7x (f : Fmt) (b : ByteArray) (i : Nat) : Val × Int × Int := qd9 (f.fields.getD i q03).type_ (qqw f b i)
def qlo (f : Fmt) (b : ByteArray) (i : Nat) : Int := (q7x f b i).2.2
def qlh (f : Fmt) (b : ByteArray) : Nat → List Val
 | 0 => []
 | i + 1 => qlh f b i ++ [(q7x f b i).1]
theorem qwe (f : Fmt) (b : ByteArray) : ∀ i, (qlh f b i).length = i
 | 0 => rfl
 | i + 1 => by simp [qlh, qwe f b i]
def qhy (f : Fmt) (b : ByteArray) : List Val × Int × Int := match qcf (qlo f b) f.fields.length with
 | some i => ([], i, qlo f b i)
 | none => (qlh f b f.fields.length, 0, 0)
theorem qxr {f : Fmt} {b : ByteArray} {i : Nat} (h : ∀ j, j < i → qlo f b j = 0) (hi : i < f.fields.length) (hg : ¬qlo f b i = 0) : qhy f b = ([], (i : Int), qlo f b i) := by
 unfold qhy
 rw [qeu h hi hg]
theorem qxs {f : Fmt} {b : ByteArray} {i : Nat} (h : ∀ j, j < i → qlo f b j = 0) (hi : f.fields.length ≤ i) : qhy f b = (qlh f b f.fields.length, 0, 0) := by
 unfold qhy
 rw [qev fun j hj => h j (by omega)]
def qfw (f : Fmt) : Int := qct f.fields f.fields.length
def qds (f : Fmt) (b : ByteArray) : List Val × Int × Int :=
 if (qco f).2 ≠ 0 then ([], 0, (qco f).2) else if (b.size : Int) ≠ qfw f then ([], 0, 18) else qhy f b
def recE (t : Table) (i : Nat) : Int :=
 if (t.records.getD i zRec).deleted = true then (if (t.records.getD i zRec).bytes ≠ ⟨#[]⟩ then 5 else 0) else (qds t.file.format (t.records.getD i zRec).bytes).2.2
def qbd (t : Table) : Int × Int :=
 if (qcs t.file).2 ≠ 0 then (0, (qcs t.file).2) else if 60 < t.records.length then (0, 2)
 else match qcf (recE t) t.records.length with
  | some i => (i, recE t i)
  | none => (0, 0)
theorem qo9 {t : Table} {i : Nat} (h0 : (qcs t.file).2 = 0 ∧ t.records.length ≤ 60) (h : ∀ j, j < i → recE t j = 0) (hi : i < t.records.length) (hg : ¬recE t i = 0) : qbd t = ((i : Int), recE t i) := by
 unfold qbd
 rw [if_neg (fun e => e h0.1), if_neg (by omega), qeu h hi hg]
theorem qsf {t : Table} {i : Nat} (h0 : (qcs t.file).2 = 0 ∧ t.records.length ≤ 60) (h : ∀ j, j < i → recE t j = 0) (hi : t.records.length ≤ i) : qbd t = (0, 0) := by
 unfold qbd
 rw [if_neg (fun e => e h0.1), if_neg (by omega), qev fun j hj => h j (by omega)]
theorem qy1 {f : File} (h : ¬qlw f = 0) : qcs f = (0, qlw f) := by
 unfold qlw at h ⊢
 unfold qcs
 split
 ·rfl
 split
 ·rfl
 split
 ·rfl
 ·simp_all
theorem qus {f : File} (h : qlw f = 0) : qcn f.name = true ∧ (qco f.format).2 = 0 ∧ f.keys.length ≤ 4 := by
 unfold qlw at h
 split at h
 ·cases h
 split at h
 ·rename_i h2; exact absurd h h2
 split at h
 ·cases h
 ·exact ⟨by simpa using ‹¬qcn f.name = false›, by omega, by omega⟩
theorem qbbi (f : File) (i : Nat) : qb2 [if (atF f.format.fields (f.keys.getD i qec).name).2.2 = false then 11 else 0, if (f.keys.take i).any (fun k => decide (k.name = (f.keys.getD i qec).name)) = true then 13 else 0] = keyE f i := by
 simp only [qb2, keyE]
 (repeat' split) <;> first | rfl | omega | (exfalso; omega) | simp_all
def qmw (t : Table) : Int := if (qcs t.file).2 ≠ 0 then (qcs t.file).2 else if 60 < t.records.length then 2 else 0
theorem qbfv (t : Table) : qb2 [(qcs t.file).2, if 60 < (t.records.length : Int) then 2 else 0] = qmw t := by
 simp only [qb2, qmw]
 (repeat' split) <;> first | rfl | omega | (exfalso; omega) | simp_all
theorem q1x {t : Table} (h : ¬qmw t = 0) : qbd t = (0, qmw t) := by
 unfold qmw at h ⊢
 unfold qbd
 split
 ·rfl
 split
 ·rfl
 ·simp_all
theorem q1y {t : Table} (h : qmw t = 0) : (qcs t.file).2 = 0 ∧ t.records.length ≤ 60 := by
 unfold qmw at h
 split at h
 ·rename_i h2; exact absurd h h2
 split at h
 ·cases h
 ·exact ⟨by omega, by omega⟩
end Go.Ev
namespace Go.Ev
def keyD (k : KField) : D := .s k.name
def qiq (l : List KField) : List V := (l.map fun _ => D.b true).map V.d
theorem qwf (l : List KField) (n : ByteArray) : (qfg (l.map keyD) (.s n)).isSome = l.any (fun k => decide (k.name = n)) := by
 induction l with
 | nil => rfl
 | cons k l ih =>
   have hk : kEq (keyD k) (.s n) = decide (k.name = n) := qcr _ _
   rw [List.map_cons, List.any_cons]
   unfold qfg
   by_cases e : k.name = n
   ·rw [if_pos (by rw [hk]; simpa using e)]; simp [e]
   ·have e' : decide (k.name = n) = false := by simpa using e
    rw [if_neg (by rw [hk, e']; simp), Option.isSome_map, e', Bool.false_or]
    exact ih
theorem qy2 : ∀ {l : List KField} {n : ByteArray} {i : Nat}, qfg (l.map keyD) (.s n) = some i → i < l.length
 | [], _, _, h => by cases h
 | k :: l, n, i, h => by
   simp only [List.map_cons, qfg] at h
   split at h
   ·cases h; simp
   ·rw [Option.map_eq_some_iff] at h
    obtain ⟨j, hj, rfl⟩ := h
    have := qy2 hj
    simp only [List.length_cons]; omega
theorem qbfw (l : List KField) (n : ByteArray) : qs2 (.b false) (l.map keyD) (qiq l) (.s n) = some (.b (l.any fun k => decide (k.name = n))) := by
 unfold qs2
 rw [← qwf]
 cases h : qfg (l.map keyD) (.s n) with
 | none => rfl
 | some i =>
   have hl := qy2 h
   have : (qiq l).getD i (.d .np) = .d (.b true) := by
    unfold qiq
    simp [List.getD, hl]
   simp only [this, Option.isSome_some]
theorem qwg (l : List KField) (k : KField) : qiq (l ++ [k]) = qiq l ++ [V.d (.b true)] := by simp [qiq]
theorem qbfx (l : List KField) : ∀ v ∈ qiq l, sh1 (.b false) v = true := by
 intro v hv
 unfold qiq at hv
 simp only [List.map_map, List.mem_map] at hv
 obtain ⟨_, _, rfl⟩ := hv
 rfl
theorem qpq {l : List KField} {n : ByteArray} (h : ¬l.any (fun k => decide (k.name = n)) = true) : qfg (l.map keyD) (.s n) = none := by
 rw [← qwf] at h
 cases hx : qfg (l.map keyD) (.s n) with
 | none => rfl
 | some i => rw [hx] at h; exact absurd rfl h
theorem qxt {f : File} {i : Nat} (h : keyE f i = 0) : ¬(f.keys.take i).any (fun k => decide (k.name = (f.keys.getD i qec).name)) = true := by
 intro hc
 unfold keyE at h
 rw [if_pos hc] at h
 split at h <;> cases h
theorem qy3 {f : File} {i : Nat} (hi : i < f.keys.length) (h : keyE f i = 0) : qow ((f.keys.take i).map keyD) (.s (f.keys.getD i qec).name) = (f.keys.take (i + 1)).map keyD := by
 unfold qow
 rw [qpq (qxt h), qdx qec hi, List.map_append]
 rfl
theorem q7y {f : File} {i : Nat} (hi : i < f.keys.length) (h : keyE f i = 0) : qox ((f.keys.take i).map keyD) (qiq (f.keys.take i)) (.s (f.keys.getD i qec).name) (.d (.b true)) = qiq (f.keys.take (i + 1)) := by
 unfold qox
 rw [qpq (qxt h), qdx qec hi, qwg]
theorem q4v {f : File} {i : Nat} (hi : i < f.keys.length) : qiq (f.keys.take i) ++ [V.d (.b true)] = qiq (f.keys.take (i + 1)) := by rw [qdx qec hi, qwg]
theorem q4w {f : File} {i : Nat} (hi : i < f.keys.length) : (f.keys.take i).map keyD ++ [.s (f.keys.getD i qec).name] = (f.keys.take (i + 1)).map keyD := by rw [qdx qec hi, List.map_append]; rfl
end Go.Ev
namespace Go.Ev
theorem q5t : ∀ (l m : List D), qlm (l.map V.d) (m.map V.d) = []
 | [], m => by cases m <;> simp [qlm]
 | a :: l, [] => by simp [qlm]
 | a :: l, b :: m => by
   simp only [List.map_cons, qlm, rhoV, List.nil_append]
   exact q5t l m
theorem q7z (l m : List KField) : qlm (qiq l) (qiq m) = [] := q5t _ _
theorem qbfy {ρ : Nat → Option Nat} {nf : Nat → Prop} (l : List KField) : vss ρ nf (qiq l) (qiq l) = True := eq_true (by
 unfold qiq
 generalize (l.map fun _ => D.b true) = m
 induction m with
 | nil => trivial
 | cons d m ih =>
   simp only [List.map_cons, vss, vs]
   exact ⟨q09 d, ih⟩)
theorem qwh (l : List Field) (i : Nat) : ∀ j, i ≤ j → qct l i ≤ qct l j
 | 0, h => by rw [show i = 0 by omega]; exact Int.le_refl _
 | j + 1, h => by
   by_cases e : i = j + 1
   ·rw [e]; exact Int.le_refl _
   ·have := qwh l i j (by omega)
    have := (qjt (l.getD j q03)).1
    simp only [qct]; omega
section
variable {f : Fmt} {b : ByteArray} {i : Nat}
theorem qbnf (b : ByteArray) : b.extract 0 b.size = b := by simp
theorem qti (hs : (b.size : Int) = qfw f) (hi : i < f.fields.length) : qct f.fields i + qgb (f.fields.getD i q03) ≤ (b.size : Int) := by
 have h1 := qwh f.fields (i + 1) f.fields.length (by omega)
 have h2 : qct f.fields (i + 1) = qct f.fields i + qgb (f.fields.getD i q03) := rfl
 rw [hs, ← h2]
 exact h1
theorem qbbj (hs : (b.size : Int) = qfw f) (hi : i < f.fields.length) : qgb (f.fields.getD i q03) ≤ ((b.extract (qct f.fields i).toNat b.size).size : Int) := by
 have h1 := qti hs hi
 have h2 := qhd f.fields i
 rw [ByteArray.size_extract]
 omega
theorem qbng (hs : (b.size : Int) = qfw f) (hi : i < f.fields.length) : (b.extract (qct f.fields i).toNat b.size).extract 0 (qgb (f.fields.getD i q03)).toNat = qqw f b i := by
 have h1 := qti hs hi
 have h2 := qhd f.fields i
 have h3 := qjt (f.fields.getD i q03)
 have h4 : qct f.fields (i + 1) = qct f.fields i + qgb (f.fields.getD i q03) := rfl
 unfold qqw
 rw [ByteArray.extract_extract, h4, Nat.add_zero, show min ((qct f.fields i).toNat + (qgb (f.fields.getD i q03)).toNat) b.size = (qct f.fields i + qgb (f.fields.getD i q03)).toNat by omega]
theorem q5u (hs : (b.size : Int) = qfw f) (hi : i < f.fields.length) : b.extract (qct f.fields (i + 1)).toNat b.size = (b.extract (qct f.fields i).toNat b.size).extract (qgb (f.fields.getD i q03)).toNat (b.extract (qct f.fields i).toNat b.size).size := by
 have h1 := qti hs hi
 have h2 := qhd f.fields i
 have h3 := qjt (f.fields.getD i q03)
 have h4 : qct f.fields (i + 1) = qct f.fields i + qgb (f.fields.getD i q03) := rfl
 rw [ByteArray.extract_extract, ByteArray.size_extract, h4, show (qct f.fields i).toNat + (qgb (f.fields.getD i q03)).toNat = (qct f.fields i + qgb (f.fields.getD i q03)).toNat by omega, show min ((qct f.fields i).toNat + (min b.size b.size - (qct f.fields i).toNat)) b.size = b.size by omega]
theorem qbfz (hs : (b.size : Int) = qfw f) (hi : i < f.fields.length) : (qd9 (f.fields.getD i q03).type_ ((b.extract (qct f.fields i).toNat b.size).extract 0 (qgb (f.fields.getD i q03)).toNat)) = q7x f b i := by
 rw [qbng hs hi]; rfl
end
end Go.Ev
namespace Go.Ev
theorem qtj {f : Fmt} {b : ByteArray} (h : ¬(qco f).2 = 0) : qds f b = ([], 0, (qco f).2) := by rw [qds, if_pos h]
theorem qtk {f : Fmt} {b : ByteArray} (h : (qco f).2 = 0) (h2 : ¬(b.size : Int) = qfw f) : qds f b = ([], 0, 18) := by rw [qds, if_neg (fun e => e h), if_pos h2]
theorem qtl {f : Fmt} {b : ByteArray} (h : (qco f).2 = 0) (h2 : (b.size : Int) = qfw f) : qds f b = qhy f b := by rw [qds, if_neg (fun e => e h), if_neg (fun e => e h2)]
end Go.Ev
namespace Go.Ev
noncomputable section
open Go.Proofs Ty
set_option maxRecDepth 10000
set_option maxHeartbeats 4000000
def e147 : List O → Option (Prop × O)
 | [.d x_x] => match qb7 x_x with
   | some x => some (True, .d (.i .i64 (qgb x)))
   | _ => none
 | _ => none
def q1z : FuncId → List O → Option (Prop × O) := addT q1v 147 e147
def e145 : List O → Option (Prop × O)
 | [.d x_f, .d (.s name)] => match qb8 x_f with
   | some f => some (f.fields.length ≤ 1000000, .tup [.d (.i .i64 (atF f.fields name).1), .d (.i .i64 (atF f.fields name).2.1), .d (.b (atF f.fields name).2.2)])
   | _ => none
 | _ => none
def q10 : FuncId → List O → Option (Prop × O) := addT q1z 145 e145
def e126 : List O → Option (Prop × O)
 | [.d x_f] => match qb8 x_f with
   | some f => some (f.fields.length ≤ 1000000, .d (.i .i64 (qfw f)))
   | _ => none
 | _ => none
def q11 : FuncId → List O → Option (Prop × O) := addT q10 126 e126
def e146 : List O → Option (Prop × O)
 | [.d x_f] => match qb8 x_f with
   | some f => some (f.fields.length ≤ 1000000, .tup [.d (.i .i64 (qco f).1), .d (.i .i64 (qco f).2)])
   | _ => none
 | _ => none
def q12 : FuncId → List O → Option (Prop × O) := addT q11 146 e146
def e125 : List O → Option (Prop × O)
 | [.d x_f] => match qb8 x_f with
   | some f => some (f.fields.length ≤ 1000000, .d (.i .i64 (qco f).2))
   | _ => none
 | _ => none
def q13 : FuncId → List O → Option (Prop × O) := addT q12 125 e125
theorem isKs (n : ByteArray) : isK Tryz.prog 9 (.s n) = true := by unfold isK; rw [Tryz.underlying9]
theorem qbzb (l : List KField) : ∀ d ∈ l.map keyD, isK Tryz.prog 9 d = true := fun d hd => by
 obtain ⟨k, _, rfl⟩ := List.mem_map.1 hd
 exact isKs _
def e124 : List O → Option (Prop × O)
 | [.d x_f] => match qcm x_f with
   | some f => some (f.format.fields.length ≤ 1000000 ∧ f.keys.length ≤ 1000000, .tup [.d (.i .i64 (qcs f).1), .d (.i .i64 (qcs f).2)])
   | _ => none
 | _ => none
def q14 : FuncId → List O → Option (Prop × O) := addT q13 124 e124
def e113 : List O → Option (Prop × O)
 | [.d x_f] => match qcm x_f with
   | some f => some (f.format.fields.length ≤ 1000000 ∧ f.keys.length ≤ 1000000, .d (.i .i64 (qcs f).2))
   | _ => none
 | _ => none
def q15 : FuncId → List O → Option (Prop × O) := addT q14 113 e113
def e127 : List O → Option (Prop × O)
 | [.d x_f, .d (.s b)] => match qb8 x_f with
   | some f => some (f.fields.length ≤ 1000 ∧ (b.size : Int) = qfw f, .tup [.d (.sl 2 ((qhy f b).1.map qce)), .d (.i .i64 (qhy f b).2.1), .d (.i .i64 (qhy f b).2.2)])
   | _ => none
 | _ => none
def q16 : FuncId → List O → Option (Prop × O) := addT q15 127 e127
def e114 : List O → Option (Prop × O)
 | [.d x_f, .d (.s b)] => match qb8 x_f with
   | some f => some (f.fields.length ≤ 1000000, .tup [.d (.sl 2 ((qds f b).1.map qce)), .d (.i .i64 (qds f b).2.1), .d (.i .i64 (qds f b).2.2)])
   | _ => none
 | _ => none
def q17 : FuncId → List O → Option (Prop × O) := addT q16 114 e114
def e102 : List O → Option (Prop × O)
 | [.d x_f, .d (.s b)] => match qb8 x_f with
   | some f => some (f.fields.length ≤ 1000000, .tup [.d (.i .i64 (qds f b).2.1), .d (.i .i64 (qds f b).2.2)])
   | _ => none
 | _ => none
def q18 : FuncId → List O → Option (Prop × O) := addT q17 102 e102
def e87 : List O → Option (Prop × O)
 | [.d x_f, .d (.s b)] => match qb8 x_f with
   | some f => some (f.fields.length ≤ 1000000, .d (.i .i64 (qds f b).2.2))
   | _ => none
 | _ => none
def q70 : FuncId → List O → Option (Prop × O) := addT q18 87 e87
def e97 : List O → Option (Prop × O)
 | [.d x_t] => match q0y x_t with
   | some t => some ((t.file.format.fields.length ≤ 1000000 ∧ t.file.keys.length ≤ 1000000 ∧ t.records.length ≤ 1000000), .tup [.d (.i .i64 (qbd t).1), .d (.i .i64 (qbd t).2)])
   | _ => none
 | _ => none
def q71 : FuncId → List O → Option (Prop × O) := addT q70 97 e97
def e84 : List O → Option (Prop × O)
 | [.d x_t] => match q0y x_t with
   | some t => some ((t.file.format.fields.length ≤ 1000000 ∧ t.file.keys.length ≤ 1000000 ∧ t.records.length ≤ 1000000), .d (.i .i64 (qbd t).2))
   | _ => none
 | _ => none
def q72 : FuncId → List O → Option (Prop × O) := addT q71 84 e84
end
end Go.Ev
namespace Go.Ev
def qkj (t : Table) (c : Change) : Rec := t.records.getD (c.rrn - 1).toNat zRec
def qho (t : Table) (c : Change) : Bool := decide (c.rrn = (t.records.length : Int) + 1) || (qkj t c).deleted
def qgu (t : Table) (c : Change) : Int :=
 if c.kind = 0 then qb2 [if (!qho t c) = true then 12 else 0, if 60 < c.rrn then 30 else 0]
 else if qho t c = true then 11
 else if (qkj t c).bytes ≠ c.before then 15 else 0
def qli (t : Table) (c : Change) : Int := if c.kind = 0 then (t.records.length : Int) + 1 else t.records.length
def qg3 (c : Change) : Bool := (decide (c.kind = 0) && !decide (c.before = ⟨#[]⟩)) || (decide (c.kind = 2) && !decide (c.after = ⟨#[]⟩))
def qg9 (t : Table) (c : Change) : Int :=
 if (qbd t).2 ≠ 0 then (qbd t).2
 else if c.file ≠ t.file.name then 11
 else if c.kind < 0 ∨ 3 ≤ c.kind then 4
 else if c.rrn < 1 ∨ qli t c < c.rrn then 3
 else if qg3 c = true then 5 else 0
def qc7 (t : Table) (c : Change) : Int :=
 if qg9 t c ≠ 0 then qg9 t c
 else if qgu t c ≠ 0 ∨ c.kind = 2 then qgu t c
 else (qds t.file.format c.after).2.2
def qek (t : Table) (n : Int) (r : Rec) : Table := ⟨t.file, if (t.records.length : Int) < n then t.records ++ [r] else t.records.set (n - 1).toNat r⟩
def qdo (c : Change) : Rec := ⟨c.kind == 2, c.after⟩
def qgv (t : Table) (c : Change) : Table × Int := if qc7 t c ≠ 0 then (q0z, qc7 t c) else (qek t c.rrn (qdo c), 0)
def qea (k : Int) : Int := if k = 0 then 2 else if k = 2 then 0 else k
def qgm (c : Change) : Change × Int := if c.kind = 0 ∨ c.kind = 2 ∨ c.kind = 1 then (⟨c.file, qea c.kind, c.rrn, c.after, c.before⟩, 0) else (q08, 4)
theorem qsg {t : Table} {c : Change} (h : qg9 t c = 0) : (qbd t).2 = 0 ∧ c.file = t.file.name ∧ 0 ≤ c.kind ∧ c.kind < 3 ∧ 1 ≤ c.rrn ∧ c.rrn ≤ qli t c ∧ qg3 c = false := by
 unfold qg9 at h
 split at h
 ·contradiction
 split at h
 ·cases h
 split at h
 ·cases h
 split at h
 ·cases h
 split at h
 ·cases h
 ·refine ⟨?_, ?_, ?_, ?_, ?_, ?_, ?_⟩
  ·simpa using ‹¬¬(qbd t).2 = 0›
  ·simpa using ‹¬c.file ≠ t.file.name›
  ·omega
  ·omega
  ·omega
  ·omega
  ·simpa using ‹¬qg3 c = true›
theorem qqx {t : Table} {c : Change} (h : qg9 t c = 0) : 1 ≤ c.rrn ∧ c.rrn ≤ (t.records.length : Int) + 1 := by
 have H := qsg h
 have := H.2.2.2.2.2.1
 unfold qli at this
 split at this <;> omega
theorem qkg {t : Table} {c : Change} (h : ¬qg9 t c = 0) : qc7 t c = qg9 t c := by unfold qc7; rw [if_pos h]
theorem q19 {t : Table} {c : Change} (h : qg9 t c = 0) (h2 : ¬qgu t c = 0 ∨ c.kind = 2) : qc7 t c = qgu t c := by unfold qc7; rw [if_neg (fun e => e h), if_pos h2]
theorem q2a {t : Table} {c : Change} (h : qg9 t c = 0) (h2 : qgu t c = 0 ∧ ¬c.kind = 2) : qc7 t c = (qds t.file.format c.after).2.2 := by
 unfold qc7
 rw [if_neg (fun e => e h), if_neg (by rintro (e | e); exact e h2.1; exact h2.2 e)]
theorem qsh {t : Table} {c : Change} (h : qc7 t c = 0) : qg9 t c = 0 := by
 unfold qc7 at h
 split at h
 ·contradiction
 ·rename_i h2; simpa using h2
theorem qnz {t : Table} {c : Change} (h : qc7 t c = 0) : 1 ≤ c.rrn ∧ c.rrn ≤ (t.records.length : Int) + 1 := qqx (qsh h)
theorem qbf0 (t : Table) (c : Change) (h : c.kind = 0) : qb2 [(qbd t).2, if ¬c.file = t.file.name then 11 else 0, if c.kind < 0 ∨ 3 ≤ c.kind then 4 else 0, if c.rrn < 1 ∨ (t.records.length : Int) + 1 < c.rrn then 3 else 0, if c.kind = 0 ∧ ¬c.before = ⟨#[]⟩ ∨ c.kind = 2 ∧ ¬c.after = ⟨#[]⟩ then 5 else 0] = qg9 t c := by
 have hf : (qg3 c = true) = (c.kind = 0 ∧ ¬c.before = ⟨#[]⟩ ∨ c.kind = 2 ∧ ¬c.after = ⟨#[]⟩) := by simp [qg3]
 simp only [qb2, qg9, qli, if_pos h, hf]
 (repeat' split) <;> first | rfl | omega | (exfalso; omega) | simp_all
theorem qbf1 (t : Table) (c : Change) (h : ¬c.kind = 0) : qb2 [(qbd t).2, if ¬c.file = t.file.name then 11 else 0, if c.kind < 0 ∨ 3 ≤ c.kind then 4 else 0, if c.rrn < 1 ∨ (t.records.length : Int) < c.rrn then 3 else 0, if c.kind = 0 ∧ ¬c.before = ⟨#[]⟩ ∨ c.kind = 2 ∧ ¬c.after = ⟨#[]⟩ then 5 else 0] = qg9 t c := by
 have hf : (qg3 c = true) = (c.kind = 0 ∧ ¬c.before = ⟨#[]⟩ ∨ c.kind = 2 ∧ ¬c.after = ⟨#[]⟩) := by simp [qg3]
 simp only [qb2, qg9, qli, if_neg h, hf]
 (repeat' split) <;> first | rfl | omega | (exfalso; omega) | simp_all
theorem qy4 {t : Table} {n : Int} {r : Rec} (h : (t.records.length : Int) < n) : List.take (t.records.length + 1) (t.records.map qbt ++ [D.agg [.b r.deleted, .s r.bytes]]) = (qek t n r).records.map qbt := by
 unfold qek
 simp only [if_pos h]
 rw [List.take_of_length_le (by simp), List.map_append]
 rfl
theorem qy5 {t : Table} {n : Int} {r : Rec} (h : n ≤ (t.records.length : Int)) : List.take t.records.length ((t.records.map qbt).set (n - 1).toNat (D.agg [.b r.deleted, .s r.bytes])) = (qek t n r).records.map qbt := by
 unfold qek
 simp only [if_neg (show ¬(t.records.length : Int) < n by omega)]
 rw [List.take_of_length_le (by simp), List.map_set]
 rfl
theorem qm4 {t : Table} {c : Change} (h : ¬qc7 t c = 0) : qgv t c = (q0z, qc7 t c) := by unfold qgv; rw [if_pos h]
theorem qhk {t : Table} {c : Change} (h : qc7 t c = 0) : qgv t c = (qek t c.rrn (qdo c), 0) := by unfold qgv; rw [if_neg (fun e => e h)]
end Go.Ev
namespace Go.Ev
noncomputable section
open Go.Proofs Ty
set_option maxRecDepth 10000
set_option maxHeartbeats 4000000
def e71 : List O → Option (Prop × O)
 | [.d x_l] => match decL 4 qb7 x_l with
   | some l => some (l.length ≤ 1000000, .own 128 4 (l.map q01))
   | _ => none
 | _ => none
def q73 : FuncId → List O → Option (Prop × O) := addT q72 71 e71
def e72 : List O → Option (Prop × O)
 | [.d x_l] => match decL 2 qbz x_l with
   | some l => some (l.length ≤ 1000000, .own 131 2 (l.map q06))
   | _ => none
 | _ => none
def q74 : FuncId → List O → Option (Prop × O) := addT q73 72 e72
def e73 : List O → Option (Prop × O)
 | [.d x_l] => match decL 2 qdm x_l with
   | some l => some (l.length ≤ 1000000, .own 71 2 (l.map qbt))
   | _ => none
 | _ => none
def q75 : FuncId → List O → Option (Prop × O) := addT q74 73 e73
def e86 : List O → Option (Prop × O)
 | [.d x_t, .d x_c] => match q0y x_t, q0x x_c with
   | some t, some c => some (1 ≤ c.rrn ∧ c.rrn ≤ (t.records.length : Int) + 1 ∧ t.records.length ≤ 1000000, .d (.i .i64 (qgu t c)))
   | _, _ => none
 | _ => none
def q76 : FuncId → List O → Option (Prop × O) := addT q75 86 e86
def e54 : List O → Option (Prop × O)
 | [.d x_t, .d x_c] => match q0y x_t, q0x x_c with
   | some t, some c => some ((t.file.format.fields.length ≤ 1000000 ∧ t.file.keys.length ≤ 1000000 ∧ t.records.length ≤ 1000000), .d (.i .i64 (qc7 t c)))
   | _, _ => none
 | _ => none
def q77 : FuncId → List O → Option (Prop × O) := addT q76 54 e54
def e55 : List O → Option (Prop × O)
 | [.d x_t, .d (.i .i64 n), .d x_r] => match q0y x_t, qdm x_r with
   | some t, some r => some (1 ≤ n ∧ n ≤ (t.records.length : Int) + 1 ∧ t.records.length ≤ 1000000, .d (q0c (qek t n r)))
   | _, _ => none
 | _ => none
def q78 : FuncId → List O → Option (Prop × O) := addT q77 55 e55
def e30 : List O → Option (Prop × O)
 | [.d x_t, .d x_c] => match q0y x_t, q0x x_c with
   | some t, some c => some ((t.file.format.fields.length ≤ 1000000 ∧ t.file.keys.length ≤ 1000000 ∧ t.records.length ≤ 1000000), .tup [.d (q0c (qgv t c).1), .d (.i .i64 (qgv t c).2)])
   | _, _ => none
 | _ => none
def q79 : FuncId → List O → Option (Prop × O) := addT q78 30 e30
def e42 : List O → Option (Prop × O)
 | [.d x_c] => match q0x x_c with
   | some c => some (True, .tup [.d (q0s (qgm c).1), .d (.i .i64 (qgm c).2)])
   | _ => none
 | _ => none
def q8a : FuncId → List O → Option (Prop × O) := addT q79 42 e42
end
end Go.Ev
namespace Go.Ev
def okT (t : Table) : Prop := t.file.format.fields.length ≤ 1000000 ∧ t.file.keys.length ≤ 1000000 ∧ t.records.length ≤ 1000000
def okTs (l : List Table) : Prop := l.length ≤ 1000000 ∧ ∀ i, okT (l.getD i q0z)
theorem qfr {l : List Table} {i : Nat} (h : i < l.length) (z : D) : (l.map q0c).getD i z = q0c (l.getD i q0z) := by
 simp [List.getD, List.getElem?_map, List.getElem?_eq_getElem h]
def qf9 (l : List Table) (n : ByteArray) (i : Nat) : Int := if (l.getD i q0z).file.name = n then 1 else 0
def qbg (l : List Table) (n : ByteArray) : Int := match qcf (qf9 l n) l.length with
 | some i => i
 | none => -1
theorem qut {l : List Table} {n : ByteArray} {i : Nat} (h : ∀ j, j < i → qf9 l n j = 0) (hi : i < l.length) (hg : (l.getD i q0z).file.name = n) : qbg l n = i := by
 unfold qbg
 rw [qeu h hi (by unfold qf9; rw [if_pos hg]; decide)]
theorem quu {l : List Table} {n : ByteArray} {i : Nat} (h : ∀ j, j < i → qf9 l n j = 0) (hi : l.length ≤ i) : qbg l n = -1 := by
 unfold qbg
 rw [qev fun j hj => h j (by omega)]
theorem q2b {l : List Table} {n : ByteArray} {i : Nat} (hg : ¬(l.getD i q0z).file.name = n) : qf9 l n i = 0 := by unfold qf9; rw [if_neg hg]
def tabE (l : List Table) (i : Nat) : Int := if (qbd (l.getD i q0z)).2 ≠ 0 then (qbd (l.getD i q0z)).2 else if qbg l (l.getD i q0z).file.name < i then 13 else 0
def qci (l : List Table) : Int := if 8 < l.length then 2 else match qcf (tabE l) l.length with
 | some i => tabE l i
 | none => 0
theorem qbbk {l : List Table} (h : 8 < (l.length : Int)) : qci l = 2 := by unfold qci; rw [if_pos (by omega)]
theorem q2c {l : List Table} {i : Nat} (h8 : l.length ≤ 8) (h : ∀ j, j < i → tabE l j = 0) (hi : i < l.length) (hg : ¬tabE l i = 0) : qci l = tabE l i := by
 unfold qci
 rw [if_neg (by omega), qeu h hi hg]
theorem q2d {l : List Table} {i : Nat} (h8 : l.length ≤ 8) (h : ∀ j, j < i → tabE l j = 0) (hi : l.length ≤ i) : qci l = 0 := by
 unfold qci
 rw [if_neg (by omega), qev fun j hj => h j (by omega)]
theorem qqy {l : List Table} {i : Nat} (h : ¬(qbd (l.getD i q0z)).2 = 0) : tabE l i = (qbd (l.getD i q0z)).2 := by unfold tabE; rw [if_pos h]
theorem qqz {l : List Table} {i : Nat} (h : (qbd (l.getD i q0z)).2 = 0) (h2 : qbg l (l.getD i q0z).file.name < i) : tabE l i = 13 := by unfold tabE; rw [if_neg (fun e => e h), if_pos h2]
theorem qxu {l : List Table} {i : Nat} (h : (qbd (l.getD i q0z)).2 = 0) (h2 : (i : Int) ≤ qbg l (l.getD i q0z).file.name) : tabE l i = 0 := by unfold tabE; rw [if_neg (fun e => e h), if_neg (by omega)]
def chkL (ts : List Table) (l : List Entry) : List AUnit := if qci ts ≠ 0 then [] else qj8 l
def chkE (ts : List Table) (l : List Entry) : Int := if qci ts ≠ 0 then qci ts else (qbv l).2
theorem qp5 {ts : List Table} {l : List Entry} (h : ¬qci ts = 0) : chkL ts l = [] ∧ chkE ts l = qci ts := ⟨by unfold chkL; rw [if_pos h], by unfold chkE; rw [if_pos h]⟩
theorem qkt {ts : List Table} {l : List Entry} (h : qci ts = 0) : chkL ts l = qj8 l ∧ chkE ts l = (qbv l).2 := ⟨by unfold chkL; rw [if_neg (fun e => e h)], by unfold chkE; rw [if_neg (fun e => e h)]⟩
structure Want where
 up : Bool
 n : Int
def Want.has (w : Want) (x : Entry) : Bool := if w.up then decide (x.number ≤ w.n) else decide (w.n ≤ x.number)
def qka (w : Want) (x : Entry) : Bool := decide (x.kind = 0) && w.has x
def qn0 (back : Bool) (x : Entry) : Change := if back then (qgm x.change).1 else x.change
def qfu (w : Want) (back : Bool) (l : List Entry) : List Change := (l.filter (qka w)).map (qn0 back)
def qfx (w : Want) (back : Bool) (l : List Entry) : List Change := if back then (qfu w back l).reverse else qfu w back l
theorem qy6 {w : Want} {back : Bool} {l : List Entry} {i : Nat} (hi : i < l.length) : qfu w back (l.take (i + 1)) = if qka w (l.getD i q0i) = true then qfu w back (l.take i) ++ [qn0 back (l.getD i q0i)] else qfu w back (l.take i) := by
 unfold qfu
 rw [qdx q0i hi, List.filter_append, List.map_append]
 generalize l.getD i q0i = x
 cases h : qka w x <;> simp [List.filter_cons, h]
theorem qq0 {w : Want} {back : Bool} {l : List Entry} {i : Nat} : (qfu w back (l.take i)).length ≤ i := by
 unfold qfu
 rw [List.length_map]
 have := List.length_filter_le (qka w) (l.take i)
 rw [List.length_take] at this
 omega
theorem qbf2 (w : Want) (back : Bool) (l : List Entry) : (qfu w back l).length ≤ l.length := by
 have := qq0 (w := w) (back := back) (l := l) (i := l.length)
 rwa [List.take_length] at this
theorem qq1 {n : Int} {x : Entry} : qka ⟨false, n⟩ x = true ↔ x.kind = 0 ∧ n ≤ x.number := by simp [qka, Want.has]
theorem qq2 {n : Int} {x : Entry} : qka ⟨true, n⟩ x = true ↔ x.kind = 0 ∧ x.number ≤ n := by simp [qka, Want.has]
theorem qtm {w : Want} {back : Bool} {l : List Entry} {i : Nat} (hi : i < l.length) (h : ¬qka w (l.getD i q0i) = true) : qfu w back (l.take (i + 1)) = qfu w back (l.take i) := by rw [qy6 hi, if_neg h]
theorem qq3 {w : Want} {back : Bool} {l : List Entry} {i : Nat} (hi : i < l.length) (h : qka w (l.getD i q0i) = true) : qfu w back (l.take (i + 1)) = qfu w back (l.take i) ++ [qn0 back (l.getD i q0i)] := by rw [qy6 hi, if_pos h]
theorem qy7 {w : Want} {l : List Entry} {i : Nat} (h : l.length ≤ i) : (qfu w true (l.take i)).reverse = qfx w true l := by rw [List.take_of_length_le h]; rfl
theorem qbbl {w : Want} {l : List Entry} {i : Nat} (h : l.length ≤ i) : qfu w false (l.take i) = qfx w false l := by rw [List.take_of_length_le h]; rfl
theorem q8b {w : Want} {l : List Entry} {i : Nat} (h : l.length ≤ i) : List.take (qfu w true (l.take i)).length (qfu w true (l.take i)).reverse = qfx w true l := by
 rw [List.take_of_length_le (l := (qfu w true (l.take i)).reverse) (by simp), qy7 h]
def qcc (s : List Table × Int) (c : Change) : List Table × Int :=
 if qbg s.1 c.file < 0 then s else (s.1.set (qbg s.1 c.file).toNat (qek (s.1.getD (qbg s.1 c.file).toNat q0z) c.rrn (qdo c)), s.2 + 1)
def mTo (ts : List Table) (cs : List Change) : Nat → List Table × Int
 | 0 => (ts, 0)
 | k + 1 => qcc (mTo ts cs k) (cs.getD k q08)
def mErr (ts : List Table) (cs : List Change) (k : Nat) : Int :=
 if qbg (mTo ts cs k).1 (cs.getD k q08).file < 0 then 0 else qc7 ((mTo ts cs k).1.getD (qbg (mTo ts cs k).1 (cs.getD k q08).file).toNat q0z) (cs.getD k q08)
def qc4 (ts : List Table) (cs : List Change) : List Table × Int × Int := match qcf (mErr ts cs) cs.length with
 | some k => ([], 0, mErr ts cs k)
 | none => ((mTo ts cs cs.length).1, (mTo ts cs cs.length).2, 0)
theorem qiz {α : Type} (l : List α) (a i : Nat) (x z : α) : (l.set a x).getD i z = if a = i ∧ a < l.length then x else l.getD i z := by
 simp only [List.getD, List.getElem?_set]
 by_cases e : a = i
 ·subst e
  by_cases h : a < l.length
  ·simp [h]
  ·simp [h]
 ·simp [e]
theorem qub {g : Nat → Int} {n i : Nat} (h : qcf g n = some i) : i < n := by
 unfold qcf at h
 have := List.mem_of_find?_eq_some h
 simpa using this
theorem qbbm {t : Table} (h : (qbd t).2 = 0) : t.records.length ≤ 60 := by
 unfold qbd at h
 split at h
 ·rename_i h2; exact absurd h h2
 split at h
 ·cases h
 ·omega
theorem qm5 (t : Table) (c : Change) : (qgv t c).2 = qc7 t c := by
 unfold qgv
 split
 ·rfl
 ·rename_i h; simp only; exact (Decidable.not_not.1 h).symm
theorem qhe (l : List Table) (n : ByteArray) : -1 ≤ qbg l n ∧ qbg l n < l.length := by
 unfold qbg
 cases h : qcf (qf9 l n) l.length with
 | none => simp only; omega
 | some i => have := qub h; simp only; omega
theorem qjj (ts : List Table) (cs : List Change) : ∀ k, (mTo ts cs k).1.length = ts.length
 | 0 => rfl
 | k + 1 => by
   have ih := qjj ts cs k
   simp only [mTo, qcc]
   split
   ·exact ih
   ·simpa using ih
theorem qp6 (ts : List Table) (cs : List Change) : ∀ k, 0 ≤ (mTo ts cs k).2 ∧ (mTo ts cs k).2 ≤ k
 | 0 => by simp [mTo]
 | k + 1 => by
   have ih := qp6 ts cs k
   simp only [mTo, qcc]
   split
   ·omega
   ·simp only; omega
theorem qbf3 {t : Table} {c : Change} (h : okT t) (hc : qc7 t c = 0) : okT (qek t c.rrn (qdo c)) := by
 have h1 := (qsg (qsh hc)).1
 have h2 : t.records.length ≤ 60 := qbbm h1
 refine ⟨h.1, h.2.1, ?_⟩
 unfold qek
 simp only
 split
 ·simp; omega
 ·simp; omega
theorem qsi {ts : List Table} {cs : List Change} (h : okTs ts) : ∀ {k : Nat}, (∀ j, j < k → mErr ts cs j = 0) → okTs (mTo ts cs k).1
 | 0, _ => h
 | k + 1, he => by
   have ih := qsi h (k := k) fun j hj => he j (by omega)
   have hk := he k (by omega)
   have hl := qjj ts cs (k + 1)
   refine ⟨by rw [hl]; exact h.1, ?_⟩
   intro i
   simp only [mTo, qcc]
   unfold mErr at hk
   split
   ·exact ih.2 i
   ·rename_i hf
    rw [if_neg hf] at hk
    simp only
    have hb := qhe (mTo ts cs k).1 (cs.getD k q08).file
    rw [qiz]
    split
    ·exact qbf3 (ih.2 _) hk
    ·exact ih.2 i
theorem qj3 {ts : List Table} {cs : List Change} {k : Nat} (h : ∀ j, j < k → mErr ts cs j = 0) (hk : k < cs.length) (hg : ¬mErr ts cs k = 0) : qc4 ts cs = ([], 0, mErr ts cs k) := by
 unfold qc4
 rw [qeu h hk hg]
theorem qmx {ts : List Table} {cs : List Change} {k : Nat} (h : ∀ j, j < k → mErr ts cs j = 0) (hk : k = cs.length) : qc4 ts cs = ((mTo ts cs k).1, (mTo ts cs k).2, 0) := by
 subst hk
 unfold qc4
 rw [qev fun j hj => h j hj]
theorem qy8 {ts : List Table} {cs : List Change} {k : Nat} (h : qbg (mTo ts cs k).1 (cs.getD k q08).file < 0) : mErr ts cs k = 0 := by unfold mErr; rw [if_pos h]
theorem qjk {ts : List Table} {cs : List Change} {k : Nat} (h : 0 ≤ qbg (mTo ts cs k).1 (cs.getD k q08).file) : mErr ts cs k = qc7 ((mTo ts cs k).1.getD (qbg (mTo ts cs k).1 (cs.getD k q08).file).toNat q0z) (cs.getD k q08) := by unfold mErr; rw [if_neg (by omega)]
theorem qq4 {ts : List Table} {cs : List Change} {k : Nat} (h : qbg (mTo ts cs k).1 (cs.getD k q08).file < 0) : mTo ts cs (k + 1) = mTo ts cs k := by simp only [mTo, qcc]; rw [if_pos h]
theorem qlj {ts : List Table} {cs : List Change} {k : Nat} (h : 0 ≤ qbg (mTo ts cs k).1 (cs.getD k q08).file) : mTo ts cs (k + 1) = ((mTo ts cs k).1.set (qbg (mTo ts cs k).1 (cs.getD k q08).file).toNat (qek ((mTo ts cs k).1.getD (qbg (mTo ts cs k).1 (cs.getD k q08).file).toNat q0z) (cs.getD k q08).rrn (qdo (cs.getD k q08))), (mTo ts cs k).2 + 1) := by simp only [mTo, qcc]; rw [if_neg (by omega)]
end Go.Ev
namespace Go.Ev
def swpL {α : Type} (l : List α) (z : α) (i j : Nat) : List α := (l.set i (l.getD j z)).set j (l.getD i z)
def qj4 {α : Type} (l : List α) (z : α) : Nat → List α
 | 0 => l
 | i + 1 => swpL (qj4 l z i) z i (l.length - 1 - i)
theorem ql7 {α : Type} (l : List α) (z : α) : ∀ i, (qj4 l z i).length = l.length
 | 0 => rfl
 | i + 1 => by simp [qj4, swpL, ql7 l z i]
theorem qy9 {α : Type} (l : List α) (z : α) : ∀ i, 2 * i ≤ l.length → ∀ k, k < l.length → (qj4 l z i)[k]? = if k < i ∨ l.length - i ≤ k then l[l.length - 1 - k]? else l[k]?
 | 0, _, k, hk => by rw [if_neg (by omega)]; rfl
 | i + 1, hi, k, hk => by
   have ih := qy9 l z i (by omega)
   have hl := ql7 l z i
   have g : ∀ q, q < l.length → (qj4 l z i).getD q z = l.getD (if q < i ∨ l.length - i ≤ q then l.length - 1 - q else q) z := fun q hq => by
    simp only [List.getD]
    rw [ih q hq]
    split <;> rfl
   simp only [qj4, swpL]
   rw [List.getElem?_set, List.getElem?_set, List.length_set, hl]
   by_cases e1 : l.length - 1 - i = k
   ·rw [if_pos e1, if_pos (by omega), if_pos (by omega), g i (by omega), if_neg (by omega)]
    have : i = l.length - 1 - k := by omega
    rw [← this]
    simp [List.getD, List.getElem?_eq_getElem (show i < l.length by omega)]
   ·rw [if_neg e1]
    by_cases e2 : i = k
    ·subst e2
     rw [if_pos rfl, if_pos (by omega), if_pos (by omega), g _ (by omega), if_neg (by omega)]
     simp [List.getD, List.getElem?_eq_getElem (show l.length - 1 - i < l.length by omega)]
    ·rw [if_neg e2, ih k hk]
     by_cases e3 : k < i ∨ l.length - i ≤ k
     ·rw [if_pos e3, if_pos (by omega)]
     ·rw [if_neg e3, if_neg (by omega)]
theorem qbbn {α : Type} (l : List α) (z : α) {i : Nat} (h : 2 * i ≤ l.length) (h2 : l.length ≤ 2 * i + 1) : qj4 l z i = l.reverse := by
 apply List.ext_getElem?
 intro k
 by_cases hk : k < l.length
 ·rw [qy9 l z i h k hk, List.getElem?_reverse hk]
  split
  ·rfl
  ·rw [show l.length - 1 - k = k by omega]
 ·rw [List.getElem?_eq_none (by rw [ql7]; omega), List.getElem?_eq_none (by simp; omega)]
theorem q8c {l : List Change} {i : Nat} : (((qj4 l q08 i).map q0s).set i (q0s ((qj4 l q08 i).getD (l.length - 1 - i) q08))).set (l.length - 1 - i) (q0s ((qj4 l q08 i).getD i q08)) = (qj4 l q08 (i + 1)).map q0s := by
 simp [qj4, swpL, List.map_set]
theorem qbf4 {l : List Change} {i : Nat} (h : 2 * i ≤ l.length) (h2 : (i : Int) < (l.length : Int) - 1 - i) (d z : D) : (((qj4 l q08 i).map q0s).set i d).getD (l.length - 1 - i) z = q0s ((qj4 l q08 i).getD (l.length - 1 - i) q08) := by
 have hl := ql7 l q08 i
 simp only [List.getD]
 rw [List.getElem?_set_ne (by omega), List.getElem?_map, List.getElem?_eq_getElem (by omega)]
 rfl
theorem qp7 (l : List Change) : (l.map q0s).all D.flatA = true := by
 rw [List.all_map, List.all_eq_true]
 intro x _; rfl
end Go.Ev
