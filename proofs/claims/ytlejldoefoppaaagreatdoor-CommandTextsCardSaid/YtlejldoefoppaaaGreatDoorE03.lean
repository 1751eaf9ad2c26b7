/- Tools and contracts under the laws of this seat: DevTy37, DevDec, DevData, DevPure, DevData37, DevRd37, DevRq37. -/
import Derived.Test.YtlejldoefoppaaaGreatDoorE02
import Derived.Test.YtlejldoefoppaaaGreatDoorProg
import Derived.KernelRfl
import Derived.Laws.Strings
import Derived.WideShapes
import Derived.Lib.Case
set_option linter.unusedVariables false
set_option linter.unusedSimpArgs false
namespace Go.Ev.Ty
open Go.Proofs
theorem sz3 : q0l Tryz.prog 3 = some 1 := by kernel_rfl
theorem ag3 : aggT Tryz.prog 3 = some false := by kernel_rfl
theorem zr3 : q02 Tryz.prog 3 = some [.i .i64 0] := by kernel_rfl
theorem zo3 : qcj Tryz.prog 3 = some (.i .i64 0) := by kernel_rfl
theorem zd3 : zD Tryz.prog 3 = .i .i64 0 := by kernel_rfl
theorem by3 : qbp Tryz.prog 3 = some 8 := by kernel_rfl
theorem sl3 : q0v Tryz.prog 3 = false := by kernel_rfl
theorem st3 : qb4 Tryz.prog 3 = false := by kernel_rfl
theorem bo3 : qbs Tryz.prog 3 = false := by kernel_rfl
theorem pt3 : qb5 Tryz.prog 3 = false := by kernel_rfl
theorem ck3 : ckT Tryz.prog 3 = .int .i64 := by kernel_rfl
theorem sz4 : q0l Tryz.prog 4 = some 1 := by kernel_rfl
theorem ag4 : aggT Tryz.prog 4 = some false := by kernel_rfl
theorem zr4 : q02 Tryz.prog 4 = some [.b false] := by kernel_rfl
theorem zo4 : qcj Tryz.prog 4 = some (.b false) := by kernel_rfl
theorem zd4 : zD Tryz.prog 4 = .b false := by kernel_rfl
theorem by4 : qbp Tryz.prog 4 = some 1 := by kernel_rfl
theorem sl4 : q0v Tryz.prog 4 = false := by kernel_rfl
theorem st4 : qb4 Tryz.prog 4 = false := by kernel_rfl
theorem bo4 : qbs Tryz.prog 4 = true := by kernel_rfl
theorem pt4 : qb5 Tryz.prog 4 = false := by kernel_rfl
theorem sz5 : q0l Tryz.prog 5 = some 1 := by kernel_rfl
theorem ag5 : aggT Tryz.prog 5 = some false := by kernel_rfl
theorem zr5 : q02 Tryz.prog 5 = some [.i .u8 0] := by kernel_rfl
theorem zo5 : qcj Tryz.prog 5 = some (.i .u8 0) := by kernel_rfl
theorem zd5 : zD Tryz.prog 5 = .i .u8 0 := by kernel_rfl
theorem by5 : qbp Tryz.prog 5 = some 1 := by kernel_rfl
theorem sl5 : q0v Tryz.prog 5 = false := by kernel_rfl
theorem st5 : qb4 Tryz.prog 5 = false := by kernel_rfl
theorem bo5 : qbs Tryz.prog 5 = false := by kernel_rfl
theorem pt5 : qb5 Tryz.prog 5 = false := by kernel_rfl
theorem ck5 : ckT Tryz.prog 5 = .int .u8 := by kernel_rfl
theorem sz9 : q0l Tryz.prog 9 = some 1 := by kernel_rfl
theorem ag9 : aggT Tryz.prog 9 = some false := by kernel_rfl
theorem zr9 : q02 Tryz.prog 9 = some [.s ⟨#[]⟩] := by kernel_rfl
theorem zo9 : qcj Tryz.prog 9 = some (.s ⟨#[]⟩) := by kernel_rfl
theorem zd9 : zD Tryz.prog 9 = .s ⟨#[]⟩ := by kernel_rfl
theorem by9 : qbp Tryz.prog 9 = some 16 := by kernel_rfl
theorem sl9 : q0v Tryz.prog 9 = false := by kernel_rfl
theorem un9 : Tryz.prog.underlying 9 = some .string := by kernel_rfl
theorem st9 : qb4 Tryz.prog 9 = true := by kernel_rfl
theorem bo9 : qbs Tryz.prog 9 = false := by kernel_rfl
theorem pt9 : qb5 Tryz.prog 9 = false := by kernel_rfl
theorem ck9 : ckT Tryz.prog 9 = .str := by kernel_rfl
theorem sz25 : q0l Tryz.prog 25 = some 1 := by kernel_rfl
theorem ag25 : aggT Tryz.prog 25 = some false := by kernel_rfl
theorem zr25 : q02 Tryz.prog 25 = some [.i .i64 0] := by kernel_rfl
theorem zo25 : qcj Tryz.prog 25 = some (.i .i64 0) := by kernel_rfl
theorem zd25 : zD Tryz.prog 25 = .i .i64 0 := by kernel_rfl
theorem by25 : qbp Tryz.prog 25 = some 8 := by kernel_rfl
theorem sl25 : q0v Tryz.prog 25 = false := by kernel_rfl
theorem st25 : qb4 Tryz.prog 25 = false := by kernel_rfl
theorem bo25 : qbs Tryz.prog 25 = false := by kernel_rfl
theorem pt25 : qb5 Tryz.prog 25 = false := by kernel_rfl
theorem ck25 : ckT Tryz.prog 25 = .int .i64 := by kernel_rfl
theorem sz31 : q0l Tryz.prog 31 = some 1 := by kernel_rfl
theorem ag31 : aggT Tryz.prog 31 = some false := by kernel_rfl
theorem zr31 : q02 Tryz.prog 31 = some [.nil] := by kernel_rfl
theorem zo31 : qcj Tryz.prog 31 = some (.nil) := by kernel_rfl
theorem zd31 : zD Tryz.prog 31 = .nil := by kernel_rfl
theorem by31 : qbp Tryz.prog 31 = some 24 := by kernel_rfl
theorem el31 : qbz Tryz.prog 31 = some 70 := by kernel_rfl
theorem sl31 : q0v Tryz.prog 31 = true := by kernel_rfl
theorem un31 : Tryz.prog.underlying 31 = some (.slice 70) := by kernel_rfl
theorem st31 : qb4 Tryz.prog 31 = false := by kernel_rfl
theorem bo31 : qbs Tryz.prog 31 = false := by kernel_rfl
theorem pt31 : qb5 Tryz.prog 31 = false := by kernel_rfl
theorem sz33 : q0l Tryz.prog 33 = some 2 := by kernel_rfl
theorem ag33 : aggT Tryz.prog 33 = some true := by kernel_rfl
theorem zr33 : q02 Tryz.prog 33 = some [.s ⟨#[]⟩, .nil] := by kernel_rfl
theorem zd33 : zD Tryz.prog 33 = .agg [.s ⟨#[]⟩, .nil] := by kernel_rfl
theorem by33 : qbp Tryz.prog 33 = some 40 := by kernel_rfl
theorem sl33 : q0v Tryz.prog 33 = false := by kernel_rfl
theorem st33 : qb4 Tryz.prog 33 = false := by kernel_rfl
theorem bo33 : qbs Tryz.prog 33 = false := by kernel_rfl
theorem pt33 : qb5 Tryz.prog 33 = false := by kernel_rfl
theorem q2b : offT Tryz.prog 33 0 = some (0, 1) := by kernel_rfl
theorem q2c : qb6 Tryz.prog 33 0 = some 9 := by kernel_rfl
theorem q2d : offT Tryz.prog 33 1 = some (1, 1) := by kernel_rfl
theorem q2e : qb6 Tryz.prog 33 1 = some 31 := by kernel_rfl
theorem pl33 : qd7 Tryz.prog 33 = some [(0, 1), (1, 1)] := by kernel_rfl
theorem sz41 : q0l Tryz.prog 41 = some 1 := by kernel_rfl
theorem sz68 : q0l Tryz.prog 68 = some 1 := by kernel_rfl
theorem ag68 : aggT Tryz.prog 68 = some false := by kernel_rfl
theorem zr68 : q02 Tryz.prog 68 = some [.nil] := by kernel_rfl
theorem zo68 : qcj Tryz.prog 68 = some (.nil) := by kernel_rfl
theorem zd68 : zD Tryz.prog 68 = .nil := by kernel_rfl
theorem by68 : qbp Tryz.prog 68 = some 24 := by kernel_rfl
theorem el68 : qbz Tryz.prog 68 = some 76 := by kernel_rfl
theorem sl68 : q0v Tryz.prog 68 = true := by kernel_rfl
theorem un68 : Tryz.prog.underlying 68 = some (.slice 76) := by kernel_rfl
theorem st68 : qb4 Tryz.prog 68 = false := by kernel_rfl
theorem bo68 : qbs Tryz.prog 68 = false := by kernel_rfl
theorem pt68 : qb5 Tryz.prog 68 = false := by kernel_rfl
theorem sz70 : q0l Tryz.prog 70 = some 2 := by kernel_rfl
theorem ag70 : aggT Tryz.prog 70 = some true := by kernel_rfl
theorem zr70 : q02 Tryz.prog 70 = some [.s ⟨#[]⟩, .nil] := by kernel_rfl
theorem zd70 : zD Tryz.prog 70 = .agg [.s ⟨#[]⟩, .nil] := by kernel_rfl
theorem by70 : qbp Tryz.prog 70 = some 40 := by kernel_rfl
theorem sl70 : q0v Tryz.prog 70 = false := by kernel_rfl
theorem st70 : qb4 Tryz.prog 70 = false := by kernel_rfl
theorem bo70 : qbs Tryz.prog 70 = false := by kernel_rfl
theorem pt70 : qb5 Tryz.prog 70 = false := by kernel_rfl
theorem q2f : offT Tryz.prog 70 0 = some (0, 1) := by kernel_rfl
theorem q2g : qb6 Tryz.prog 70 0 = some 9 := by kernel_rfl
theorem q2h : offT Tryz.prog 70 1 = some (1, 1) := by kernel_rfl
theorem q2i : qb6 Tryz.prog 70 1 = some 68 := by kernel_rfl
theorem pl70 : qd7 Tryz.prog 70 = some [(0, 1), (1, 1)] := by kernel_rfl
theorem sz71 : q0l Tryz.prog 71 = some 1 := by kernel_rfl
theorem ag71 : aggT Tryz.prog 71 = some false := by kernel_rfl
theorem zr71 : q02 Tryz.prog 71 = some [.nil] := by kernel_rfl
theorem zo71 : qcj Tryz.prog 71 = some (.nil) := by kernel_rfl
theorem zd71 : zD Tryz.prog 71 = .nil := by kernel_rfl
theorem by71 : qbp Tryz.prog 71 = some 24 := by kernel_rfl
theorem el71 : qbz Tryz.prog 71 = some 9 := by kernel_rfl
theorem sl71 : q0v Tryz.prog 71 = true := by kernel_rfl
theorem un71 : Tryz.prog.underlying 71 = some (.slice 9) := by kernel_rfl
theorem st71 : qb4 Tryz.prog 71 = false := by kernel_rfl
theorem bo71 : qbs Tryz.prog 71 = false := by kernel_rfl
theorem pt71 : qb5 Tryz.prog 71 = false := by kernel_rfl
theorem sz76 : q0l Tryz.prog 76 = some 2 := by kernel_rfl
theorem ag76 : aggT Tryz.prog 76 = some true := by kernel_rfl
theorem zr76 : q02 Tryz.prog 76 = some [.i .i64 0, .s ⟨#[]⟩] := by kernel_rfl
theorem zd76 : zD Tryz.prog 76 = .agg [.i .i64 0, .s ⟨#[]⟩] := by kernel_rfl
theorem by76 : qbp Tryz.prog 76 = some 24 := by kernel_rfl
theorem sl76 : q0v Tryz.prog 76 = false := by kernel_rfl
theorem st76 : qb4 Tryz.prog 76 = false := by kernel_rfl
theorem bo76 : qbs Tryz.prog 76 = false := by kernel_rfl
theorem pt76 : qb5 Tryz.prog 76 = false := by kernel_rfl
theorem q2j : offT Tryz.prog 76 0 = some (0, 1) := by kernel_rfl
theorem q2k : qb6 Tryz.prog 76 0 = some 3 := by kernel_rfl
theorem q2l : offT Tryz.prog 76 1 = some (1, 1) := by kernel_rfl
theorem q2m : qb6 Tryz.prog 76 1 = some 9 := by kernel_rfl
theorem pl76 : qd7 Tryz.prog 76 = some [(0, 1), (1, 1)] := by kernel_rfl
theorem ek76 : eqKs Tryz.prog 76 = some [.i, .s] := by kernel_rfl
theorem sz86 : q0l Tryz.prog 86 = some 1 := by kernel_rfl
theorem ag86 : aggT Tryz.prog 86 = some false := by kernel_rfl
theorem zr86 : q02 Tryz.prog 86 = some [.nil] := by kernel_rfl
theorem zo86 : qcj Tryz.prog 86 = some (.nil) := by kernel_rfl
theorem zd86 : zD Tryz.prog 86 = .nil := by kernel_rfl
theorem by86 : qbp Tryz.prog 86 = some 24 := by kernel_rfl
theorem el86 : qbz Tryz.prog 86 = some 5 := by kernel_rfl
theorem sl86 : q0v Tryz.prog 86 = true := by kernel_rfl
theorem un86 : Tryz.prog.underlying 86 = some (.slice 5) := by kernel_rfl
theorem st86 : qb4 Tryz.prog 86 = false := by kernel_rfl
theorem bo86 : qbs Tryz.prog 86 = false := by kernel_rfl
theorem pt86 : qb5 Tryz.prog 86 = false := by kernel_rfl
theorem ck86 : ckT Tryz.prog 86 = .bytes := by kernel_rfl
theorem sz97 : q0l Tryz.prog 97 = some 1 := by kernel_rfl
theorem ag97 : aggT Tryz.prog 97 = some false := by kernel_rfl
theorem zr97 : q02 Tryz.prog 97 = some [.np] := by kernel_rfl
theorem zo97 : qcj Tryz.prog 97 = some (.np) := by kernel_rfl
theorem zd97 : zD Tryz.prog 97 = .np := by kernel_rfl
theorem by97 : qbp Tryz.prog 97 = some 8 := by kernel_rfl
theorem sl97 : q0v Tryz.prog 97 = false := by kernel_rfl
theorem st97 : qb4 Tryz.prog 97 = false := by kernel_rfl
theorem bo97 : qbs Tryz.prog 97 = false := by kernel_rfl
theorem pt97 : qb5 Tryz.prog 97 = true := by kernel_rfl
theorem sz99 : q0l Tryz.prog 99 = some 4 := by kernel_rfl
theorem ag99 : aggT Tryz.prog 99 = some true := by kernel_rfl
theorem zr99 : q02 Tryz.prog 99 = some [.s ⟨#[]⟩, .i .i64 0, .i .i64 0, .i .i64 0] := by kernel_rfl
theorem zd99 : zD Tryz.prog 99 = .agg [.s ⟨#[]⟩, .i .i64 0, .i .i64 0, .i .i64 0] := by kernel_rfl
theorem by99 : qbp Tryz.prog 99 = some 40 := by kernel_rfl
theorem sl99 : q0v Tryz.prog 99 = false := by kernel_rfl
theorem st99 : qb4 Tryz.prog 99 = false := by kernel_rfl
theorem bo99 : qbs Tryz.prog 99 = false := by kernel_rfl
theorem pt99 : qb5 Tryz.prog 99 = false := by kernel_rfl
theorem q6c : offT Tryz.prog 99 0 = some (0, 1) := by kernel_rfl
theorem q6d : qb6 Tryz.prog 99 0 = some 9 := by kernel_rfl
theorem q6e : offT Tryz.prog 99 1 = some (1, 1) := by kernel_rfl
theorem q6f : qb6 Tryz.prog 99 1 = some 3 := by kernel_rfl
theorem q6g : offT Tryz.prog 99 2 = some (2, 1) := by kernel_rfl
theorem q6h : qb6 Tryz.prog 99 2 = some 3 := by kernel_rfl
theorem q6i : offT Tryz.prog 99 3 = some (3, 1) := by kernel_rfl
theorem q6j : qb6 Tryz.prog 99 3 = some 25 := by kernel_rfl
theorem pl99 : qd7 Tryz.prog 99 = some [(0, 1), (1, 1), (2, 1), (3, 1)] := by kernel_rfl
theorem ek99 : eqKs Tryz.prog 99 = some [.s, .i, .i, .i] := by kernel_rfl
theorem q6l : q0l Tryz.prog 103 = some 1 := by kernel_rfl
theorem q6m : aggT Tryz.prog 103 = some false := by kernel_rfl
theorem q6n : q02 Tryz.prog 103 = some [.np] := by kernel_rfl
theorem q6o : qcj Tryz.prog 103 = some (.np) := by kernel_rfl
theorem q6p : zD Tryz.prog 103 = .np := by kernel_rfl
theorem q6q : qbp Tryz.prog 103 = some 8 := by kernel_rfl
theorem q6r : q0v Tryz.prog 103 = false := by kernel_rfl
theorem q6s : qb4 Tryz.prog 103 = false := by kernel_rfl
theorem q6t : qbs Tryz.prog 103 = false := by kernel_rfl
theorem q6u : qb5 Tryz.prog 103 = true := by kernel_rfl
theorem q6v : q0l Tryz.prog 105 = some 4 := by kernel_rfl
theorem q6w : aggT Tryz.prog 105 = some true := by kernel_rfl
theorem q6x : q02 Tryz.prog 105 = some [.s ⟨#[]⟩, .i .i64 0, .i .i64 0, .i .i64 0] := by kernel_rfl
theorem q6y : zD Tryz.prog 105 = .agg [.s ⟨#[]⟩, .i .i64 0, .i .i64 0, .i .i64 0] := by kernel_rfl
theorem q6z : qbp Tryz.prog 105 = some 40 := by kernel_rfl
theorem q60 : q0v Tryz.prog 105 = false := by kernel_rfl
theorem q61 : qb4 Tryz.prog 105 = false := by kernel_rfl
theorem q62 : qbs Tryz.prog 105 = false := by kernel_rfl
theorem q63 : qb5 Tryz.prog 105 = false := by kernel_rfl
theorem q51 : offT Tryz.prog 105 0 = some (0, 1) := by kernel_rfl
theorem q52 : qb6 Tryz.prog 105 0 = some 9 := by kernel_rfl
theorem q53 : offT Tryz.prog 105 1 = some (1, 1) := by kernel_rfl
theorem q54 : qb6 Tryz.prog 105 1 = some 3 := by kernel_rfl
theorem q55 : offT Tryz.prog 105 2 = some (2, 1) := by kernel_rfl
theorem q56 : qb6 Tryz.prog 105 2 = some 3 := by kernel_rfl
theorem q57 : offT Tryz.prog 105 3 = some (3, 1) := by kernel_rfl
theorem q58 : qb6 Tryz.prog 105 3 = some 3 := by kernel_rfl
theorem q64 : qd7 Tryz.prog 105 = some [(0, 1), (1, 1), (2, 1), (3, 1)] := by kernel_rfl
theorem q65 : eqKs Tryz.prog 105 = some [.s, .i, .i, .i] := by kernel_rfl
theorem q31 : q0l Tryz.prog 139 = some 1 := by kernel_rfl
theorem q32 : aggT Tryz.prog 139 = some false := by kernel_rfl
theorem q33 : q02 Tryz.prog 139 = some [.nil] := by kernel_rfl
theorem q34 : qcj Tryz.prog 139 = some (.nil) := by kernel_rfl
theorem q35 : zD Tryz.prog 139 = .nil := by kernel_rfl
theorem q36 : qbp Tryz.prog 139 = some 24 := by kernel_rfl
theorem q37 : qbz Tryz.prog 139 = some 25 := by kernel_rfl
theorem q38 : q0v Tryz.prog 139 = true := by kernel_rfl
theorem q39 : Tryz.prog.underlying 139 = some (.slice 25) := by kernel_rfl
theorem q4a : qb4 Tryz.prog 139 = false := by kernel_rfl
theorem q4b : qbs Tryz.prog 139 = false := by kernel_rfl
theorem q4c : qb5 Tryz.prog 139 = false := by kernel_rfl
end Go.Ev.Ty
namespace Go.Ev
def decI (k : IntKind) : D → Option Int
 | .i k' n => if k' = k then some n else none
 | _ => none
def decS : D → Option ByteArray
 | .s x => some x
 | _ => none
def decM {α : Type} (f : D → Option α) : List D → Option (List α)
 | [] => some []
 | d :: l => match f d, decM f l with
   | some x, some r => some (x :: r)
   | _, _ => none
def decL {α : Type} (z : Nat) (f : D → Option α) : D → Option (List α)
 | .nil => some []
 | .sl z' l => if z' = z then decM f l else none
 | _ => none
theorem qrc (k : IntKind) (n : Int) : decI k (D.i k n) = some n := by simp [decI]
theorem qyg (n : ByteArray) : decS (D.s n) = some n := rfl
theorem qif {k : IntKind} {d : D} {n : Int} (h : decI k d = some n) : dle d (D.i k n) := by
 unfold decI at h
 split at h
 ·split at h
  ·cases h; rename_i e; subst e; exact qc5 _
  ·cases h
 ·cases h
theorem q00t {d : D} {n : ByteArray} (h : decS d = some n) : dle d (D.s n) := by
 unfold decS at h
 split at h
 ·cases h; exact qc5 _
 ·cases h
theorem qlo {α : Type} {f : D → Option α} : decM f [] = some [] := rfl
theorem qj0 {α : Type} {f : D → Option α} {d : D} {l : List D} : decM f (d :: l) = (match f d, decM f l with
 | some x, some r => some (x :: r)
 | _, _ => none) := rfl
theorem qi5 {α : Type} {f : D → Option α} {g : α → D} (h : ∀ x, f (g x) = some x) : ∀ l : List α, decM f (l.map g) = some l
 | [] => rfl
 | x :: l => by simp [decM, h, qi5 h l]
theorem qn9 {α : Type} {f : D → Option α} {z z' : Nat} {l : List D} : decL z f (.sl z' l) = if z' = z then decM f l else none := rfl
theorem qf0 {α : Type} {f : D → Option α} {g : α → D} {z : Nat} (h : ∀ x, f (g x) = some x) (l : List α) : decL z f (.sl z (l.map g)) = some l := by simp [decL, qi5 h]
theorem qtc {α : Type} {f : D → Option α} {g : α → D} (h : ∀ {d x}, f d = some x → dle d (g x)) : ∀ {l : List D} {x : List α}, decM f l = some x → dles l (x.map g)
 | [], x, hl => by cases hl; simp [dles]
 | d :: l, x, hl => by
   unfold decM at hl
   split at hl
   ·rename_i a r h1 h2
    cases hl
    simp only [List.map_cons, dles]
    exact ⟨h h1, qtc h h2⟩
   ·cases hl
theorem qfg {α : Type} {f : D → Option α} {g : α → D} {z : Nat} (h : ∀ {d x}, f d = some x → dle d (g x)) {d : D} {x : List α} (hd : decL z f d = some x) : dle d (.sl z (x.map g)) := by
 unfold decL at hd
 split at hd
 ·cases hd; simp [dle]
 ·split at hd
  ·rename_i e
   subst e
   simp only [dle]
   exact ⟨trivial, qtc h hd⟩
  ·cases hd
 ·cases hd
theorem qoa (x y : ByteArray) : seq x y = true ↔ x = y := by
 unfold seq
 rw [beq_iff_eq, ByteArray.toList_eq, ByteArray.toList_eq]
 exact ⟨fun h => Go.WideShapes.bytes_inj h, fun h => by rw [h]⟩
theorem qob (x y : ByteArray) : seq x y = decide (x = y) := by
 rw [Bool.eq_iff_iff, qoa, decide_eq_true_iff]
end Go.Ev
namespace Go.Ev
structure Change where
 file : ByteArray
 kind : Int
 rrn : Int
 before : ByteArray
 after : ByteArray
deriving DecidableEq
structure Entry where
 number : Int
 kind : Int
 unit : Int
 change : Change
deriving DecidableEq
end Go.Ev
namespace Go.Ev
def chr (s : ByteArray) (i : Nat) : Int := ((s.data.toList.getD i 0).toNat : Int)
def qi6 (first : Bool) (c : Int) : Bool := (decide (65 ≤ c) && decide (c ≤ 90) || c == 35 || c == 36 || c == 64) || (!first && (c == 95 || c == 46 || decide (48 ≤ c) && decide (c ≤ 57)))
def q0r (s : ByteArray) : Bool := decide (1 ≤ s.size) && decide (s.size ≤ 10) && (List.range s.size).all fun i => qi6 (i == 0) (chr s i)
theorem qus (s : ByteArray) (k : Nat) : (qck s).getD k (.i .u8 0) = .i .u8 (chr s k) := by
 unfold qck chr
 simp only [List.getD, List.getElem?_map]
 cases s.data.toList[k]? <;> rfl
theorem qj1 (s : ByteArray) (i : Nat) : ((s.data.toList.getD i 0).toNat : Int) = chr s i := rfl
theorem qo7 {s : ByteArray} {i : Nat} (h : i < s.size) (hc : qi6 (i == 0) (chr s i) = false) : q0r s = false := by
 unfold q0r
 rw [Bool.and_eq_false_iff]
 right
 rw [List.all_eq_false]
 exact ⟨i, by simpa using h, by simp [hc]⟩
theorem qmt {s : ByteArray} (h1 : 1 ≤ s.size) (h2 : s.size ≤ 10) (h : ∀ j, j < s.size → qi6 (j == 0) (chr s j) = true) : q0r s = true := by
 unfold q0r
 simp only [Bool.and_eq_true, decide_eq_true_eq, List.all_eq_true, List.mem_range]
 exact ⟨⟨h1, h2⟩, h⟩
theorem qmu {s : ByteArray} (h : (s.size : Int) < 1 ∨ 10 < (s.size : Int)) : q0r s = false := by
 unfold q0r
 rw [Bool.and_eq_false_iff]
 left
 simp only [Bool.and_eq_false_iff, decide_eq_false_iff_not]
 omega
theorem qhq (i : Nat) (c : Int) : qi6 (i == 0) c = true ↔ (((65 ≤ c ∧ c ≤ 90) ∨ c = 35 ∨ c = 36 ∨ c = 64) ∨ (i ≠ 0 ∧ (c = 95 ∨ c = 46 ∨ (48 ≤ c ∧ c ≤ 57)))) := by
 simp [qi6]
 omega
theorem qlp (s : ByteArray) : s = ⟨#[]⟩ ↔ s.size = 0 := by
 constructor
 ·rintro rfl; rfl
 ·intro h
  cases s with | mk d => simp only [ByteArray.size, Array.size_eq_zero_iff] at h; rw [h]
def pEnd (u : Int) (e : Entry) : Bool := (e.kind == 2 || e.kind == 3) && e.unit == u
def q4d (l : List Entry) (u : Int) : Option Entry := l.find? (pEnd u)
def ends (l : List Entry) (u : Int) : Int := match q4d l u with | some e => e.kind | none => -1
section
variable {l : List Entry} {c : Int × Int} {i : Nat}
end
section
variable {l : List Entry} {u : Int} {i : Nat}
theorem qyh {α : Type} {l : List α} {i : Nat} (z : α) (h : i < l.length) : l.getD i z ∈ l := by
 simp only [List.getD, List.getElem?_eq_getElem h, Option.getD_some]
 exact List.getElem_mem h
end
end Go.Ev
namespace Go.Ev
structure CVal where
 kind : Int
 text : ByteArray
deriving DecidableEq
def q0t (x : CVal) : D := .agg [.i .i64 x.kind, .s x.text]
def qbk : CVal := ⟨0, ⟨#[]⟩⟩
theorem qc7 (x : CVal) : (⟨x.kind, x.text⟩ : CVal) = x := rfl
def qbl : D → Option CVal
 | .agg [.i .i64 a0, .s a1] => some ⟨a0, a1⟩
 | _ => none
theorem qh0 (x : CVal) : qbl (q0t x) = some x := rfl
theorem qgw {d : D} {x : CVal} (h : qbl d = some x) : dle d (q0t x) := by
 unfold qbl at h
 split at h
 ·cases h; exact qc5 _
 ·cases h
theorem qd3 : (⟨0, ⟨#[]⟩⟩ : CVal) = qbk := rfl
theorem q59 {a0 b0 : Int} {a1 b1 : ByteArray} : qbi [.i, .s] [.i .i64 a0, .s a1] [.i .i64 b0, .s b1] = some (eqB (⟨a0, a1⟩ : CVal) ⟨b0, b1⟩) := by
 simp only [qbi, qge, qob, ↓reduceIte, Option.some.injEq, Bool.and_true]; rw [Bool.eq_iff_iff]; simp [eqB]
theorem qwk (l : List CVal) (k : Nat) : (l.map q0t).getD k (q0t qbk) = q0t (l.getD k qbk) := by
 simp only [List.getD, List.getElem?_map]
 cases l[k]? <;> rfl
theorem qb1 (l : List CVal) (k : Nat) : (l.map q0t).getD k (.agg [.i .i64 0, .s ⟨#[]⟩]) = q0t (l.getD k qbk) := qwk l k
theorem qc8 (l : List CVal) : decL 2 qbl (.sl 2 (l.map q0t)) = some l := qf0 qh0 l
theorem qc9 (l : List CVal) : decM qbl (l.map q0t) = some l := qi5 qh0 l
structure CPart where
 keyword : ByteArray
 values : List CVal
deriving DecidableEq
def q0d (x : CPart) : D := .agg [.s x.keyword, .sl 2 (x.values.map q0t)]
def q0b : CPart := ⟨⟨#[]⟩, []⟩
theorem qdw (x : CPart) : (⟨x.keyword, x.values⟩ : CPart) = x := rfl
def qbo : D → Option CPart
 | .agg [.s a0, a1] => match (decL 2 qbl) a1 with
   | some b1 => some ⟨a0, b1⟩
   | _ => none
 | _ => none
theorem qj2 (x : CPart) : qbo (q0d x) = some x := by
 simp [qbo, q0d, (qf0 qh0)]
theorem qh1 {d : D} {x : CPart} (h : qbo d = some x) : dle d (q0d x) := by
 unfold qbo at h
 split at h
 ·split at h
  ·rename_i h1
   cases h
   simp only [dle, dles, q0d, and_true, true_and]
   exact (qfg qgw) h1
  ·cases h
 ·cases h
theorem qeu : (⟨⟨#[]⟩, []⟩ : CPart) = q0b := rfl
theorem qdx (l : List CPart) : decL 2 qbo (.sl 2 (l.map q0d)) = some l := qf0 qj2 l
theorem qdy (l : List CPart) : decM qbo (l.map q0d) = some l := qi5 qj2 l
structure CStr where
 name : ByteArray
 parts : List CPart
deriving DecidableEq
def q08 (x : CStr) : D := .agg [.s x.name, .sl 2 (x.parts.map q0d)]
def qfm : CStr := ⟨⟨#[]⟩, []⟩
theorem qf1 (x : CStr) : (⟨x.name, x.parts⟩ : CStr) = x := rfl
def qbv : D → Option CStr
 | .agg [.s a0, a1] => match (decL 2 qbo) a1 with
   | some b1 => some ⟨a0, b1⟩
   | _ => none
 | _ => none
theorem qdz {d : D} {x : CStr} (h : qbv d = some x) : dle d (q08 x) := by
 unfold qbv at h
 split at h
 ·split at h
  ·rename_i h1
   cases h
   simp only [dle, dles, q08, and_true, true_and]
   exact (qfg qh1) h1
  ·cases h
 ·cases h
theorem qhd : (⟨⟨#[]⟩, []⟩ : CStr) = qfm := rfl
structure CParam where
 keyword : ByteArray
 type_ : Int
 length : Int
 low : Int
 high : Int
 special : List ByteArray
 choices : List ByteArray
 most : Int
 required : Bool
 default : ByteArray
deriving DecidableEq
def qo8 (x : CParam) : D := .agg [.s x.keyword, .i .i64 x.type_, .i .i64 x.length, .i .i64 x.low, .i .i64 x.high, .sl 1 (x.special.map D.s), .sl 1 (x.choices.map D.s), .i .i64 x.most, .b x.required, .s x.default]
structure CDep where
 control : Int
 value : ByteArray
 params : List Int
 least : Int
 most : Int
deriving DecidableEq
def qtd (x : CDep) : D := .agg [.i .i64 x.control, .s x.value, .sl 1 (x.params.map (D.i .i64)), .i .i64 x.least, .i .i64 x.most]
structure CDef where
 name : ByteArray
 params : List CParam
 positions : Int
 deps : List CDep
deriving DecidableEq
def q00u (x : CDef) : D := .agg [.s x.name, .sl 10 (x.params.map qo8), .i .i64 x.positions, .sl 5 (x.deps.map qtd)]
end Go.Ev
namespace Go.Ev
structure Rd where
 s : ByteArray
 pos : Nat
 place : Int
 err : Int
def qch (s : ByteArray) (a p e : Int) : Option Rd := if 0 ≤ a then some ⟨s, a.toNat, p, e⟩ else none
theorem q6a {s : ByteArray} {n : Nat} {p e : Int} : qch s (n : Int) p e = some ⟨s, n, p, e⟩ := by unfold qch; rw [if_pos (by omega)]; rfl
theorem q5w {s : ByteArray} {n : Nat} {p e : Int} : qch s ((n : Int) + 1) p e = some ⟨s, n + 1, p, e⟩ := by unfold qch; rw [if_pos (by omega)]; rfl
theorem q6b {s : ByteArray} {p e : Int} : qch s 0 p e = some ⟨s, 0, p, e⟩ := by unfold qch; rw [if_pos (by omega)]; rfl
def endC (c : Int) : Bool := decide (c = 32) || decide (c = 40) || decide (c = 41) || decide (c = 39)
def fP (e0 p0 p : Int) : Int := if e0 = 0 then p else p0
def fE (e0 e : Int) : Int := if e0 = 0 then e else e0
def Rd.fail (r : Rd) (p e : Int) : Rd := ⟨r.s, r.pos, fP r.err r.place p, fE r.err e⟩
def qhe (p : Int → Bool) (s : ByteArray) : Nat → Nat → Nat
 | 0, i => i
 | n + 1, i => if i < s.size ∧ p (chr s i) = true then qhe p s n (i + 1) else i
def skip (p : Int → Bool) (s : ByteArray) (i : Nat) : Nat := qhe p s s.size i
def isBl (c : Int) : Bool := decide (c = 32)
def Rd.blanks (r : Rd) : Rd := ⟨r.s, skip isBl r.s r.pos, r.place, r.err⟩
def inW (c : Int) : Bool := !endC c
def upS (s : ByteArray) : ByteArray := ⟨(Go.Lib.toUpperA s.data.toList).toArray⟩
def asc (s : ByteArray) : Prop := s.size ≤ 400 ∧ ∀ b ∈ s.data.toList, b.toNat < 128
def Rd.wend (r : Rd) : Nat := skip inW r.s r.pos
def Rd.word (r : Rd) : Rd := ⟨r.s, r.wend, r.place, r.err⟩
def Rd.wtxt (r : Rd) : ByteArray := upS (r.s.extract r.pos r.wend)
def badC (c : Int) : Bool := decide (c < 32) || decide (126 < c)
def idxP (p : Int → Bool) (l : List Int) : Int := match l.findIdx? p with
 | some k => (k : Int)
 | none => -1
theorem qte {p : Int → Bool} {l : List Int} {i : Nat} (hi : i < l.length) (h : p (l.getD i 0) = true) (hb : ∀ j, j < i → p (l.getD j 0) = false) : idxP p l = (i : Int) := by
 unfold idxP
 have : l.findIdx? p = some i := by
  rw [List.findIdx?_eq_some_iff_getElem]
  refine ⟨hi, by simpa [hi] using h, fun j hj => ?_⟩
  have := hb j hj
  have hjl : j < l.length := by omega
  simpa [hjl] using this
 rw [this]
theorem qoc {p : Int → Bool} {l : List Int} (hb : ∀ j, j < l.length → p (l.getD j 0) = false) : idxP p l = -1 := by
 unfold idxP
 have : l.findIdx? p = none := by
  rw [List.findIdx?_eq_none_iff]
  intro x hx
  obtain ⟨j, hj, rfl⟩ := List.getElem_of_mem hx
  have := hb j hj
  simpa [hj] using this
 rw [this]
theorem qrd (l : List Int) (k : Nat) : (l.map (D.i .u8)).getD k (.i .u8 0) = .i .u8 (l.getD k 0) := by
 simp only [List.getD, List.getElem?_map]
 cases l[k]? <;> rfl
def qrun (s : ByteArray) : Nat → Nat → List Int → Nat × List Int × Bool
 | 0, i, l => (i, l, false)
 | n + 1, i, l => if i < s.size then (if chr s i = 39 then (if i + 1 < s.size ∧ chr s (i + 1) = 39 then qrun s n (i + 2) (l ++ [39]) else (i + 1, l, true)) else qrun s n (i + 1) (l ++ [chr s i])) else (i, l, false)
def qq (s : ByteArray) (i : Nat) (l : List Int) : Nat × List Int × Bool := qrun s (s.size + 1) i l
def Rd.to (r : Rd) (i : Nat) : Rd := ⟨r.s, i, r.place, r.err⟩
def Rd.qres (r : Rd) : Nat × List Int × Bool := qq r.s (r.pos + 1) []
def Rd.qval (r : Rd) : CVal := if r.qres.2.2 = true then ⟨1, strD (r.qres.2.1.map (D.i .u8))⟩ else qbk
def Rd.quoted (r : Rd) : Rd := if r.qres.2.2 = true then (if 64 < r.qres.2.1.length then (r.to r.qres.1).fail r.pos 2 else r.to r.qres.1) else (r.to r.qres.1).fail r.s.size 8
theorem qre {α : Type} (l : List α) (n : Nat) (h : n = l.length) : l.take n = l := by subst h; exact List.take_length
theorem q66 (r : Rd) : (⟨r.s, r.pos, r.place, r.err⟩ : Rd) = r := rfl
theorem qwl {r : Rd} {p e : Int} : (r.fail p e).s = r.s := rfl
theorem qen {r : Rd} {p e : Int} : (r.fail p e).pos = r.pos := rfl
theorem q6k {r : Rd} : r.word.s = r.s := rfl
theorem qmv {r : Rd} {i : Nat} : (r.to i).pos = i := rfl
theorem qh2 {p : Int → Bool} {s : ByteArray} : ∀ (n i : Nat), i ≤ s.size → i ≤ qhe p s n i ∧ qhe p s n i ≤ s.size
 | 0, i, h => ⟨Nat.le_refl _, h⟩
 | n + 1, i, h => by
   unfold qhe
   split
   ·have := qh2 (p := p) (s := s) n (i + 1) (by omega); omega
   ·exact ⟨Nat.le_refl _, h⟩
theorem qhf {r : Rd} (h : r.pos ≤ r.s.size) : r.pos ≤ r.word.pos ∧ r.word.pos ≤ r.s.size := qh2 _ _ h
theorem qb3 {r : Rd} : r.blanks.s = r.s := rfl
theorem qfn {r : Rd} (h : r.pos ≤ r.s.size) : r.pos ≤ r.blanks.pos ∧ r.blanks.pos ≤ r.s.size := qh2 _ _ h
theorem qlq {s : ByteArray} : ∀ (n i : Nat) (l : List Int), i ≤ s.size → i ≤ (qrun s n i l).1 ∧ (qrun s n i l).1 ≤ s.size
 | 0, i, l, h => ⟨Nat.le_refl _, h⟩
 | n + 1, i, l, h => by
   unfold qrun
   split
   ·split
    ·split
     ·have := qlq (s := s) n (i + 2) (l ++ [39]) (by omega); omega
     ·exact ⟨by simp, by simp; omega⟩
    ·have := qlq (s := s) n (i + 1) (l ++ [chr s i]) (by omega); omega
   ·exact ⟨Nat.le_refl _, h⟩
theorem qrf {r : Rd} : r.quoted.s = r.s := by
 unfold Rd.quoted; split
 ·split
  ·exact qwl
  ·rfl
 ·exact qwl
theorem qut {r : Rd} (h : r.pos < r.s.size) : r.pos < r.quoted.pos ∧ r.quoted.pos ≤ r.s.size := by
 have q := qlq (s := r.s) (r.s.size + 1) (r.pos + 1) [] (by omega)
 have e : r.quoted.pos = r.qres.1 := by
  unfold Rd.quoted; split
  ·split
   ·exact qen
   ·rfl
  ·exact qen
 rw [e]; exact ⟨by unfold Rd.qres qq; omega, q.2⟩
def isAt (s : ByteArray) (i : Nat) (c : Int) : Bool := decide (i < s.size) && decide (chr s i = c)
def Rd.is (r : Rd) (c : Int) : Bool := isAt r.s r.pos c
def Rd.stop (r : Rd) (op : Bool) : Rd := if (decide (r.pos < r.s.size) && !r.is 32 && !(op && r.is 41)) = true then r.fail r.pos 8 else r
def Rd.valV (r : Rd) : CVal := if r.is 39 = true then r.qval else ⟨0, r.wtxt⟩
def Rd.valR (r : Rd) : Rd := if r.is 39 = true then r.quoted else if 64 < r.wtxt.size then r.word.fail r.pos 2 else r.word
theorem qyi {r : Rd} {op : Bool} (h : ((r.pos : Int) < (r.s.size : Int) ∧ isAt r.s r.pos 32 = false) ∧ (op = false ∨ isAt r.s r.pos 41 = false)) : r.stop op = r.fail r.pos 8 := by
 unfold Rd.stop Rd.is
 rw [if_pos]
 obtain ⟨⟨h1, h2⟩, h3⟩ := h
 rw [h2, decide_eq_true (by omega : r.pos < r.s.size)]
 rcases h3 with h3 | h3 <;> rw [h3] <;> simp
theorem q00v {r : Rd} {op : Bool} (h : ((r.s.size : Int) ≤ (r.pos : Int) ∨ isAt r.s r.pos 32 = true) ∨ op = true ∧ isAt r.s r.pos 41 = true) : r.stop op = r := by
 unfold Rd.stop Rd.is
 rw [if_neg]
 rcases h with (h | h) | ⟨h, k⟩
 ·rw [decide_eq_false (by omega : ¬ r.pos < r.s.size)]; simp
 ·rw [h]; simp
 ·rw [h, k]; simp
theorem q2n {r : Rd} (h : isAt r.s r.pos 39 = true) : r.valR = r.quoted := by unfold Rd.valR Rd.is; rw [if_pos h]
theorem etaB (r : Rd) : (⟨r.s, r.blanks.pos, r.blanks.place, r.blanks.err⟩ : Rd) = r.blanks := rfl
theorem etaW (r : Rd) : (⟨r.s, r.word.pos, r.word.place, r.word.err⟩ : Rd) = r.word := rfl
def Rd.nmT (r : Rd) : ByteArray := if r.blanks.pos = r.s.size then ⟨#[]⟩ else r.blanks.wtxt
def Rd.nmR (r : Rd) : Rd := if r.blanks.pos = r.s.size then r.blanks.fail r.blanks.pos 1 else if q0r r.blanks.wtxt = true then r.blanks.word.stop false else (r.blanks.word.stop false).fail r.blanks.pos 7
theorem q4e {r : Rd} (h : ¬ r.blanks.pos = r.s.size) : r.nmT = r.blanks.wtxt := if_neg h
theorem q4f {r : Rd} (h : r.blanks.pos = r.s.size) : r.nmR = r.blanks.fail r.blanks.pos 1 := if_pos h
theorem q4g {r : Rd} (h : ¬ r.blanks.pos = r.s.size) (k : q0r r.blanks.wtxt = true) : r.nmR = r.blanks.word.stop false := by unfold Rd.nmR; rw [if_neg h, if_pos k]
theorem q4h {r : Rd} (h : ¬ r.blanks.pos = r.s.size) (k : q0r r.blanks.wtxt = false) : r.nmR = (r.blanks.word.stop false).fail r.blanks.pos 7 := by unfold Rd.nmR; rw [if_neg h, if_neg (by rw [k]; decide)]
theorem qwm {r : Rd} (h : (r.pos : Int) < (r.s.size : Int)) (k : isAt r.s r.pos 32 = false) : r.stop false = r.fail r.pos 8 := qyi ⟨⟨h, k⟩, .inl rfl⟩
theorem qyj {r : Rd} (h : (r.s.size : Int) ≤ (r.pos : Int) ∨ isAt r.s r.pos 32 = true) : r.stop false = r := q00v (.inl h)
def lrun (op : Nat) : Nat → Rd → List CVal → Rd × List CVal
 | 0, r, out => (r, out)
 | n + 1, r, out => if r.err = 0 ∧ r.pos < r.s.size ∧ isAt r.s r.pos 41 = false then
     (if out.length = 10 then (r.fail r.pos 2, []) else if isAt r.s r.pos 40 = true then (r.fail r.pos 8, []) else lrun op n (r.valR.stop true).blanks (out ++ [r.valV]))
   else if ¬ r.err = 0 then (r, [])
   else if r.pos = r.s.size then (((r.fail r.pos 8).to (r.pos + 1)).stop false, out)
   else if out = [] then (((r.fail op 1).to (r.pos + 1)).stop false, out)
   else ((r.to (r.pos + 1)).stop false, out)
def Rd.list (r : Rd) : Rd × List CVal := lrun r.pos 12 (r.to (r.pos + 1)).blanks []
theorem qb8 {r : Rd} {op : Bool} : (r.stop op).s = r.s := by unfold Rd.stop; split <;> rfl
theorem qeo {r : Rd} {op : Bool} : (r.stop op).pos = r.pos := by unfold Rd.stop; split <;> rfl
theorem qee {r : Rd} : r.valR.s = r.s := by
 unfold Rd.valR; split
 ·exact qrf
 ·split <;> rfl
theorem qlr {r : Rd} (h : r.pos ≤ r.s.size) : r.pos ≤ r.valR.pos ∧ r.valR.pos ≤ r.s.size := by
 unfold Rd.valR
 split
 ·rename_i h1
  unfold Rd.is isAt at h1
  rw [Bool.and_eq_true, decide_eq_true_eq] at h1
  have := qut h1.1
  omega
 ·split
  ·exact qhf h
  ·exact qhf h
theorem etaS (r : Rd) (op : Bool) : (⟨r.s, (r.valR.stop op).pos, (r.valR.stop op).place, (r.valR.stop op).err⟩ : Rd) = r.valR.stop op := by
 have : r.s = (r.valR.stop op).s := by rw [qb8, qee]
 rw [this]
section
variable {op : Nat} {q : Rd} {out : List CVal} {L : Rd × List CVal}
end
theorem q67 (r : Rd) : (⟨r.s, r.pos, r.word.place, r.word.err⟩ : Rd) = r := rfl
def Rd.partV (r : Rd) : CPart := if isAt r.s r.pos 40 = true then ⟨⟨#[]⟩, r.list.2⟩ else if isAt r.s r.pos 41 = true then q0b else if isAt r.s r.pos 39 = true then ⟨⟨#[]⟩, [r.valV]⟩
 else if isAt r.s r.word.pos 40 = false then ⟨⟨#[]⟩, [r.valV]⟩ else if q0r r.wtxt = false then q0b else ⟨r.wtxt, r.word.list.2⟩
def Rd.partR (r : Rd) : Rd := if isAt r.s r.pos 40 = true then r.list.1 else if isAt r.s r.pos 41 = true then r.fail r.pos 8 else if isAt r.s r.pos 39 = true then r.valR.stop false
 else if isAt r.s r.word.pos 40 = false then r.valR.stop false else if q0r r.wtxt = false then r.word.fail r.pos 7 else r.word.list.1
theorem qtf {s : ByteArray} {i : Nat} {c : Int} (h : isAt s i c = true) : i < s.size := by
 unfold isAt at h; rw [Bool.and_eq_true, decide_eq_true_eq] at h; exact h.1
end Go.Ev
namespace Go.Ev
def Rd.wraw (r : Rd) : ByteArray := r.s.extract r.pos r.wend
theorem q5x {r : Rd} : r.wtxt = upS r.wraw := rfl
def quu (s : ByteArray) : Prop := s.size ≤ 400 ∧ ∀ k, k < s.size → 32 ≤ chr s k ∧ chr s k ≤ 126
def inWq (c : Int) : Bool := decide (32 < c) && decide (c < 127) && !decide (c = 40) && !decide (c = 41) && !decide (c = 39)
def qi7 (op : Nat) : Nat → Rd → List CVal → Rd × List CVal
 | 0, r, out => (r, out)
 | n + 1, r, out => if r.err = 0 then
     (if r.blanks.pos < r.s.size then
       (if chr r.s r.blanks.pos = 41 then ((if out.length = 0 then r.blanks.fail op 1 else r.blanks).to (r.blanks.pos + 1), out)
        else if out.length = 10 then (r.blanks.fail r.blanks.pos 2, out)
        else if chr r.s r.blanks.pos = 40 then (r.blanks.fail r.blanks.pos 8, out)
        else qi7 op n (r.blanks.valR.stop true) (out ++ [r.blanks.valV]))
      else (r.blanks.fail r.s.size 8, out))
   else (r, out)
def Rd.rlist (r : Rd) : Rd × List CVal := qi7 r.pos 12 (r.to (r.pos + 1)) []
def Rd.rpart (r : Rd) : Rd × CPart :=
 if chr r.s r.pos = 41 then (r.fail r.pos 8, q0b)
 else if chr r.s r.pos = 40 then (r.rlist.1.stop false, ⟨⟨#[]⟩, r.rlist.2⟩)
 else if chr r.s r.pos = 39 then (r.quoted.stop false, ⟨⟨#[]⟩, [r.qval]⟩)
 else if isAt r.s r.word.pos 40 = true then (if q0r r.wtxt = true then (r.word.rlist.1.stop false, ⟨r.wtxt, r.word.rlist.2⟩) else (r.word.fail r.pos 7, ⟨r.wtxt, []⟩))
 else ((if 64 < r.wraw.size then r.word.fail r.pos 2 else r.word).stop false, ⟨⟨#[]⟩, [⟨0, r.wtxt⟩]⟩)
def prun : Nat → Rd → List CPart → Rd × List CPart
 | 0, r, out => (r, out)
 | n + 1, r, out => if r.err = 0 ∧ r.pos < r.s.size then (if out.length = 12 then (r.fail r.pos 2, out) else prun n r.partR.blanks (out ++ [r.partV])) else (r, out)
def qfo : Nat → Rd → List CPart → Rd × List CPart
 | 0, r, out => (r, out)
 | n + 1, r, out => if r.err = 0 then (if r.blanks.pos < r.s.size then (if out.length = 12 then (r.blanks.fail r.blanks.pos 2, out) else qfo n r.blanks.rpart.1 (out ++ [r.blanks.rpart.2])) else (r.blanks, out)) else (r, out)
def rd0 (s : ByteArray) : Rd := ⟨s, 0, 0, 0⟩
def qd4 (s : ByteArray) : List Int := s.data.toList.map fun b => (b.toNat : Int)
theorem qyk (s : ByteArray) : qck s = (qd4 s).map (D.i .u8) := by unfold qck qd4; rw [List.map_map]; rfl
theorem qgx (s : ByteArray) : (qd4 s).length = s.size := by unfold qd4; rw [List.length_map, Array.length_toList]; rfl
theorem qmw (s : ByteArray) (k : Nat) : (qd4 s).getD k 0 = chr s k := by
 unfold qd4 chr
 simp only [List.getD, List.getElem?_map]
 cases s.data.toList[k]? <;> rfl
theorem qo9 (s : ByteArray) : decL 1 (decI .u8) (.sl 1 (qck s)) = some (qd4 s) := by rw [qyk]; exact qf0 (qrc .u8) _
def qmx (s : ByteArray) : Int := idxP badC (qd4 s)
def qig (s : ByteArray) : CStr × Int × Int :=
 if 400 < s.size then (qfm, 0, 2) else if 0 ≤ qmx s then (qfm, qmx s, 5)
 else if ¬ (prun 13 (rd0 s).nmR.blanks []).1.err = 0 then (qfm, (prun 13 (rd0 s).nmR.blanks []).1.place, (prun 13 (rd0 s).nmR.blanks []).1.err) else (⟨(rd0 s).nmT, (prun 13 (rd0 s).nmR.blanks []).2⟩, 0, 0)
def qih (s : ByteArray) : CStr × Int × Int :=
 if 400 < s.size then (qfm, 0, 2) else if 0 ≤ qmx s then (qfm, qmx s, 5)
 else if ¬ (rd0 s).blanks.pos < s.size then (qfm, s.size, 1)
 else if (rd0 s).blanks.word.pos < s.size ∧ ¬ chr s (rd0 s).blanks.word.pos = 32 then (qfm, (rd0 s).blanks.word.pos, 8)
 else if q0r (rd0 s).blanks.wtxt = false then (qfm, (rd0 s).blanks.pos, 7)
 else if ¬ (qfo 13 (rd0 s).blanks.word []).1.err = 0 then (qfm, (qfo 13 (rd0 s).blanks.word []).1.place, (qfo 13 (rd0 s).blanks.word []).1.err) else (⟨(rd0 s).blanks.wtxt, (qfo 13 (rd0 s).blanks.word []).2⟩, 0, 0)
structure Rd.sim (a b : Rd) : Prop where
 s : a.s = b.s
 err : a.err = b.err
 place : a.place = b.place
 pos : a.err = 0 → a.pos = b.pos
theorem Rd.sim.rfl' (a : Rd) : a.sim a := ⟨rfl, rfl, rfl, fun _ => rfl⟩
theorem Rd.sim.eq {a b : Rd} (h : a.sim b) (e : a.err = 0) : a = b := by
 obtain ⟨h1, h2, h3, h4⟩ := h
 cases a; cases b; simp only at *; simp_all
theorem qtg {r : Rd} {p e : Int} (h : ¬ r.err = 0) : r.fail p e = r := by unfold Rd.fail fP fE; rw [if_neg h, if_neg h]
theorem qey {r : Rd} {p e : Int} (h : r.err = 0) : r.fail p e = ⟨r.s, r.pos, p, e⟩ := by unfold Rd.fail fP fE; rw [if_pos h, if_pos h]
theorem qf2 {r : Rd} {op : Bool} (h : ¬ r.err = 0) : r.stop op = r := by unfold Rd.stop; split; exact qtg h; rfl
theorem qrg (op : Nat) : ∀ (n : Nat) (r : Rd) (out : List CVal), out.length ≤ 10 → n + out.length = 12 → r.pos ≤ r.s.size →
 (lrun op n r.blanks out).1.sim ((qi7 op n r out).1.stop false) ∧ ((lrun op n r.blanks out).1.err = 0 → (lrun op n r.blanks out).2 = (qi7 op n r out).2)
 | 0, r, out, h1, h2, h3 => by omega
 | n + 1, r, out, h1, h2, h3 => by
   have hb := qfn h3
   unfold lrun qi7
   by_cases e : r.err = 0
   ·have eb : r.blanks.err = 0 := e
    rw [if_pos e]
    by_cases p : r.blanks.pos < r.s.size
    ·rw [if_pos p]
     by_cases c : chr r.s r.blanks.pos = 41
     ·have ha : isAt r.blanks.s r.blanks.pos 41 = true := by simp [isAt, qb3, p, c]
      rw [if_pos c, if_neg (by rw [ha]; simp), if_neg (by simp [eb]), if_neg (by rw [qb3]; omega)]
      by_cases o : out = []
      ·rw [if_pos o, if_pos (by rw [o]; rfl)]; exact ⟨.rfl' _, fun _ => rfl⟩
      ·rw [if_neg o, if_neg (by intro h; exact o (List.eq_nil_of_length_eq_zero h))]; exact ⟨.rfl' _, fun _ => rfl⟩
     ·have ha : isAt r.blanks.s r.blanks.pos 41 = false := by simp [isAt, qb3, c]
      rw [if_neg c, if_pos ⟨eb, by rw [qb3]; exact p, ha⟩]
      by_cases f : out.length = 10
      ·rw [if_pos f, if_pos f, qey eb]
       refine ⟨?_, fun h => by cases h⟩
       rw [qf2 (by show ¬ (2 : Int) = 0; decide)]; exact .rfl' _
      ·rw [if_neg f, if_neg f]
       by_cases c2 : chr r.s r.blanks.pos = 40
       ·rw [if_pos c2, if_pos (by simp [isAt, qb3, p, c2]), qey eb]
        refine ⟨?_, fun h => by cases h⟩
        rw [qf2 (by show ¬ (8 : Int) = 0; decide)]; exact .rfl' _
       ·rw [if_neg c2, if_neg (by simp [isAt, qb3, c2])]
        refine qrg op n _ _ ?_ ?_ ?_
        ·rw [List.length_append, List.length_singleton]; omega
        ·rw [List.length_append, List.length_singleton]; omega
        ·rw [qeo, qb8, qee, qb3]
         have := qlr (r := r.blanks) hb.2
         rw [qb3] at this
         exact this.2
    ·rw [if_neg p, if_neg (by rw [qb3]; omega), if_neg (by simp [eb]), if_pos (by rw [qb3]; omega), qey eb, qey eb]
     refine ⟨?_, fun h => ?_⟩
     ·rw [qf2 (by show ¬ (8 : Int) = 0; decide), qf2 (by show ¬ (8 : Int) = 0; decide)]
      exact ⟨rfl, rfl, by show (r.blanks.pos : Int) = r.s.size; omega, fun h => by cases h⟩
     ·rfl
   ·have eb : ¬ r.blanks.err = 0 := e
    rw [if_neg e, if_neg (by simp [eb]), if_pos eb, qf2 e]
    exact ⟨⟨rfl, rfl, rfl, fun h => absurd h e⟩, fun h => absurd h e⟩
theorem qrh {r : Rd} (h : r.pos < r.s.size) : r.list.1.sim (r.rlist.1.stop false) ∧ (r.list.1.err = 0 → r.list.2 = r.rlist.2) :=
 qrg r.pos 12 (r.to (r.pos + 1)) [] (by simp) (by simp) (by show r.pos + 1 ≤ r.s.size; omega)
theorem qhg {r : Rd} {c : Int} (h : r.pos < r.s.size) : isAt r.s r.pos c = decide (chr r.s r.pos = c) := by unfold isAt; rw [decide_eq_true h, Bool.true_and]
theorem qwn {r : Rd} : r.wtxt.size = r.wraw.size := by
 unfold Rd.wtxt upS Go.Lib.toUpperA Rd.wraw
 show (List.toArray (List.map _ _)).size = _
 rw [List.size_toArray, List.length_map]; rfl
theorem qyl {r : Rd} (h : r.pos < r.s.size) (he : r.err = 0) : r.partR.sim r.rpart.1 ∧ (r.partR.err = 0 → r.partV = r.rpart.2) := by
 have L1 := qrh h
 have w := qhf (r := r) (by omega)
 unfold Rd.partR Rd.partV Rd.rpart
 rw [qhg h, qhg h, qhg h]
 by_cases c1 : chr r.s r.pos = 40
 ·have c2 : ¬ chr r.s r.pos = 41 := by omega
  simp only [c1, c2, decide_true, if_true, if_false, show ¬ (40 : Int) = 41 by decide]
  exact ⟨L1.1, fun h => by rw [L1.2 h]⟩
 ·by_cases c2 : chr r.s r.pos = 41
  ·simp only [c1, c2, decide_true, decide_false, if_true, if_false, show ¬ (41 : Int) = 40 by decide, Bool.false_eq_true]
   exact ⟨.rfl' _, fun h => trivial⟩
  ·by_cases c3 : chr r.s r.pos = 39
   ·simp only [c1, c2, c3, decide_true, decide_false, if_true, if_false, show ¬ (39 : Int) = 40 by decide, show ¬ (39 : Int) = 41 by decide, Bool.false_eq_true]
    have hi : isAt r.s r.pos 39 = true := by rw [qhg h]; simp [c3]
    rw [q2n hi]
    refine ⟨.rfl' _, fun _ => ?_⟩
    unfold Rd.valV Rd.is
    rw [if_pos hi]
   ·simp only [c1, c2, c3, decide_false, if_false, Bool.false_eq_true]
    have hi : isAt r.s r.pos 39 = false := by rw [qhg h]; simp [c3]
    have hv : r.valV = ⟨0, r.wtxt⟩ := by unfold Rd.valV Rd.is; rw [if_neg (by rw [hi]; decide)]
    by_cases c4 : isAt r.s r.word.pos 40 = true
    ·have c5 : r.word.pos < r.word.s.size := qtf c4
     have L2 := qrh c5
     rw [if_neg (by rw [c4]; decide), if_pos c4]
     by_cases nm : q0r r.wtxt = true
     ·rw [if_neg (by rw [nm]; decide), if_pos nm, if_neg (by rw [c4]; decide), if_neg (by rw [nm]; decide)]
      exact ⟨L2.1, fun h => by rw [L2.2 h]⟩
     ·rw [Bool.not_eq_true] at nm
      rw [if_pos nm, if_neg (by rw [nm]; decide), if_neg (by rw [c4]; decide), if_pos nm]
      refine ⟨.rfl' _, fun h => ?_⟩
      rw [qey (r := r.word) he] at h; cases h
    ·rw [if_neg c4]
     rw [Bool.not_eq_true] at c4
     rw [if_pos c4, if_pos c4, hv]
     refine ⟨?_, fun _ => rfl⟩
     unfold Rd.valR Rd.is
     rw [if_neg (by rw [hi]; decide), qwn]
     exact .rfl' _
theorem qmy (op : Nat) : ∀ (n : Nat) (r : Rd) (out : List CVal), (lrun op n r out).1.s = r.s
 | 0, r, out => rfl
 | n + 1, r, out => by
   unfold lrun
   split
   ·split
    ·rfl
    ·split
     ·rfl
     ·rw [qmy op n, qb3, qb8, qee]
   ·split
    ·rfl
    ·split
     ·rw [qb8]; rfl
     ·split
      ·rw [qb8]; rfl
      ·rw [qb8]; rfl
theorem qri (op : Nat) : ∀ (n : Nat) (r : Rd) (out : List CVal), r.pos ≤ r.s.size → (lrun op n r out).1.pos ≤ r.s.size + 1 ∧ ((lrun op n r out).1.err = 0 → (lrun op n r out).1.pos ≤ r.s.size)
 | 0, r, out, h => ⟨by unfold lrun; simp only; omega, fun _ => h⟩
 | n + 1, r, out, h => by
   unfold lrun
   split
   ·rename_i c
    split
    ·exact ⟨by simp only [qen]; omega, fun _ => h⟩
    ·split
     ·exact ⟨by simp only [qen]; omega, fun _ => h⟩
     ·have hv := qlr h
      have hb := qfn (r := r.valR.stop true) (by rw [qeo, qb8, qee]; exact hv.2)
      have := qri op n (r.valR.stop true).blanks (out ++ [r.valV]) (by rw [qb3]; exact hb.2)
      rw [qb3, qb8, qee] at this
      exact this
   ·rename_i c
    split
    ·exact ⟨by simp only; omega, fun _ => h⟩
    ·rename_i e
     have e : r.err = 0 := by simpa using e
     split
     ·refine ⟨by simp only [qeo, qmv]; omega, fun k => ?_⟩
      rw [qey e] at k
      rw [qf2 (by show ¬ (8 : Int) = 0; decide)] at k
      cases k
     ·split
      ·refine ⟨by simp only [qeo, qmv]; omega, fun k => ?_⟩
       rw [qey e] at k
       rw [qf2 (by show ¬ (1 : Int) = 0; decide)] at k
       cases k
      ·exact ⟨by simp only [qeo, qmv]; omega, fun _ => by simp only [qeo, qmv]; omega⟩
theorem qrj {r : Rd} (h : r.pos < r.s.size) : r.list.1.s = r.s ∧ r.list.1.pos ≤ r.s.size + 1 ∧ (r.list.1.err = 0 → r.list.1.pos ≤ r.s.size) := by
 have hb := qfn (r := r.to (r.pos + 1)) (by show r.pos + 1 ≤ r.s.size; omega)
 exact ⟨qmy _ _ _ _, qri r.pos 12 (r.to (r.pos + 1)).blanks [] hb.2⟩
theorem qwo {r : Rd} (h : r.pos < r.s.size) : r.partR.s = r.s ∧ r.partR.pos ≤ r.s.size + 1 ∧ (r.partR.err = 0 → r.partR.pos ≤ r.s.size) := by
 have w := qhf (r := r) (by omega)
 have v := qlr (r := r) (by omega)
 unfold Rd.partR
 split
 ·exact qrj h
 ·split
  ·exact ⟨rfl, by simp only [qen]; omega, fun _ => by simp only [qen]; omega⟩
  ·split
   ·rw [qb8, qeo, qee]; exact ⟨rfl, by omega, fun _ => v.2⟩
   ·split
    ·rw [qb8, qeo, qee]; exact ⟨rfl, by omega, fun _ => v.2⟩
    ·rename_i k
     split
     ·exact ⟨rfl, by simp only [qen]; omega, fun _ => by simp only [qen]; omega⟩
     ·have := qrj (r := r.word) (qtf (c := 40) (show isAt r.s r.word.pos 40 = true by simpa using k))
      exact this
theorem qii {n : Nat} {r : Rd} {out : List CPart} (h : ¬ r.err = 0) : prun n r out = (r, out) := by
 cases n with
 | zero => rfl
 | succ n => unfold prun; rw [if_neg (fun k => h k.1)]
theorem qrk {n : Nat} {r : Rd} {out : List CPart} (h : ¬ r.err = 0) : qfo n r out = (r, out) := by
 cases n with
 | zero => rfl
 | succ n => unfold qfo; rw [if_neg h]
theorem qrl : ∀ (n : Nat) (r : Rd) (out : List CPart), r.pos ≤ r.s.size →
 (prun n r.blanks out).1.err = (qfo n r out).1.err ∧ (prun n r.blanks out).1.place = (qfo n r out).1.place ∧ ((prun n r.blanks out).1.err = 0 → (prun n r.blanks out).2 = (qfo n r out).2)
 | 0, r, out, h => ⟨rfl, rfl, fun _ => rfl⟩
 | n + 1, r, out, h => by
   have hb := qfn h
   by_cases e : r.err = 0
   ·unfold prun qfo
    rw [if_pos e]
    by_cases p : r.blanks.pos < r.s.size
    ·rw [if_pos p, if_pos ⟨e, by rw [qb3]; exact p⟩]
     by_cases f : out.length = 12
     ·rw [if_pos f, if_pos f]; exact ⟨rfl, rfl, fun _ => rfl⟩
     ·rw [if_neg f, if_neg f]
      obtain ⟨s1, s2⟩ := qyl (r := r.blanks) p e
      have pp := qwo (r := r.blanks) p
      by_cases z : r.blanks.partR.err = 0
      ·rw [← s1.eq z, ← s2 z]
       exact qrl n _ _ (by rw [pp.1]; exact pp.2.2 z)
      ·rw [qii (r := r.blanks.partR.blanks) z, qrk (r := r.blanks.rpart.1) (by rw [← s1.err]; exact z)]
       exact ⟨s1.err, s1.place, fun k => absurd k z⟩
    ·rw [if_neg p, if_neg (by rw [qb3]; omega)]
     exact ⟨rfl, rfl, fun _ => rfl⟩
   ·rw [qii (r := r.blanks) e, qrk e]
    exact ⟨rfl, rfl, fun k => absurd k e⟩
theorem qym (s : ByteArray) : qig s = qih s := by
 unfold qig qih
 split
 ·rfl
 ·split
  ·rfl
  ·have hb := qfn (r := rd0 s) (Nat.zero_le _)
   have hw := qhf (r := (rd0 s).blanks) hb.2
   have e0 : (rd0 s).blanks.err = 0 := rfl
   rw [show (rd0 s).s = s from rfl] at hb
   rw [show (rd0 s).blanks.s = s from rfl] at hw
   by_cases p : (rd0 s).blanks.pos < s.size
   ·conv => rhs; rw [if_neg (fun h => h p)]
    have c : ¬ (rd0 s).blanks.pos = (rd0 s).s.size := by show ¬ (rd0 s).blanks.pos = s.size; omega
    rw [q4e c]
    by_cases st : (rd0 s).blanks.word.pos < s.size ∧ ¬ chr s (rd0 s).blanks.word.pos = 32
    ·conv => rhs; rw [if_pos st]
     have k : (rd0 s).blanks.word.stop false = (rd0 s).blanks.word.fail (rd0 s).blanks.word.pos 8 := qwm (by show ((rd0 s).blanks.word.pos : Int) < (s.size : Int); omega) (by
      show isAt s (rd0 s).blanks.word.pos 32 = false
      simp [isAt, st.2])
     have k2 : (rd0 s).nmR = ⟨s, (rd0 s).blanks.word.pos, (rd0 s).blanks.word.pos, 8⟩ := by
      unfold Rd.nmR
      rw [if_neg c, k, qey rfl]
      split
      ·rfl
      ·rw [qtg (by show ¬ (8 : Int) = 0; decide)]; rfl
     rw [k2, qii (by show ¬ (8 : Int) = 0; decide), if_pos (by show ¬ (8 : Int) = 0; decide)]
     rfl
    ·conv => rhs; rw [if_neg st]
     have k : (rd0 s).blanks.word.stop false = (rd0 s).blanks.word := qyj (by
      by_cases q : (rd0 s).blanks.word.pos < s.size
      ·right
       show isAt s (rd0 s).blanks.word.pos 32 = true
       have : chr s (rd0 s).blanks.word.pos = 32 := by
        by_cases z : chr s (rd0 s).blanks.word.pos = 32
        ·exact z
        ·exact absurd ⟨q, z⟩ st
       simp [isAt, q, this]
      ·left; show (s.size : Int) ≤ ((rd0 s).blanks.word.pos : Int); omega)
     by_cases nm : q0r (rd0 s).blanks.wtxt = false
     ·conv => rhs; rw [if_pos nm]
      have k2 : (rd0 s).nmR = ⟨s, (rd0 s).blanks.word.pos, (rd0 s).blanks.pos, 7⟩ := by rw [q4h c nm, k, qey rfl]; rfl
      rw [k2, qii (by show ¬ (7 : Int) = 0; decide), if_pos (by show ¬ (7 : Int) = 0; decide)]
      rfl
     ·conv => rhs; rw [if_neg nm]
      rw [q4g c (by simpa using nm), k]
      obtain ⟨h1, h2, h3⟩ := qrl 13 (rd0 s).blanks.word [] hw.2
      rw [h1, h2]
      split
      ·rfl
      ·rename_i z
       rw [h3 (by rw [h1]; simpa using z)]
   ·conv => rhs; rw [if_pos p]
    have c : (rd0 s).blanks.pos = (rd0 s).s.size := by show (rd0 s).blanks.pos = s.size; omega
    have k2 : (rd0 s).nmR = ⟨s, (rd0 s).blanks.pos, (rd0 s).blanks.pos, 1⟩ := by rw [q4f c, qey rfl]; rfl
    rw [k2, qii (by show ¬ (1 : Int) = 0; decide), if_pos (by show ¬ (1 : Int) = 0; decide)]
    show (qfm, ((rd0 s).blanks.pos : Int), (1 : Int)) = _
    rw [c]; rfl
theorem q68 {s : ByteArray} : (rd0 s).s = s := rfl
theorem eta0 (s : ByteArray) : (⟨s, 0, 0, 0⟩ : Rd) = rd0 s := rfl
theorem q4i {r : Rd} : r.nmR.s = r.s := by
 unfold Rd.nmR
 split
 ·rfl
 ·split
  ·rw [qb8]; rfl
  ·show (Rd.stop _ _).s = _; rw [qb8]; rfl
theorem q00w {r : Rd} : r.partR.s = r.s := by
 unfold Rd.partR
 split
 ·exact qmy _ _ _ _
 ·split
  ·rfl
  ·split
   ·rw [qb8, qee]
   ·split
    ·rw [qb8, qee]
    ·split
     ·rfl
     ·exact qmy _ _ _ _
theorem etaN (s : ByteArray) : (⟨s, (rd0 s).nmR.pos, (rd0 s).nmR.place, (rd0 s).nmR.err⟩ : Rd) = (rd0 s).nmR := by
 have : s = (rd0 s).nmR.s := by rw [q4i]; rfl
 conv => lhs; rw [show (⟨s, (rd0 s).nmR.pos, (rd0 s).nmR.place, (rd0 s).nmR.err⟩ : Rd) = ⟨(rd0 s).nmR.s, (rd0 s).nmR.pos, (rd0 s).nmR.place, (rd0 s).nmR.err⟩ from by rw [← this]]
theorem etaP (r : Rd) : (⟨r.s, r.partR.pos, r.partR.place, r.partR.err⟩ : Rd) = r.partR := by
 conv => lhs; rw [← q00w (r := r)]
theorem q5y (s : ByteArray) : idxP badC (qd4 s) = qmx s := rfl
section
variable {q : Rd} {out : List CPart} {L : Rd × List CPart} {n : Nat}
end
section
variable {op : Nat} {q : Rd} {out : List CVal} {L : Rd × List CVal}
end
def txt (l : List Int) : ByteArray := strD (l.map (D.i .u8))
theorem q5z (l : List Int) : (txt l).size = l.length := by
 show (List.toArray (List.map qvo (l.map (D.i .u8)))).size = _
 rw [List.size_toArray, List.length_map, List.length_map]
theorem toN1 (n : Nat) : ((n : Int) + 1).toNat = n + 1 := by omega
theorem toN2 (n : Nat) : ((n : Int) + 1 + 1).toNat = n + 1 + 1 := by omega
theorem ext1 {s : ByteArray} {i : Nat} (h : i < s.size) : (s.extract i (i + 1)).size = 1 := by rw [ByteArray.size_extract]; omega
theorem qth (op : Nat) : ∀ (n : Nat) (r : Rd) (out : List CVal), (qi7 op n r out).1.s = r.s
 | 0, r, out => rfl
 | n + 1, r, out => by
   unfold qi7
   split
   ·split
    ·split
     ·split <;> rfl
     ·split
      ·rfl
      ·split
       ·rfl
       ·rw [qth op n, qb8, qee]; rfl
    ·rfl
   ·rfl
theorem qod {r : Rd} : r.rlist.1.s = r.s := qth _ _ _ _
theorem etaL (r : Rd) : (⟨r.s, r.rlist.1.pos, r.rlist.1.place, r.rlist.1.err⟩ : Rd) = r.rlist.1 := by conv => lhs; rw [← qod (r := r)]
theorem q00x {r : Rd} : r.rpart.1.s = r.s := by
 unfold Rd.rpart
 split
 ·rfl
 ·split
  ·rw [qb8, qod]
  ·split
   ·rw [qb8, qrf]
   ·split
    ·split
     ·rw [qb8, qod]; rfl
     ·rfl
    ·rw [qb8]; split <;> rfl
theorem q69 (r : Rd) : (⟨r.s, r.rpart.1.pos, r.rpart.1.place, r.rpart.1.err⟩ : Rd) = r.rpart.1 := by conv => lhs; rw [← q00x (r := r)]
theorem q7a (s : ByteArray) : (⟨s, (rd0 s).blanks.pos, (rd0 s).blanks.place, (rd0 s).blanks.err⟩ : Rd) = (rd0 s).blanks := rfl
theorem q7b (s : ByteArray) : (⟨s, (rd0 s).blanks.word.pos, (rd0 s).blanks.word.place, (rd0 s).blanks.word.err⟩ : Rd) = (rd0 s).blanks.word := rfl
section
variable {r : Rd}
end
section
variable {s : ByteArray}
end
def Rd.more (r : Rd) : Bool := decide (r.blanks.pos < r.s.size)
end Go.Ev
