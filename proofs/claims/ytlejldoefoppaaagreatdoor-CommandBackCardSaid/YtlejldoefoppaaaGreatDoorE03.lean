/- Tools and contracts under the laws of this seat: DevTy37, DevDec, DevData, DevPure, DevData37, DevRd37, DevRq37. -/
import Derived.Test.YtlejldoefoppaaaGreatDoorE02
import Derived.Test.YtlejldoefoppaaaGreatDoorProg
import Derived.KernelRfl
import Derived.Laws.Strings
import Derived.WideShapes
import Derived.Lib.Case
set_option linter.unusedVariables false
set_option linter.unusedSimpArgs false
namespace Go.Ev.Ty
open Go.Proofs
theorem sz3 : q0u Tryz.prog 3 = some 1 := by kernel_rfl
theorem ag3 : aggT Tryz.prog 3 = some false := by kernel_rfl
theorem zr3 : q08 Tryz.prog 3 = some [.i .i64 0] := by kernel_rfl
theorem zo3 : qc1 Tryz.prog 3 = some (.i .i64 0) := by kernel_rfl
theorem zd3 : zD Tryz.prog 3 = .i .i64 0 := by kernel_rfl
theorem by3 : qbv Tryz.prog 3 = some 8 := by kernel_rfl
theorem sl3 : q07 Tryz.prog 3 = false := by kernel_rfl
theorem st3 : qci Tryz.prog 3 = false := by kernel_rfl
theorem bo3 : qbz Tryz.prog 3 = false := by kernel_rfl
theorem pt3 : qcj Tryz.prog 3 = false := by kernel_rfl
theorem ck3 : ckT Tryz.prog 3 = .int .i64 := by kernel_rfl
theorem sz4 : q0u Tryz.prog 4 = some 1 := by kernel_rfl
theorem ag4 : aggT Tryz.prog 4 = some false := by kernel_rfl
theorem zr4 : q08 Tryz.prog 4 = some [.b false] := by kernel_rfl
theorem zo4 : qc1 Tryz.prog 4 = some (.b false) := by kernel_rfl
theorem zd4 : zD Tryz.prog 4 = .b false := by kernel_rfl
theorem by4 : qbv Tryz.prog 4 = some 1 := by kernel_rfl
theorem sl4 : q07 Tryz.prog 4 = false := by kernel_rfl
theorem st4 : qci Tryz.prog 4 = false := by kernel_rfl
theorem bo4 : qbz Tryz.prog 4 = true := by kernel_rfl
theorem pt4 : qcj Tryz.prog 4 = false := by kernel_rfl
theorem sz5 : q0u Tryz.prog 5 = some 1 := by kernel_rfl
theorem ag5 : aggT Tryz.prog 5 = some false := by kernel_rfl
theorem zr5 : q08 Tryz.prog 5 = some [.i .u8 0] := by kernel_rfl
theorem zo5 : qc1 Tryz.prog 5 = some (.i .u8 0) := by kernel_rfl
theorem zd5 : zD Tryz.prog 5 = .i .u8 0 := by kernel_rfl
theorem by5 : qbv Tryz.prog 5 = some 1 := by kernel_rfl
theorem sl5 : q07 Tryz.prog 5 = false := by kernel_rfl
theorem st5 : qci Tryz.prog 5 = false := by kernel_rfl
theorem bo5 : qbz Tryz.prog 5 = false := by kernel_rfl
theorem pt5 : qcj Tryz.prog 5 = false := by kernel_rfl
theorem ck5 : ckT Tryz.prog 5 = .int .u8 := by kernel_rfl
theorem sz9 : q0u Tryz.prog 9 = some 1 := by kernel_rfl
theorem ag9 : aggT Tryz.prog 9 = some false := by kernel_rfl
theorem zr9 : q08 Tryz.prog 9 = some [.s ⟨#[]⟩] := by kernel_rfl
theorem zo9 : qc1 Tryz.prog 9 = some (.s ⟨#[]⟩) := by kernel_rfl
theorem zd9 : zD Tryz.prog 9 = .s ⟨#[]⟩ := by kernel_rfl
theorem by9 : qbv Tryz.prog 9 = some 16 := by kernel_rfl
theorem sl9 : q07 Tryz.prog 9 = false := by kernel_rfl
theorem un9 : Tryz.prog.underlying 9 = some .string := by kernel_rfl
theorem st9 : qci Tryz.prog 9 = true := by kernel_rfl
theorem bo9 : qbz Tryz.prog 9 = false := by kernel_rfl
theorem pt9 : qcj Tryz.prog 9 = false := by kernel_rfl
theorem ck9 : ckT Tryz.prog 9 = .str := by kernel_rfl
theorem sz25 : q0u Tryz.prog 25 = some 1 := by kernel_rfl
theorem ag25 : aggT Tryz.prog 25 = some false := by kernel_rfl
theorem zr25 : q08 Tryz.prog 25 = some [.i .i64 0] := by kernel_rfl
theorem zo25 : qc1 Tryz.prog 25 = some (.i .i64 0) := by kernel_rfl
theorem zd25 : zD Tryz.prog 25 = .i .i64 0 := by kernel_rfl
theorem by25 : qbv Tryz.prog 25 = some 8 := by kernel_rfl
theorem sl25 : q07 Tryz.prog 25 = false := by kernel_rfl
theorem st25 : qci Tryz.prog 25 = false := by kernel_rfl
theorem bo25 : qbz Tryz.prog 25 = false := by kernel_rfl
theorem pt25 : qcj Tryz.prog 25 = false := by kernel_rfl
theorem ck25 : ckT Tryz.prog 25 = .int .i64 := by kernel_rfl
theorem sz31 : q0u Tryz.prog 31 = some 1 := by kernel_rfl
theorem ag31 : aggT Tryz.prog 31 = some false := by kernel_rfl
theorem zr31 : q08 Tryz.prog 31 = some [.nil] := by kernel_rfl
theorem zo31 : qc1 Tryz.prog 31 = some (.nil) := by kernel_rfl
theorem zd31 : zD Tryz.prog 31 = .nil := by kernel_rfl
theorem by31 : qbv Tryz.prog 31 = some 24 := by kernel_rfl
theorem el31 : qcb Tryz.prog 31 = some 70 := by kernel_rfl
theorem sl31 : q07 Tryz.prog 31 = true := by kernel_rfl
theorem un31 : Tryz.prog.underlying 31 = some (.slice 70) := by kernel_rfl
theorem st31 : qci Tryz.prog 31 = false := by kernel_rfl
theorem bo31 : qbz Tryz.prog 31 = false := by kernel_rfl
theorem pt31 : qcj Tryz.prog 31 = false := by kernel_rfl
theorem sz33 : q0u Tryz.prog 33 = some 2 := by kernel_rfl
theorem ag33 : aggT Tryz.prog 33 = some true := by kernel_rfl
theorem zr33 : q08 Tryz.prog 33 = some [.s ⟨#[]⟩, .nil] := by kernel_rfl
theorem zd33 : zD Tryz.prog 33 = .agg [.s ⟨#[]⟩, .nil] := by kernel_rfl
theorem by33 : qbv Tryz.prog 33 = some 40 := by kernel_rfl
theorem sl33 : q07 Tryz.prog 33 = false := by kernel_rfl
theorem st33 : qci Tryz.prog 33 = false := by kernel_rfl
theorem bo33 : qbz Tryz.prog 33 = false := by kernel_rfl
theorem pt33 : qcj Tryz.prog 33 = false := by kernel_rfl
theorem q7r : offT Tryz.prog 33 0 = some (0, 1) := by kernel_rfl
theorem q7s : qcm Tryz.prog 33 0 = some 9 := by kernel_rfl
theorem q7t : offT Tryz.prog 33 1 = some (1, 1) := by kernel_rfl
theorem q7u : qcm Tryz.prog 33 1 = some 31 := by kernel_rfl
theorem pl33 : qey Tryz.prog 33 = some [(0, 1), (1, 1)] := by kernel_rfl
theorem sz41 : q0u Tryz.prog 41 = some 1 := by kernel_rfl
theorem sz68 : q0u Tryz.prog 68 = some 1 := by kernel_rfl
theorem ag68 : aggT Tryz.prog 68 = some false := by kernel_rfl
theorem zr68 : q08 Tryz.prog 68 = some [.nil] := by kernel_rfl
theorem zo68 : qc1 Tryz.prog 68 = some (.nil) := by kernel_rfl
theorem zd68 : zD Tryz.prog 68 = .nil := by kernel_rfl
theorem by68 : qbv Tryz.prog 68 = some 24 := by kernel_rfl
theorem el68 : qcb Tryz.prog 68 = some 76 := by kernel_rfl
theorem sl68 : q07 Tryz.prog 68 = true := by kernel_rfl
theorem un68 : Tryz.prog.underlying 68 = some (.slice 76) := by kernel_rfl
theorem st68 : qci Tryz.prog 68 = false := by kernel_rfl
theorem bo68 : qbz Tryz.prog 68 = false := by kernel_rfl
theorem pt68 : qcj Tryz.prog 68 = false := by kernel_rfl
theorem sz70 : q0u Tryz.prog 70 = some 2 := by kernel_rfl
theorem ag70 : aggT Tryz.prog 70 = some true := by kernel_rfl
theorem zr70 : q08 Tryz.prog 70 = some [.s ⟨#[]⟩, .nil] := by kernel_rfl
theorem zd70 : zD Tryz.prog 70 = .agg [.s ⟨#[]⟩, .nil] := by kernel_rfl
theorem by70 : qbv Tryz.prog 70 = some 40 := by kernel_rfl
theorem sl70 : q07 Tryz.prog 70 = false := by kernel_rfl
theorem st70 : qci Tryz.prog 70 = false := by kernel_rfl
theorem bo70 : qbz Tryz.prog 70 = false := by kernel_rfl
theorem pt70 : qcj Tryz.prog 70 = false := by kernel_rfl
theorem q7v : offT Tryz.prog 70 0 = some (0, 1) := by kernel_rfl
theorem q7w : qcm Tryz.prog 70 0 = some 9 := by kernel_rfl
theorem q7x : offT Tryz.prog 70 1 = some (1, 1) := by kernel_rfl
theorem q7y : qcm Tryz.prog 70 1 = some 68 := by kernel_rfl
theorem pl70 : qey Tryz.prog 70 = some [(0, 1), (1, 1)] := by kernel_rfl
theorem sz71 : q0u Tryz.prog 71 = some 1 := by kernel_rfl
theorem ag71 : aggT Tryz.prog 71 = some false := by kernel_rfl
theorem zr71 : q08 Tryz.prog 71 = some [.nil] := by kernel_rfl
theorem zo71 : qc1 Tryz.prog 71 = some (.nil) := by kernel_rfl
theorem zd71 : zD Tryz.prog 71 = .nil := by kernel_rfl
theorem by71 : qbv Tryz.prog 71 = some 24 := by kernel_rfl
theorem el71 : qcb Tryz.prog 71 = some 9 := by kernel_rfl
theorem sl71 : q07 Tryz.prog 71 = true := by kernel_rfl
theorem un71 : Tryz.prog.underlying 71 = some (.slice 9) := by kernel_rfl
theorem st71 : qci Tryz.prog 71 = false := by kernel_rfl
theorem bo71 : qbz Tryz.prog 71 = false := by kernel_rfl
theorem pt71 : qcj Tryz.prog 71 = false := by kernel_rfl
theorem sz76 : q0u Tryz.prog 76 = some 2 := by kernel_rfl
theorem ag76 : aggT Tryz.prog 76 = some true := by kernel_rfl
theorem zr76 : q08 Tryz.prog 76 = some [.i .i64 0, .s ⟨#[]⟩] := by kernel_rfl
theorem zd76 : zD Tryz.prog 76 = .agg [.i .i64 0, .s ⟨#[]⟩] := by kernel_rfl
theorem by76 : qbv Tryz.prog 76 = some 24 := by kernel_rfl
theorem sl76 : q07 Tryz.prog 76 = false := by kernel_rfl
theorem st76 : qci Tryz.prog 76 = false := by kernel_rfl
theorem bo76 : qbz Tryz.prog 76 = false := by kernel_rfl
theorem pt76 : qcj Tryz.prog 76 = false := by kernel_rfl
theorem q7z : offT Tryz.prog 76 0 = some (0, 1) := by kernel_rfl
theorem q70 : qcm Tryz.prog 76 0 = some 3 := by kernel_rfl
theorem q71 : offT Tryz.prog 76 1 = some (1, 1) := by kernel_rfl
theorem q72 : qcm Tryz.prog 76 1 = some 9 := by kernel_rfl
theorem pl76 : qey Tryz.prog 76 = some [(0, 1), (1, 1)] := by kernel_rfl
theorem ek76 : eqKs Tryz.prog 76 = some [.i, .s] := by kernel_rfl
theorem sz86 : q0u Tryz.prog 86 = some 1 := by kernel_rfl
theorem ag86 : aggT Tryz.prog 86 = some false := by kernel_rfl
theorem zr86 : q08 Tryz.prog 86 = some [.nil] := by kernel_rfl
theorem zo86 : qc1 Tryz.prog 86 = some (.nil) := by kernel_rfl
theorem zd86 : zD Tryz.prog 86 = .nil := by kernel_rfl
theorem by86 : qbv Tryz.prog 86 = some 24 := by kernel_rfl
theorem el86 : qcb Tryz.prog 86 = some 5 := by kernel_rfl
theorem sl86 : q07 Tryz.prog 86 = true := by kernel_rfl
theorem un86 : Tryz.prog.underlying 86 = some (.slice 5) := by kernel_rfl
theorem st86 : qci Tryz.prog 86 = false := by kernel_rfl
theorem bo86 : qbz Tryz.prog 86 = false := by kernel_rfl
theorem pt86 : qcj Tryz.prog 86 = false := by kernel_rfl
theorem ck86 : ckT Tryz.prog 86 = .bytes := by kernel_rfl
theorem sz97 : q0u Tryz.prog 97 = some 1 := by kernel_rfl
theorem ag97 : aggT Tryz.prog 97 = some false := by kernel_rfl
theorem zr97 : q08 Tryz.prog 97 = some [.np] := by kernel_rfl
theorem zo97 : qc1 Tryz.prog 97 = some (.np) := by kernel_rfl
theorem zd97 : zD Tryz.prog 97 = .np := by kernel_rfl
theorem by97 : qbv Tryz.prog 97 = some 8 := by kernel_rfl
theorem sl97 : q07 Tryz.prog 97 = false := by kernel_rfl
theorem st97 : qci Tryz.prog 97 = false := by kernel_rfl
theorem bo97 : qbz Tryz.prog 97 = false := by kernel_rfl
theorem pt97 : qcj Tryz.prog 97 = true := by kernel_rfl
theorem sz99 : q0u Tryz.prog 99 = some 4 := by kernel_rfl
theorem ag99 : aggT Tryz.prog 99 = some true := by kernel_rfl
theorem zr99 : q08 Tryz.prog 99 = some [.s ⟨#[]⟩, .i .i64 0, .i .i64 0, .i .i64 0] := by kernel_rfl
theorem zd99 : zD Tryz.prog 99 = .agg [.s ⟨#[]⟩, .i .i64 0, .i .i64 0, .i .i64 0] := by kernel_rfl
theorem by99 : qbv Tryz.prog 99 = some 40 := by kernel_rfl
theorem sl99 : q07 Tryz.prog 99 = false := by kernel_rfl
theorem st99 : qci Tryz.prog 99 = false := by kernel_rfl
theorem bo99 : qbz Tryz.prog 99 = false := by kernel_rfl
theorem pt99 : qcj Tryz.prog 99 = false := by kernel_rfl
theorem q73 : offT Tryz.prog 99 0 = some (0, 1) := by kernel_rfl
theorem q74 : qcm Tryz.prog 99 0 = some 9 := by kernel_rfl
theorem q75 : offT Tryz.prog 99 1 = some (1, 1) := by kernel_rfl
theorem q76 : qcm Tryz.prog 99 1 = some 3 := by kernel_rfl
theorem q77 : offT Tryz.prog 99 2 = some (2, 1) := by kernel_rfl
theorem q78 : qcm Tryz.prog 99 2 = some 3 := by kernel_rfl
theorem q79 : offT Tryz.prog 99 3 = some (3, 1) := by kernel_rfl
theorem q8a : qcm Tryz.prog 99 3 = some 25 := by kernel_rfl
theorem pl99 : qey Tryz.prog 99 = some [(0, 1), (1, 1), (2, 1), (3, 1)] := by kernel_rfl
theorem ek99 : eqKs Tryz.prog 99 = some [.s, .i, .i, .i] := by kernel_rfl
theorem qbbv : q0u Tryz.prog 103 = some 1 := by kernel_rfl
theorem qbbw : aggT Tryz.prog 103 = some false := by kernel_rfl
theorem qbbx : q08 Tryz.prog 103 = some [.np] := by kernel_rfl
theorem qbby : qc1 Tryz.prog 103 = some (.np) := by kernel_rfl
theorem qbbz : zD Tryz.prog 103 = .np := by kernel_rfl
theorem qbb0 : qbv Tryz.prog 103 = some 8 := by kernel_rfl
theorem qbb1 : q07 Tryz.prog 103 = false := by kernel_rfl
theorem qbb2 : qci Tryz.prog 103 = false := by kernel_rfl
theorem qbb3 : qbz Tryz.prog 103 = false := by kernel_rfl
theorem qbb4 : qcj Tryz.prog 103 = true := by kernel_rfl
theorem qbb5 : q0u Tryz.prog 105 = some 4 := by kernel_rfl
theorem qbb6 : aggT Tryz.prog 105 = some true := by kernel_rfl
theorem qbb7 : q08 Tryz.prog 105 = some [.s ⟨#[]⟩, .i .i64 0, .i .i64 0, .i .i64 0] := by kernel_rfl
theorem qbb8 : zD Tryz.prog 105 = .agg [.s ⟨#[]⟩, .i .i64 0, .i .i64 0, .i .i64 0] := by kernel_rfl
theorem qbb9 : qbv Tryz.prog 105 = some 40 := by kernel_rfl
theorem qbca : q07 Tryz.prog 105 = false := by kernel_rfl
theorem qbcb : qci Tryz.prog 105 = false := by kernel_rfl
theorem qbcc : qbz Tryz.prog 105 = false := by kernel_rfl
theorem qbcd : qcj Tryz.prog 105 = false := by kernel_rfl
theorem qbbn : offT Tryz.prog 105 0 = some (0, 1) := by kernel_rfl
theorem qbbo : qcm Tryz.prog 105 0 = some 9 := by kernel_rfl
theorem qbbp : offT Tryz.prog 105 1 = some (1, 1) := by kernel_rfl
theorem qbbq : qcm Tryz.prog 105 1 = some 3 := by kernel_rfl
theorem qbbr : offT Tryz.prog 105 2 = some (2, 1) := by kernel_rfl
theorem qbbs : qcm Tryz.prog 105 2 = some 3 := by kernel_rfl
theorem qbbt : offT Tryz.prog 105 3 = some (3, 1) := by kernel_rfl
theorem qbbu : qcm Tryz.prog 105 3 = some 3 := by kernel_rfl
theorem qbce : qey Tryz.prog 105 = some [(0, 1), (1, 1), (2, 1), (3, 1)] := by kernel_rfl
theorem qbcf : eqKs Tryz.prog 105 = some [.s, .i, .i, .i] := by kernel_rfl
theorem q9o : q0u Tryz.prog 139 = some 1 := by kernel_rfl
theorem q9p : aggT Tryz.prog 139 = some false := by kernel_rfl
theorem q9q : q08 Tryz.prog 139 = some [.nil] := by kernel_rfl
theorem q9r : qc1 Tryz.prog 139 = some (.nil) := by kernel_rfl
theorem q9s : zD Tryz.prog 139 = .nil := by kernel_rfl
theorem q9t : qbv Tryz.prog 139 = some 24 := by kernel_rfl
theorem q9u : qcb Tryz.prog 139 = some 25 := by kernel_rfl
theorem q9v : q07 Tryz.prog 139 = true := by kernel_rfl
theorem q9w : Tryz.prog.underlying 139 = some (.slice 25) := by kernel_rfl
theorem q9x : qci Tryz.prog 139 = false := by kernel_rfl
theorem q9y : qbz Tryz.prog 139 = false := by kernel_rfl
theorem q9z : qcj Tryz.prog 139 = false := by kernel_rfl
end Go.Ev.Ty
namespace Go.Ev
def decI (k : IntKind) : D → Option Int
 | .i k' n => if k' = k then some n else none
 | _ => none
def decS : D → Option ByteArray
 | .s x => some x
 | _ => none
def decM {α : Type} (f : D → Option α) : List D → Option (List α)
 | [] => some []
 | d :: l => match f d, decM f l with
   | some x, some r => some (x :: r)
   | _, _ => none
def decL {α : Type} (z : Nat) (f : D → Option α) : D → Option (List α)
 | .nil => some []
 | .sl z' l => if z' = z then decM f l else none
 | _ => none
theorem qt0 (k : IntKind) (n : Int) : decI k (D.i k n) = some n := by simp [decI]
theorem q2d (n : ByteArray) : decS (D.s n) = some n := rfl
theorem qh4 {k : IntKind} {d : D} {n : Int} (h : decI k d = some n) : dle d (D.i k n) := by
 unfold decI at h
 split at h
 ·split at h
  ·cases h; rename_i e; subst e; exact qbx _
  ·cases h
 ·cases h
theorem q5h {d : D} {n : ByteArray} (h : decS d = some n) : dle d (D.s n) := by
 unfold decS at h
 split at h
 ·cases h; exact qbx _
 ·cases h
theorem qnh {α : Type} {f : D → Option α} : decM f [] = some [] := rfl
theorem qlf {α : Type} {f : D → Option α} {d : D} {l : List D} : decM f (d :: l) = (match f d, decM f l with
 | some x, some r => some (x :: r)
 | _, _ => none) := rfl
theorem qkc {α : Type} {f : D → Option α} {g : α → D} (h : ∀ x, f (g x) = some x) : ∀ l : List α, decM f (l.map g) = some l
 | [] => rfl
 | x :: l => by simp [decM, h, qkc h l]
theorem qqe {α : Type} {f : D → Option α} {z z' : Nat} {l : List D} : decL z f (.sl z' l) = if z' = z then decM f l else none := rfl
theorem qgu {α : Type} {f : D → Option α} {g : α → D} {z : Nat} (h : ∀ x, f (g x) = some x) (l : List α) : decL z f (.sl z (l.map g)) = some l := by simp [decL, qkc h]
theorem qwc {α : Type} {f : D → Option α} {g : α → D} (h : ∀ {d x}, f d = some x → dle d (g x)) : ∀ {l : List D} {x : List α}, decM f l = some x → dles l (x.map g)
 | [], x, hl => by cases hl; simp [dles]
 | d :: l, x, hl => by
   unfold decM at hl
   split at hl
   ·rename_i a r h1 h2
    cases hl
    simp only [List.map_cons, dles]
    exact ⟨h h1, qwc h h2⟩
   ·cases hl
theorem qfo {α : Type} {f : D → Option α} {g : α → D} {z : Nat} (h : ∀ {d x}, f d = some x → dle d (g x)) {d : D} {x : List α} (hd : decL z f d = some x) : dle d (.sl z (x.map g)) := by
 unfold decL at hd
 split at hd
 ·cases hd; simp [dle]
 ·split at hd
  ·rename_i e
   subst e
   simp only [dle]
   exact ⟨trivial, qwc h hd⟩
  ·cases hd
 ·cases hd
theorem qqf (x y : ByteArray) : seq x y = true ↔ x = y := by
 unfold seq
 rw [beq_iff_eq, ByteArray.toList_eq, ByteArray.toList_eq]
 exact ⟨fun h => Go.WideShapes.bytes_inj h, fun h => by rw [h]⟩
theorem qqg (x y : ByteArray) : seq x y = decide (x = y) := by
 rw [Bool.eq_iff_iff, qqf, decide_eq_true_iff]
end Go.Ev
namespace Go.Ev
structure Change where
 file : ByteArray
 kind : Int
 rrn : Int
 before : ByteArray
 after : ByteArray
deriving DecidableEq
structure Entry where
 number : Int
 kind : Int
 unit : Int
 change : Change
deriving DecidableEq
end Go.Ev
namespace Go.Ev
def chr (s : ByteArray) (i : Nat) : Int := ((s.data.toList.getD i 0).toNat : Int)
def qkd (first : Bool) (c : Int) : Bool := (decide (65 ≤ c) && decide (c ≤ 90) || c == 35 || c == 36 || c == 64) || (!first && (c == 95 || c == 46 || decide (48 ≤ c) && decide (c ≤ 57)))
def q0k (s : ByteArray) : Bool := decide (1 ≤ s.size) && decide (s.size ≤ 10) && (List.range s.size).all fun i => qkd (i == 0) (chr s i)
theorem qxu (s : ByteArray) (k : Nat) : (qc2 s).getD k (.i .u8 0) = .i .u8 (chr s k) := by
 unfold qc2 chr
 simp only [List.getD, List.getElem?_map]
 cases s.data.toList[k]? <;> rfl
theorem qd6 (s : ByteArray) (i : Nat) : ((s.data.toList.getD i 0).toNat : Int) = chr s i := rfl
theorem qrm {s : ByteArray} {i : Nat} (h : i < s.size) (hc : qkd (i == 0) (chr s i) = false) : q0k s = false := by
 unfold q0k
 rw [Bool.and_eq_false_iff]
 right
 rw [List.all_eq_false]
 exact ⟨i, by simpa using h, by simp [hc]⟩
theorem qoq {s : ByteArray} (h1 : 1 ≤ s.size) (h2 : s.size ≤ 10) (h : ∀ j, j < s.size → qkd (j == 0) (chr s j) = true) : q0k s = true := by
 unfold q0k
 simp only [Bool.and_eq_true, decide_eq_true_eq, List.all_eq_true, List.mem_range]
 exact ⟨⟨h1, h2⟩, h⟩
theorem qor {s : ByteArray} (h : (s.size : Int) < 1 ∨ 10 < (s.size : Int)) : q0k s = false := by
 unfold q0k
 rw [Bool.and_eq_false_iff]
 left
 simp only [Bool.and_eq_false_iff, decide_eq_false_iff_not]
 omega
theorem qhh (i : Nat) (c : Int) : qkd (i == 0) c = true ↔ (((65 ≤ c ∧ c ≤ 90) ∨ c = 35 ∨ c = 36 ∨ c = 64) ∨ (i ≠ 0 ∧ (c = 95 ∨ c = 46 ∨ (48 ≤ c ∧ c ≤ 57)))) := by
 simp [qkd]
 omega
theorem qni (s : ByteArray) : s = ⟨#[]⟩ ↔ s.size = 0 := by
 constructor
 ·rintro rfl; rfl
 ·intro h
  cases s with | mk d => simp only [ByteArray.size, Array.size_eq_zero_iff] at h; rw [h]
def pEnd (u : Int) (e : Entry) : Bool := (e.kind == 2 || e.kind == 3) && e.unit == u
def q90 (l : List Entry) (u : Int) : Option Entry := l.find? (pEnd u)
def ends (l : List Entry) (u : Int) : Int := match q90 l u with | some e => e.kind | none => -1
section
variable {l : List Entry} {c : Int × Int} {i : Nat}
end
section
variable {l : List Entry} {u : Int} {i : Nat}
theorem qii {α : Type} {l : List α} {i : Nat} (z : α) (h : i < l.length) : l.getD i z ∈ l := by
 simp only [List.getD, List.getElem?_eq_getElem h, Option.getD_some]
 exact List.getElem_mem h
end
theorem qlg {α : Type} {a b : List α} {i : Nat} {z : α} (h : a.take i = b.take i) (ha : i < a.length) (hb : i < b.length) (he : a.getD i z = b.getD i z) : a.take (i + 1) = b.take (i + 1) := by
 rw [qrl z ha, qrl z hb, h, he]
theorem qm1 {α : Type} {a b : List α} {i : Nat} (h : a.take i = b.take i) (ha : a.length ≤ i) (hb : b.length ≤ i) : a = b := by
 rwa [List.take_of_length_le ha, List.take_of_length_le hb] at h
end Go.Ev
namespace Go.Ev
structure CVal where
 kind : Int
 text : ByteArray
deriving DecidableEq
def q0r (x : CVal) : D := .agg [.i .i64 x.kind, .s x.text]
def qbf : CVal := ⟨0, ⟨#[]⟩⟩
theorem qb6 (x : CVal) : (⟨x.kind, x.text⟩ : CVal) = x := rfl
def qbb : D → Option CVal
 | .agg [.i .i64 a0, .s a1] => some ⟨a0, a1⟩
 | _ => none
theorem qi7 (x : CVal) : qbb (q0r x) = some x := rfl
theorem qhz {d : D} {x : CVal} (h : qbb d = some x) : dle d (q0r x) := by
 unfold qbb at h
 split at h
 ·cases h; exact qbx _
 ·cases h
theorem qcu : (⟨0, ⟨#[]⟩⟩ : CVal) = qbf := rfl
theorem q5i {a0 b0 : Int} {a1 b1 : ByteArray} : qbq [.i, .s] [.i .i64 a0, .s a1] [.i .i64 b0, .s b1] = some (eqB (⟨a0, a1⟩ : CVal) ⟨b0, b1⟩) := by
 simp only [qbq, qhd, qqg, ↓reduceIte, Option.some.injEq, Bool.and_true]; rw [Bool.eq_iff_iff]; simp [eqB]
theorem qz4 (l : List CVal) (k : Nat) : (l.map q0r).getD k (q0r qbf) = q0r (l.getD k qbf) := by
 simp only [List.getD, List.getElem?_map]
 cases l[k]? <;> rfl
theorem qbd (l : List CVal) (k : Nat) : (l.map q0r).getD k (.agg [.i .i64 0, .s ⟨#[]⟩]) = q0r (l.getD k qbf) := qz4 l k
theorem qb7 (l : List CVal) : decL 2 qbb (.sl 2 (l.map q0r)) = some l := qgu qi7 l
theorem qb8 (l : List CVal) : decM qbb (l.map q0r) = some l := qkc qi7 l
structure CPart where
 keyword : ByteArray
 values : List CVal
deriving DecidableEq
def q0i (x : CPart) : D := .agg [.s x.keyword, .sl 2 (x.values.map q0r)]
def q0a : CPart := ⟨⟨#[]⟩, []⟩
theorem qdr (x : CPart) : (⟨x.keyword, x.values⟩ : CPart) = x := rfl
def qbn : D → Option CPart
 | .agg [.s a0, a1] => match (decL 2 qbb) a1 with
   | some b1 => some ⟨a0, b1⟩
   | _ => none
 | _ => none
theorem qlh (x : CPart) : qbn (q0i x) = some x := by
 simp [qbn, q0i, (qgu qi7)]
theorem qi8 {d : D} {x : CPart} (h : qbn d = some x) : dle d (q0i x) := by
 unfold qbn at h
 split at h
 ·split at h
  ·rename_i h1
   cases h
   simp only [dle, dles, q0i, and_true, true_and]
   exact (qfo qhz) h1
  ·cases h
 ·cases h
theorem qej : (⟨⟨#[]⟩, []⟩ : CPart) = q0a := rfl
theorem qds (l : List CPart) : decL 2 qbn (.sl 2 (l.map q0i)) = some l := qgu qlh l
theorem qdt (l : List CPart) : decM qbn (l.map q0i) = some l := qkc qlh l
structure CStr where
 name : ByteArray
 parts : List CPart
deriving DecidableEq
def q06 (x : CStr) : D := .agg [.s x.name, .sl 2 (x.parts.map q0i)]
def qe8 : CStr := ⟨⟨#[]⟩, []⟩
theorem qek (x : CStr) : (⟨x.name, x.parts⟩ : CStr) = x := rfl
def qbg : D → Option CStr
 | .agg [.s a0, a1] => match (decL 2 qbn) a1 with
   | some b1 => some ⟨a0, b1⟩
   | _ => none
 | _ => none
theorem qco {d : D} {x : CStr} (h : qbg d = some x) : dle d (q06 x) := by
 unfold qbg at h
 split at h
 ·split at h
  ·rename_i h1
   cases h
   simp only [dle, dles, q06, and_true, true_and]
   exact (qfo qi8) h1
  ·cases h
 ·cases h
theorem qev : (⟨⟨#[]⟩, []⟩ : CStr) = qe8 := rfl
structure CParam where
 keyword : ByteArray
 type_ : Int
 length : Int
 low : Int
 high : Int
 special : List ByteArray
 choices : List ByteArray
 most : Int
 required : Bool
 default : ByteArray
deriving DecidableEq
def qrn (x : CParam) : D := .agg [.s x.keyword, .i .i64 x.type_, .i .i64 x.length, .i .i64 x.low, .i .i64 x.high, .sl 1 (x.special.map D.s), .sl 1 (x.choices.map D.s), .i .i64 x.most, .b x.required, .s x.default]
structure CDep where
 control : Int
 value : ByteArray
 params : List Int
 least : Int
 most : Int
deriving DecidableEq
def qwd (x : CDep) : D := .agg [.i .i64 x.control, .s x.value, .sl 1 (x.params.map (D.i .i64)), .i .i64 x.least, .i .i64 x.most]
structure CDef where
 name : ByteArray
 params : List CParam
 positions : Int
 deps : List CDep
deriving DecidableEq
def q5j (x : CDef) : D := .agg [.s x.name, .sl 10 (x.params.map qrn), .i .i64 x.positions, .sl 5 (x.deps.map qwd)]
end Go.Ev
namespace Go.Ev
structure Rd where
 s : ByteArray
 pos : Nat
 place : Int
 err : Int
def qcd (s : ByteArray) (a p e : Int) : Option Rd := if 0 ≤ a then some ⟨s, a.toNat, p, e⟩ else none
theorem qh5 {s : ByteArray} {n : Nat} {p e : Int} : qcd s (n : Int) p e = some ⟨s, n, p, e⟩ := by unfold qcd; rw [if_pos (by omega)]; rfl
theorem qgv {s : ByteArray} {n : Nat} {p e : Int} : qcd s ((n : Int) + 1) p e = some ⟨s, n + 1, p, e⟩ := by unfold qcd; rw [if_pos (by omega)]; rfl
theorem qh6 {s : ByteArray} {p e : Int} : qcd s 0 p e = some ⟨s, 0, p, e⟩ := by unfold qcd; rw [if_pos (by omega)]; rfl
theorem qro {s : ByteArray} {a p e : Int} {r : Rd} (h : qcd s a p e = some r) : r.s = s ∧ (r.pos : Int) = a ∧ r.place = p ∧ r.err = e := by
 unfold qcd at h
 split at h
 ·cases h; exact ⟨rfl, Int.toNat_of_nonneg ‹_›, rfl, rfl⟩
 ·cases h
theorem qfg {t : TypeId} {s : ByteArray} {a p e : Int} {r : Rd} (h : qcd s a p e = some r) : ole (.bx t [.d (.s s), .d (.i .i64 a), .d (.i .i64 p), .d (.i .i64 e)]) (.bx t [.d (.s r.s), .d (.i .i64 (r.pos : Int)), .d (.i .i64 r.place), .d (.i .i64 r.err)]) := by
 obtain ⟨h1, h2, h3, h4⟩ := qro h
 rw [h1, h2, h3, h4]; exact q0y _
theorem q2e {s : ByteArray} {a p e : Int} {r : Rd} (h : qcd s a p e = some r) : dle (.cp [.s s, .i .i64 a, .i .i64 p, .i .i64 e]) (.cp [.s r.s, .i .i64 (r.pos : Int), .i .i64 r.place, .i .i64 r.err]) := by
 obtain ⟨h1, h2, h3, h4⟩ := qro h
 rw [h1, h2, h3, h4]; exact qbx _
def endC (c : Int) : Bool := decide (c = 32) || decide (c = 40) || decide (c = 41) || decide (c = 39)
def fP (e0 p0 p : Int) : Int := if e0 = 0 then p else p0
def fE (e0 e : Int) : Int := if e0 = 0 then e else e0
def Rd.fail (r : Rd) (p e : Int) : Rd := ⟨r.s, r.pos, fP r.err r.place p, fE r.err e⟩
def qbu (p : Int → Bool) (s : ByteArray) : Nat → Nat → Nat
 | 0, i => i
 | n + 1, i => if i < s.size ∧ p (chr s i) = true then qbu p s n (i + 1) else i
def skip (p : Int → Bool) (s : ByteArray) (i : Nat) : Nat := qbu p s s.size i
def isBl (c : Int) : Bool := decide (c = 32)
def Rd.blanks (r : Rd) : Rd := ⟨r.s, skip isBl r.s r.pos, r.place, r.err⟩
theorem qm2 {p : Int → Bool} {s : ByteArray} : ∀ (n i j : Nat), i ≤ j → j ≤ s.size → s.size - i ≤ n → (∀ k, i ≤ k → k < j → p (chr s k) = true) → (j = s.size ∨ p (chr s j) = false) → qbu p s n i = j
 | 0, i, j, h1, h2, h3, _, _ => by unfold qbu; omega
 | n + 1, i, j, h1, h2, h3, h4, h5 => by
   unfold qbu
   by_cases e : i = j
   ·subst e
    rw [if_neg]
    rintro ⟨k1, k2⟩
    rcases h5 with h5 | h5
    ·omega
    ·rw [h5] at k2; cases k2
   ·rw [if_pos ⟨by omega, h4 i (Nat.le_refl _) (by omega)⟩]
    exact qm2 n (i + 1) j (by omega) h2 (by omega) (fun k k1 k2 => h4 k (by omega) k2) h5
theorem qt1 {p : Int → Bool} {s : ByteArray} : ∀ (n i : Nat), s.size ≤ i → qbu p s n i = i
 | 0, i, _ => rfl
 | n + 1, i, h => by unfold qbu; rw [if_neg (by omega)]
theorem qt2 {p : Int → Bool} {s : ByteArray} {i : Nat} (h : s.size ≤ i) : skip p s i = i := qt1 _ _ h
theorem qqh {p : Int → Bool} {s : ByteArray} {i j : Nat} (h1 : i ≤ j) (h2 : j ≤ s.size) (h4 : ∀ k, i ≤ k → k < j → p (chr s k) = true) (h5 : j = s.size ∨ p (chr s j) = false) : skip p s i = j :=
 qm2 _ i j h1 h2 (by omega) h4 h5
def inW (c : Int) : Bool := !endC c
def upS (s : ByteArray) : ByteArray := ⟨(Go.Lib.toUpperA s.data.toList).toArray⟩
def asc (s : ByteArray) : Prop := s.size ≤ 400 ∧ ∀ b ∈ s.data.toList, b.toNat < 128
def Rd.wend (r : Rd) : Nat := skip inW r.s r.pos
def Rd.word (r : Rd) : Rd := ⟨r.s, r.wend, r.place, r.err⟩
def Rd.wtxt (r : Rd) : ByteArray := upS (r.s.extract r.pos r.wend)
theorem qi9 {s : ByteArray} (h : asc s) (i j : Nat) : (s.extract i j).size ≤ 140737488355328 ∧ ∀ b ∈ (s.extract i j).data.toList, b.toNat < 128 := by
 refine ⟨?_, fun b hb => h.2 b ?_⟩
 ·have := h.1
  simp only [ByteArray.size_extract]
  omega
 ·rw [ByteArray.data_extract, Array.toList_extract] at hb
  exact List.mem_of_mem_drop (List.mem_of_mem_take hb)
theorem qqi {c : Int} : inW c = true ↔ c ≠ 32 ∧ c ≠ 40 ∧ c ≠ 41 ∧ c ≠ 39 := by simp [inW, endC]; omega
theorem q5k {c : Int} : endC c = true ↔ inW c = false := by simp [inW]
theorem qt3 {c : Int} : isBl c = true ↔ c = 32 := by simp [isBl]
theorem qrp {q : Int → Bool} {s : ByteArray} {a i : Nat} (h : ∀ k, a ≤ k → k < i → q (chr s k) = true) (hi : q (chr s i) = true) : ∀ k, a ≤ k → k < i + 1 → q (chr s k) = true := fun k h1 h2 => by
 by_cases e : k < i
 ·exact h k h1 e
 ·have : k = i := by omega
  subst this; exact hi
def badC (c : Int) : Bool := decide (c < 32) || decide (126 < c)
def idxP (p : Int → Bool) (l : List Int) : Int := match l.findIdx? p with
 | some k => (k : Int)
 | none => -1
theorem qqj {p : Int → Bool} {l : List Int} {i : Nat} (hi : i < l.length) (h : p (l.getD i 0) = true) (hb : ∀ j, j < i → p (l.getD j 0) = false) : idxP p l = (i : Int) := by
 unfold idxP
 have : l.findIdx? p = some i := by
  rw [List.findIdx?_eq_some_iff_getElem]
  refine ⟨hi, by simpa [hi] using h, fun j hj => ?_⟩
  have := hb j hj
  have hjl : j < l.length := by omega
  simpa [hjl] using this
 rw [this]
theorem qjo {p : Int → Bool} {l : List Int} (hb : ∀ j, j < l.length → p (l.getD j 0) = false) : idxP p l = -1 := by
 unfold idxP
 have : l.findIdx? p = none := by
  rw [List.findIdx?_eq_none_iff]
  intro x hx
  obtain ⟨j, hj, rfl⟩ := List.getElem_of_mem hx
  have := hb j hj
  simpa [hj] using this
 rw [this]
theorem qnj (l : List Int) (k : Nat) : (l.map (D.i .u8)).getD k (.i .u8 0) = .i .u8 (l.getD k 0) := by
 simp only [List.getD, List.getElem?_map]
 cases l[k]? <;> rfl
def qrun (s : ByteArray) : Nat → Nat → List Int → Nat × List Int × Bool
 | 0, i, l => (i, l, false)
 | n + 1, i, l => if i < s.size then (if chr s i = 39 then (if i + 1 < s.size ∧ chr s (i + 1) = 39 then qrun s n (i + 2) (l ++ [39]) else (i + 1, l, true)) else qrun s n (i + 1) (l ++ [chr s i])) else (i, l, false)
theorem qiu {s : ByteArray} : ∀ (n m i : Nat) (l : List Int), s.size < i + n → s.size < i + m → qrun s n i l = qrun s m i l
 | 0, 0, i, l, _, _ => rfl
 | 0, m + 1, i, l, h, _ => by unfold qrun; rw [if_neg (by omega)]
 | n + 1, 0, i, l, _, h => by unfold qrun; rw [if_neg (by omega)]
 | n + 1, m + 1, i, l, h1, h2 => by
   unfold qrun
   rw [qiu n m (i + 2) (l ++ [39]) (by omega) (by omega), qiu n m (i + 1) (l ++ [chr s i]) (by omega) (by omega)]
def qq (s : ByteArray) (i : Nat) (l : List Int) : Nat × List Int × Bool := qrun s (s.size + 1) i l
theorem qmc {s : ByteArray} {i : Nat} {l : List Int} : qq s i l = if i < s.size then (if chr s i = 39 then (if i + 1 < s.size ∧ chr s (i + 1) = 39 then qq s (i + 2) (l ++ [39]) else (i + 1, l, true)) else qq s (i + 1) (l ++ [chr s i])) else (i, l, false) := by
 conv => lhs; unfold qq qrun
 unfold qq
 rw [qiu s.size (s.size + 1) (i + 2) (l ++ [39]) (by omega) (by omega), qiu s.size (s.size + 1) (i + 1) (l ++ [chr s i]) (by omega) (by omega)]
theorem q8b {s : ByteArray} {i : Nat} {l : List Int} (h : s.size ≤ i) : qq s i l = (i, l, false) := by rw [qmc, if_neg (by omega)]
theorem qwe {s : ByteArray} {i : Nat} {l : List Int} (h : i < s.size) (k : ¬ chr s i = 39) : qq s i l = qq s (i + 1) (l ++ [chr s i]) := by rw [qmc, if_pos h, if_neg k]
theorem qz5 {s : ByteArray} {i : Nat} {l : List Int} (h : i + 1 < s.size) (k : chr s i = 39) (k2 : chr s (i + 1) = 39) : qq s i l = qq s (i + 2) (l ++ [39]) := by rw [qmc, if_pos (by omega), if_pos k, if_pos ⟨h, k2⟩]
theorem qwf {s : ByteArray} {i : Nat} {l : List Int} (h : i < s.size) (k : chr s i = 39) (k2 : ¬ (i + 1 < s.size ∧ chr s (i + 1) = 39)) : qq s i l = (i + 1, l, true) := by rw [qmc, if_pos h, if_pos k, if_neg k2]
def Rd.to (r : Rd) (i : Nat) : Rd := ⟨r.s, i, r.place, r.err⟩
def Rd.qres (r : Rd) : Nat × List Int × Bool := qq r.s (r.pos + 1) []
def Rd.qval (r : Rd) : CVal := if r.qres.2.2 = true then ⟨1, strD (r.qres.2.1.map (D.i .u8))⟩ else qbf
def Rd.quoted (r : Rd) : Rd := if r.qres.2.2 = true then (if 64 < r.qres.2.1.length then (r.to r.qres.1).fail r.pos 2 else r.to r.qres.1) else (r.to r.qres.1).fail r.s.size 8
def qnx (s : ByteArray) (p : Nat × List Int) : Nat × List Int := if chr s p.1 = 39 then (p.1 + 2, p.2 ++ [39]) else (p.1 + 1, p.2 ++ [chr s p.1])
theorem q5l {s : ByteArray} {p : Nat × List Int} (h : chr s p.1 = 39) : qnx s p = (p.1 + 2, p.2 ++ [39]) := if_pos h
theorem q5m {s : ByteArray} {p : Nat × List Int} (h : ¬ chr s p.1 = 39) : qnx s p = (p.1 + 1, p.2 ++ [chr s p.1]) := if_neg h
theorem q2f (l : List Int) : (l.map (D.i .u8)).all isU8 = true := by
 rw [List.all_map, List.all_eq_true]; intro x _; rfl
theorem qdu {α : Type} (l : List α) (n : Nat) (h : n = l.length) : l.take n = l := by subst h; exact List.take_length
theorem qos (r : Rd) : (⟨r.s, r.pos, r.place, r.err⟩ : Rd) = r := rfl
theorem qz6 {r : Rd} {p e : Int} : (r.fail p e).s = r.s := rfl
theorem qfh {r : Rd} {p e : Int} : (r.fail p e).pos = r.pos := rfl
theorem qhi {r : Rd} : r.word.s = r.s := rfl
theorem qot {r : Rd} {i : Nat} : (r.to i).pos = i := rfl
theorem qhb {p : Int → Bool} {s : ByteArray} : ∀ (n i : Nat), i ≤ s.size → i ≤ qbu p s n i ∧ qbu p s n i ≤ s.size
 | 0, i, h => ⟨Nat.le_refl _, h⟩
 | n + 1, i, h => by
   unfold qbu
   split
   ·have := qhb (p := p) (s := s) n (i + 1) (by omega); omega
   ·exact ⟨Nat.le_refl _, h⟩
theorem qed {r : Rd} (h : r.pos ≤ r.s.size) : r.pos ≤ r.word.pos ∧ r.word.pos ≤ r.s.size := qhb _ _ h
theorem qba {r : Rd} : r.blanks.s = r.s := rfl
theorem qce {r : Rd} (h : r.pos ≤ r.s.size) : r.pos ≤ r.blanks.pos ∧ r.blanks.pos ≤ r.s.size := qhb _ _ h
theorem qnk {s : ByteArray} : ∀ (n i : Nat) (l : List Int), i ≤ s.size → i ≤ (qrun s n i l).1 ∧ (qrun s n i l).1 ≤ s.size
 | 0, i, l, h => ⟨Nat.le_refl _, h⟩
 | n + 1, i, l, h => by
   unfold qrun
   split
   ·split
    ·split
     ·have := qnk (s := s) n (i + 2) (l ++ [39]) (by omega); omega
     ·exact ⟨by simp, by simp; omega⟩
    ·have := qnk (s := s) n (i + 1) (l ++ [chr s i]) (by omega); omega
   ·exact ⟨Nat.le_refl _, h⟩
theorem qcg {r : Rd} : r.quoted.s = r.s := by
 unfold Rd.quoted; split
 ·split
  ·exact qz6
  ·rfl
 ·exact qz6
theorem qou {r : Rd} (h : r.pos < r.s.size) : r.pos < r.quoted.pos ∧ r.quoted.pos ≤ r.s.size := by
 have q := qnk (s := r.s) (r.s.size + 1) (r.pos + 1) [] (by omega)
 have e : r.quoted.pos = r.qres.1 := by
  unfold Rd.quoted; split
  ·split
   ·exact qfh
   ·rfl
  ·exact qfh
 rw [e]; exact ⟨by unfold Rd.qres qq; omega, q.2⟩
def isAt (s : ByteArray) (i : Nat) (c : Int) : Bool := decide (i < s.size) && decide (chr s i = c)
def Rd.is (r : Rd) (c : Int) : Bool := isAt r.s r.pos c
def Rd.stop (r : Rd) (op : Bool) : Rd := if (decide (r.pos < r.s.size) && !r.is 32 && !(op && r.is 41)) = true then r.fail r.pos 8 else r
def Rd.valV (r : Rd) : CVal := if r.is 39 = true then r.qval else ⟨0, r.wtxt⟩
def Rd.valR (r : Rd) : Rd := if r.is 39 = true then r.quoted else if 64 < r.wtxt.size then r.word.fail r.pos 2 else r.word
theorem qf0 {r : Rd} {op : Bool} (h : ((r.pos : Int) < (r.s.size : Int) ∧ isAt r.s r.pos 32 = false) ∧ (op = false ∨ isAt r.s r.pos 41 = false)) : r.stop op = r.fail r.pos 8 := by
 unfold Rd.stop Rd.is
 rw [if_pos]
 obtain ⟨⟨h1, h2⟩, h3⟩ := h
 rw [h2, decide_eq_true (by omega : r.pos < r.s.size)]
 rcases h3 with h3 | h3 <;> rw [h3] <;> simp
theorem qgw {r : Rd} {op : Bool} (h : ((r.s.size : Int) ≤ (r.pos : Int) ∨ isAt r.s r.pos 32 = true) ∨ op = true ∧ isAt r.s r.pos 41 = true) : r.stop op = r := by
 unfold Rd.stop Rd.is
 rw [if_neg]
 rcases h with (h | h) | ⟨h, k⟩
 ·rw [decide_eq_false (by omega : ¬ r.pos < r.s.size)]; simp
 ·rw [h]; simp
 ·rw [h, k]; simp
theorem qt4 {r : Rd} (h : isAt r.s r.pos 39 = true) : r.valR = r.quoted := by unfold Rd.valR Rd.is; rw [if_pos h]
theorem qz7 {r : Rd} (h : isAt r.s r.pos 39 = false) (k : 64 < r.wtxt.size) : r.valR = r.word.fail r.pos 2 := by unfold Rd.valR Rd.is; rw [if_neg (by rw [h]; decide), if_pos k]
theorem qz8 {r : Rd} (h : isAt r.s r.pos 39 = false) (k : ¬ 64 < r.wtxt.size) : r.valR = r.word := by unfold Rd.valR Rd.is; rw [if_neg (by rw [h]; decide), if_neg k]
theorem etaB (r : Rd) : (⟨r.s, r.blanks.pos, r.blanks.place, r.blanks.err⟩ : Rd) = r.blanks := rfl
theorem etaW (r : Rd) : (⟨r.s, r.word.pos, r.word.place, r.word.err⟩ : Rd) = r.word := rfl
def Rd.nmT (r : Rd) : ByteArray := if r.blanks.pos = r.s.size then ⟨#[]⟩ else r.blanks.wtxt
def Rd.nmR (r : Rd) : Rd := if r.blanks.pos = r.s.size then r.blanks.fail r.blanks.pos 1 else if q0k r.blanks.wtxt = true then r.blanks.word.stop false else (r.blanks.word.stop false).fail r.blanks.pos 7
theorem q91 {r : Rd} (h : r.blanks.pos = r.s.size) : r.nmT = ⟨#[]⟩ := if_pos h
theorem qsr {r : Rd} (h : ¬ r.blanks.pos = r.s.size) : r.nmT = r.blanks.wtxt := if_neg h
theorem qxv {r : Rd} (h : r.blanks.pos = r.s.size) : r.nmR = r.blanks.fail r.blanks.pos 1 := if_pos h
theorem qxw {r : Rd} (h : ¬ r.blanks.pos = r.s.size) (k : q0k r.blanks.wtxt = true) : r.nmR = r.blanks.word.stop false := by unfold Rd.nmR; rw [if_neg h, if_pos k]
theorem qxx {r : Rd} (h : ¬ r.blanks.pos = r.s.size) (k : q0k r.blanks.wtxt = false) : r.nmR = (r.blanks.word.stop false).fail r.blanks.pos 7 := by unfold Rd.nmR; rw [if_neg h, if_neg (by rw [k]; decide)]
theorem qhj {r : Rd} (h : (r.pos : Int) < (r.s.size : Int)) (k : isAt r.s r.pos 32 = false) : r.stop false = r.fail r.pos 8 := qf0 ⟨⟨h, k⟩, .inl rfl⟩
theorem qgx {r : Rd} (h : (r.s.size : Int) ≤ (r.pos : Int) ∨ isAt r.s r.pos 32 = true) : r.stop false = r := qgw (.inl h)
def lrun (op : Nat) : Nat → Rd → List CVal → Rd × List CVal
 | 0, r, out => (r, out)
 | n + 1, r, out => if r.err = 0 ∧ r.pos < r.s.size ∧ isAt r.s r.pos 41 = false then
     (if out.length = 10 then (r.fail r.pos 2, []) else if isAt r.s r.pos 40 = true then (r.fail r.pos 8, []) else lrun op n (r.valR.stop true).blanks (out ++ [r.valV]))
   else if ¬ r.err = 0 then (r, [])
   else if r.pos = r.s.size then (((r.fail r.pos 8).to (r.pos + 1)).stop false, out)
   else if out = [] then (((r.fail op 1).to (r.pos + 1)).stop false, out)
   else ((r.to (r.pos + 1)).stop false, out)
def Rd.list (r : Rd) : Rd × List CVal := lrun r.pos 12 (r.to (r.pos + 1)).blanks []
theorem qbk {r : Rd} {op : Bool} : (r.stop op).s = r.s := by unfold Rd.stop; split <;> rfl
theorem qcy {r : Rd} {op : Bool} : (r.stop op).pos = r.pos := by unfold Rd.stop; split <;> rfl
theorem qb2 {r : Rd} : r.valR.s = r.s := by
 unfold Rd.valR; split
 ·exact qcg
 ·split <;> rfl
theorem qgy {r : Rd} (h : r.pos ≤ r.s.size) : r.pos ≤ r.valR.pos ∧ r.valR.pos ≤ r.s.size := by
 unfold Rd.valR
 split
 ·rename_i h1
  unfold Rd.is isAt at h1
  rw [Bool.and_eq_true, decide_eq_true_eq] at h1
  have := qou h1.1
  omega
 ·split
  ·exact qed h
  ·exact qed h
theorem etaS (r : Rd) (op : Bool) : (⟨r.s, (r.valR.stop op).pos, (r.valR.stop op).place, (r.valR.stop op).err⟩ : Rd) = r.valR.stop op := by
 have : r.s = (r.valR.stop op).s := by rw [qbk, qb2]
 rw [this]
theorem qd7 {q : Rd} (h : (q.pos : Int) + 1 < (q.s.size : Int) ∧ isAt q.s (q.pos + 1) 32 = false) : (q.to (q.pos + 1)).stop false = (q.to (q.pos + 1)).fail ((q.pos : Int) + 1) 8 :=
 qhj (r := q.to (q.pos + 1)) (by show ((q.pos + 1 : Nat) : Int) < _; have := h.1; show ((q.pos + 1 : Nat) : Int) < (q.s.size : Int); omega) h.2
theorem qeq {q : Rd} (h : (q.s.size : Int) ≤ (q.pos : Int) + 1 ∨ isAt q.s (q.pos + 1) 32 = true) : (q.to (q.pos + 1)).stop false = q.to (q.pos + 1) :=
 qgx (r := q.to (q.pos + 1)) (h.imp (fun h => by show (q.s.size : Int) ≤ ((q.pos + 1 : Nat) : Int); omega) id)
theorem qiv {q : Rd} {a b : Int} (h : (q.pos : Int) + 1 < (q.s.size : Int) ∧ isAt q.s (q.pos + 1) 32 = false) : ((q.fail a b).to (q.pos + 1)).stop false = ((q.fail a b).to (q.pos + 1)).fail ((q.pos : Int) + 1) 8 := qd7 (q := q.fail a b) h
theorem qke {q : Rd} {a b : Int} (h : (q.s.size : Int) ≤ (q.pos : Int) + 1 ∨ isAt q.s (q.pos + 1) 32 = true) : ((q.fail a b).to (q.pos + 1)).stop false = (q.fail a b).to (q.pos + 1) := qeq (q := q.fail a b) h
section
variable {op : Nat} {q : Rd} {out : List CVal} {L : Rd × List CVal}
theorem q5n (e : L = lrun op (12 - out.length) q out) (hl : out.length ≤ 10) (c : (q.err = 0 ∧ (q.pos : Int) < (q.s.size : Int)) ∧ isAt q.s q.pos 41 = false) (k : (out.length : Int) = 10) : L = (q.fail q.pos 2, []) := by
 rw [e, show 12 - out.length = (11 - out.length) + 1 by omega]
 unfold lrun
 rw [if_pos ⟨c.1.1, by omega, c.2⟩, if_pos (by omega)]
theorem q5o (e : L = lrun op (12 - out.length) q out) (hl : out.length ≤ 10) (c : (q.err = 0 ∧ (q.pos : Int) < (q.s.size : Int)) ∧ isAt q.s q.pos 41 = false) (k : ¬ (out.length : Int) = 10) (k2 : isAt q.s q.pos 40 = true) : L = (q.fail q.pos 8, []) := by
 rw [e, show 12 - out.length = (11 - out.length) + 1 by omega]
 unfold lrun
 rw [if_pos ⟨c.1.1, by omega, c.2⟩, if_neg (by omega), if_pos k2]
theorem q5p (e : L = lrun op (12 - out.length) q out) (hl : out.length ≤ 10) (c : (q.err = 0 ∧ (q.pos : Int) < (q.s.size : Int)) ∧ isAt q.s q.pos 41 = false) (k : ¬ (out.length : Int) = 10) (k2 : isAt q.s q.pos 40 = false) :
 L = lrun op (12 - (out ++ [q.valV]).length) (q.valR.stop true).blanks (out ++ [q.valV]) := by
 rw [e, show 12 - out.length = (11 - out.length) + 1 by omega, show 12 - (out ++ [q.valV]).length = 11 - out.length by rw [List.length_append, List.length_singleton]; omega]
 conv => lhs; unfold lrun
 rw [if_pos ⟨c.1.1, by omega, c.2⟩, if_neg (by omega), if_neg (by rw [k2]; decide)]
theorem qss (c : (¬ q.err = 0 ∨ (q.s.size : Int) ≤ (q.pos : Int)) ∨ isAt q.s q.pos 41 = true) : ¬ (q.err = 0 ∧ q.pos < q.s.size ∧ isAt q.s q.pos 41 = false) := by
 rintro ⟨h1, h2, h3⟩
 rcases c with (c | c) | c
 ·exact c h1
 ·omega
 ·rw [c] at h3; cases h3
theorem qz9 (e : L = lrun op (12 - out.length) q out) (hl : out.length ≤ 10) (c : (¬ q.err = 0 ∨ (q.s.size : Int) ≤ (q.pos : Int)) ∨ isAt q.s q.pos 41 = true) (k : ¬ q.err = 0) : L = (q, []) := by
 rw [e, show 12 - out.length = (11 - out.length) + 1 by omega]
 unfold lrun
 rw [if_neg (qss c), if_pos k]
theorem q8c (e : L = lrun op (12 - out.length) q out) (hl : out.length ≤ 10) (c : (¬ q.err = 0 ∨ (q.s.size : Int) ≤ (q.pos : Int)) ∨ isAt q.s q.pos 41 = true) (k : q.err = 0) (k2 : (q.pos : Int) = (q.s.size : Int)) : L = (((q.fail q.pos 8).to (q.pos + 1)).stop false, out) := by
 rw [e, show 12 - out.length = (11 - out.length) + 1 by omega]
 unfold lrun
 rw [if_neg (qss c), if_neg (by simp [k]), if_pos (by omega)]
theorem q8d (e : L = lrun op (12 - out.length) q out) (hl : out.length ≤ 10) (c : (¬ q.err = 0 ∨ (q.s.size : Int) ≤ (q.pos : Int)) ∨ isAt q.s q.pos 41 = true) (k : q.err = 0) (k2 : ¬ (q.pos : Int) = (q.s.size : Int)) (k3 : (out.length : Int) = 0) :
 L = (((q.fail op 1).to (q.pos + 1)).stop false, out) := by
 rw [e, show 12 - out.length = (11 - out.length) + 1 by omega]
 unfold lrun
 rw [if_neg (qss c), if_neg (by simp [k]), if_neg (by omega), if_pos (List.eq_nil_of_length_eq_zero (by omega))]
theorem q92 (e : L = lrun op (12 - out.length) q out) (hl : out.length ≤ 10) (c : (¬ q.err = 0 ∨ (q.s.size : Int) ≤ (q.pos : Int)) ∨ isAt q.s q.pos 41 = true) (k : q.err = 0) (k2 : ¬ (q.pos : Int) = (q.s.size : Int)) (k3 : ¬ (out.length : Int) = 0) :
 L = ((q.to (q.pos + 1)).stop false, out) := by
 rw [e, show 12 - out.length = (11 - out.length) + 1 by omega]
 unfold lrun
 rw [if_neg (qss c), if_neg (by simp [k]), if_neg (by omega), if_neg (by intro h; subst h; simp at k3)]
end
theorem q3y (r : Rd) : (⟨r.s, r.pos, r.word.place, r.word.err⟩ : Rd) = r := rfl
def Rd.partV (r : Rd) : CPart := if isAt r.s r.pos 40 = true then ⟨⟨#[]⟩, r.list.2⟩ else if isAt r.s r.pos 41 = true then q0a else if isAt r.s r.pos 39 = true then ⟨⟨#[]⟩, [r.valV]⟩
 else if isAt r.s r.word.pos 40 = false then ⟨⟨#[]⟩, [r.valV]⟩ else if q0k r.wtxt = false then q0a else ⟨r.wtxt, r.word.list.2⟩
def Rd.partR (r : Rd) : Rd := if isAt r.s r.pos 40 = true then r.list.1 else if isAt r.s r.pos 41 = true then r.fail r.pos 8 else if isAt r.s r.pos 39 = true then r.valR.stop false
 else if isAt r.s r.word.pos 40 = false then r.valR.stop false else if q0k r.wtxt = false then r.word.fail r.pos 7 else r.word.list.1
theorem qmd {s : ByteArray} {i : Nat} {c : Int} (h : isAt s i c = true) : i < s.size := by
 unfold isAt at h; rw [Bool.and_eq_true, decide_eq_true_eq] at h; exact h.1
end Go.Ev
namespace Go.Ev
def Rd.wraw (r : Rd) : ByteArray := r.s.extract r.pos r.wend
theorem qt5 {r : Rd} : r.wtxt = upS r.wraw := rfl
def qe9 (s : ByteArray) : Prop := s.size ≤ 400 ∧ ∀ k, k < s.size → 32 ≤ chr s k ∧ chr s k ≤ 126
def inWq (c : Int) : Bool := decide (32 < c) && decide (c < 127) && !decide (c = 40) && !decide (c = 41) && !decide (c = 39)
def qkf (op : Nat) : Nat → Rd → List CVal → Rd × List CVal
 | 0, r, out => (r, out)
 | n + 1, r, out => if r.err = 0 then
     (if r.blanks.pos < r.s.size then
       (if chr r.s r.blanks.pos = 41 then ((if out.length = 0 then r.blanks.fail op 1 else r.blanks).to (r.blanks.pos + 1), out)
        else if out.length = 10 then (r.blanks.fail r.blanks.pos 2, out)
        else if chr r.s r.blanks.pos = 40 then (r.blanks.fail r.blanks.pos 8, out)
        else qkf op n (r.blanks.valR.stop true) (out ++ [r.blanks.valV]))
      else (r.blanks.fail r.s.size 8, out))
   else (r, out)
def Rd.rlist (r : Rd) : Rd × List CVal := qkf r.pos 12 (r.to (r.pos + 1)) []
def Rd.rpart (r : Rd) : Rd × CPart :=
 if chr r.s r.pos = 41 then (r.fail r.pos 8, q0a)
 else if chr r.s r.pos = 40 then (r.rlist.1.stop false, ⟨⟨#[]⟩, r.rlist.2⟩)
 else if chr r.s r.pos = 39 then (r.quoted.stop false, ⟨⟨#[]⟩, [r.qval]⟩)
 else if isAt r.s r.word.pos 40 = true then (if q0k r.wtxt = true then (r.word.rlist.1.stop false, ⟨r.wtxt, r.word.rlist.2⟩) else (r.word.fail r.pos 7, ⟨r.wtxt, []⟩))
 else ((if 64 < r.wraw.size then r.word.fail r.pos 2 else r.word).stop false, ⟨⟨#[]⟩, [⟨0, r.wtxt⟩]⟩)
def prun : Nat → Rd → List CPart → Rd × List CPart
 | 0, r, out => (r, out)
 | n + 1, r, out => if r.err = 0 ∧ r.pos < r.s.size then (if out.length = 12 then (r.fail r.pos 2, out) else prun n r.partR.blanks (out ++ [r.partV])) else (r, out)
def qgk : Nat → Rd → List CPart → Rd × List CPart
 | 0, r, out => (r, out)
 | n + 1, r, out => if r.err = 0 then (if r.blanks.pos < r.s.size then (if out.length = 12 then (r.blanks.fail r.blanks.pos 2, out) else qgk n r.blanks.rpart.1 (out ++ [r.blanks.rpart.2])) else (r.blanks, out)) else (r, out)
def rd0 (s : ByteArray) : Rd := ⟨s, 0, 0, 0⟩
def qd8 (s : ByteArray) : List Int := s.data.toList.map fun b => (b.toNat : Int)
theorem q2g (s : ByteArray) : qc2 s = (qd8 s).map (D.i .u8) := by unfold qc2 qd8; rw [List.map_map]; rfl
theorem qer (s : ByteArray) : (qd8 s).length = s.size := by unfold qd8; rw [List.length_map, Array.length_toList]; rfl
theorem qh0 (s : ByteArray) (k : Nat) : (qd8 s).getD k 0 = chr s k := by
 unfold qd8 chr
 simp only [List.getD, List.getElem?_map]
 cases s.data.toList[k]? <;> rfl
theorem qli (s : ByteArray) : decL 1 (decI .u8) (.sl 1 (qc2 s)) = some (qd8 s) := by rw [q2g]; exact qgu (qt0 .u8) _
def qee (s : ByteArray) : Int := idxP badC (qd8 s)
theorem q2h {s : ByteArray} (hb : ∀ j, j < s.size → badC (chr s j) = false) : qee s = -1 :=
 qjo fun j hj => by rw [qer] at hj; rw [qh0]; exact hb j hj
theorem qja {s : ByteArray} (h : ¬ 0 ≤ qee s) : ∀ k, k < s.size → 32 ≤ chr s k ∧ chr s k ≤ 126 := by
 intro k hk
 have hn : (qd8 s).findIdx? badC = none := by
  unfold qee idxP at h
  split at h
  ·omega
  ·assumption
 rw [List.findIdx?_eq_none_iff] at hn
 have := hn ((qd8 s).getD k 0) (qii 0 (by rw [qer]; exact hk))
 rw [qh0] at this
 unfold badC at this
 rw [Bool.or_eq_false_iff, decide_eq_false_iff_not, decide_eq_false_iff_not] at this
 omega
theorem qrq {s : ByteArray} (h : qe9 s) : asc s := by
 refine ⟨h.1, fun b hb => ?_⟩
 obtain ⟨i, hi, rfl⟩ := List.getElem_of_mem hb
 have := (h.2 i (by simpa using hi)).2
 unfold chr at this
 rw [show s.data.toList.getD i 0 = s.data.toList[i] from by simp [List.getD, List.getElem?_eq_getElem hi]] at this
 omega
def qck (s : ByteArray) : CStr × Int × Int :=
 if 400 < s.size then (qe8, 0, 2) else if 0 ≤ qee s then (qe8, qee s, 5)
 else if ¬ (prun 13 (rd0 s).nmR.blanks []).1.err = 0 then (qe8, (prun 13 (rd0 s).nmR.blanks []).1.place, (prun 13 (rd0 s).nmR.blanks []).1.err) else (⟨(rd0 s).nmT, (prun 13 (rd0 s).nmR.blanks []).2⟩, 0, 0)
def qjp (s : ByteArray) : CStr × Int × Int :=
 if 400 < s.size then (qe8, 0, 2) else if 0 ≤ qee s then (qe8, qee s, 5)
 else if ¬ (rd0 s).blanks.pos < s.size then (qe8, s.size, 1)
 else if (rd0 s).blanks.word.pos < s.size ∧ ¬ chr s (rd0 s).blanks.word.pos = 32 then (qe8, (rd0 s).blanks.word.pos, 8)
 else if q0k (rd0 s).blanks.wtxt = false then (qe8, (rd0 s).blanks.pos, 7)
 else if ¬ (qgk 13 (rd0 s).blanks.word []).1.err = 0 then (qe8, (qgk 13 (rd0 s).blanks.word []).1.place, (qgk 13 (rd0 s).blanks.word []).1.err) else (⟨(rd0 s).blanks.wtxt, (qgk 13 (rd0 s).blanks.word []).2⟩, 0, 0)
structure Rd.sim (a b : Rd) : Prop where
 s : a.s = b.s
 err : a.err = b.err
 place : a.place = b.place
 pos : a.err = 0 → a.pos = b.pos
theorem Rd.sim.rfl' (a : Rd) : a.sim a := ⟨rfl, rfl, rfl, fun _ => rfl⟩
theorem Rd.sim.eq {a b : Rd} (h : a.sim b) (e : a.err = 0) : a = b := by
 obtain ⟨h1, h2, h3, h4⟩ := h
 cases a; cases b; simp only at *; simp_all
theorem qqk {r : Rd} {p e : Int} (h : ¬ r.err = 0) : r.fail p e = r := by unfold Rd.fail fP fE; rw [if_neg h, if_neg h]
theorem qb4 {r : Rd} {p e : Int} (h : r.err = 0) : r.fail p e = ⟨r.s, r.pos, p, e⟩ := by unfold Rd.fail fP fE; rw [if_pos h, if_pos h]
theorem qgb {r : Rd} {op : Bool} (h : ¬ r.err = 0) : r.stop op = r := by unfold Rd.stop; split; exact qqk h; rfl
theorem qt6 (op : Nat) : ∀ (n : Nat) (r : Rd) (out : List CVal), out.length ≤ 10 → n + out.length = 12 → r.pos ≤ r.s.size →
 (lrun op n r.blanks out).1.sim ((qkf op n r out).1.stop false) ∧ ((lrun op n r.blanks out).1.err = 0 → (lrun op n r.blanks out).2 = (qkf op n r out).2)
 | 0, r, out, h1, h2, h3 => by omega
 | n + 1, r, out, h1, h2, h3 => by
   have hb := qce h3
   unfold lrun qkf
   by_cases e : r.err = 0
   ·have eb : r.blanks.err = 0 := e
    rw [if_pos e]
    by_cases p : r.blanks.pos < r.s.size
    ·rw [if_pos p]
     by_cases c : chr r.s r.blanks.pos = 41
     ·have ha : isAt r.blanks.s r.blanks.pos 41 = true := by simp [isAt, qba, p, c]
      rw [if_pos c, if_neg (by rw [ha]; simp), if_neg (by simp [eb]), if_neg (by rw [qba]; omega)]
      by_cases o : out = []
      ·rw [if_pos o, if_pos (by rw [o]; rfl)]; exact ⟨.rfl' _, fun _ => rfl⟩
      ·rw [if_neg o, if_neg (by intro h; exact o (List.eq_nil_of_length_eq_zero h))]; exact ⟨.rfl' _, fun _ => rfl⟩
     ·have ha : isAt r.blanks.s r.blanks.pos 41 = false := by simp [isAt, qba, c]
      rw [if_neg c, if_pos ⟨eb, by rw [qba]; exact p, ha⟩]
      by_cases f : out.length = 10
      ·rw [if_pos f, if_pos f, qb4 eb]
       refine ⟨?_, fun h => by cases h⟩
       rw [qgb (by show ¬ (2 : Int) = 0; decide)]; exact .rfl' _
      ·rw [if_neg f, if_neg f]
       by_cases c2 : chr r.s r.blanks.pos = 40
       ·rw [if_pos c2, if_pos (by simp [isAt, qba, p, c2]), qb4 eb]
        refine ⟨?_, fun h => by cases h⟩
        rw [qgb (by show ¬ (8 : Int) = 0; decide)]; exact .rfl' _
       ·rw [if_neg c2, if_neg (by simp [isAt, qba, c2])]
        refine qt6 op n _ _ ?_ ?_ ?_
        ·rw [List.length_append, List.length_singleton]; omega
        ·rw [List.length_append, List.length_singleton]; omega
        ·rw [qcy, qbk, qb2, qba]
         have := qgy (r := r.blanks) hb.2
         rw [qba] at this
         exact this.2
    ·rw [if_neg p, if_neg (by rw [qba]; omega), if_neg (by simp [eb]), if_pos (by rw [qba]; omega), qb4 eb, qb4 eb]
     refine ⟨?_, fun h => ?_⟩
     ·rw [qgb (by show ¬ (8 : Int) = 0; decide), qgb (by show ¬ (8 : Int) = 0; decide)]
      exact ⟨rfl, rfl, by show (r.blanks.pos : Int) = r.s.size; omega, fun h => by cases h⟩
     ·rfl
   ·have eb : ¬ r.blanks.err = 0 := e
    rw [if_neg e, if_neg (by simp [eb]), if_pos eb, qgb e]
    exact ⟨⟨rfl, rfl, rfl, fun h => absurd h e⟩, fun h => absurd h e⟩
theorem qt7 {r : Rd} (h : r.pos < r.s.size) : r.list.1.sim (r.rlist.1.stop false) ∧ (r.list.1.err = 0 → r.list.2 = r.rlist.2) :=
 qt6 r.pos 12 (r.to (r.pos + 1)) [] (by simp) (by simp) (by show r.pos + 1 ≤ r.s.size; omega)
theorem qch {r : Rd} {c : Int} (h : r.pos < r.s.size) : isAt r.s r.pos c = decide (chr r.s r.pos = c) := by unfold isAt; rw [decide_eq_true h, Bool.true_and]
theorem qgc {r : Rd} : r.wtxt.size = r.wraw.size := by
 unfold Rd.wtxt upS Go.Lib.toUpperA Rd.wraw
 show (List.toArray (List.map _ _)).size = _
 rw [List.size_toArray, List.length_map]; rfl
theorem q2i {r : Rd} (h : r.pos < r.s.size) (he : r.err = 0) : r.partR.sim r.rpart.1 ∧ (r.partR.err = 0 → r.partV = r.rpart.2) := by
 have L1 := qt7 h
 have w := qed (r := r) (by omega)
 unfold Rd.partR Rd.partV Rd.rpart
 rw [qch h, qch h, qch h]
 by_cases c1 : chr r.s r.pos = 40
 ·have c2 : ¬ chr r.s r.pos = 41 := by omega
  simp only [c1, c2, decide_true, if_true, if_false, show ¬ (40 : Int) = 41 by decide]
  exact ⟨L1.1, fun h => by rw [L1.2 h]⟩
 ·by_cases c2 : chr r.s r.pos = 41
  ·simp only [c1, c2, decide_true, decide_false, if_true, if_false, show ¬ (41 : Int) = 40 by decide, Bool.false_eq_true]
   exact ⟨.rfl' _, fun h => trivial⟩
  ·by_cases c3 : chr r.s r.pos = 39
   ·simp only [c1, c2, c3, decide_true, decide_false, if_true, if_false, show ¬ (39 : Int) = 40 by decide, show ¬ (39 : Int) = 41 by decide, Bool.false_eq_true]
    have hi : isAt r.s r.pos 39 = true := by rw [qch h]; simp [c3]
    rw [qt4 hi]
    refine ⟨.rfl' _, fun _ => ?_⟩
    unfold Rd.valV Rd.is
    rw [if_pos hi]
   ·simp only [c1, c2, c3, decide_false, if_false, Bool.false_eq_true]
    have hi : isAt r.s r.pos 39 = false := by rw [qch h]; simp [c3]
    have hv : r.valV = ⟨0, r.wtxt⟩ := by unfold Rd.valV Rd.is; rw [if_neg (by rw [hi]; decide)]
    by_cases c4 : isAt r.s r.word.pos 40 = true
    ·have c5 : r.word.pos < r.word.s.size := qmd c4
     have L2 := qt7 c5
     rw [if_neg (by rw [c4]; decide), if_pos c4]
     by_cases nm : q0k r.wtxt = true
     ·rw [if_neg (by rw [nm]; decide), if_pos nm, if_neg (by rw [c4]; decide), if_neg (by rw [nm]; decide)]
      exact ⟨L2.1, fun h => by rw [L2.2 h]⟩
     ·rw [Bool.not_eq_true] at nm
      rw [if_pos nm, if_neg (by rw [nm]; decide), if_neg (by rw [c4]; decide), if_pos nm]
      refine ⟨.rfl' _, fun h => ?_⟩
      rw [qb4 (r := r.word) he] at h; cases h
    ·rw [if_neg c4]
     rw [Bool.not_eq_true] at c4
     rw [if_pos c4, if_pos c4, hv]
     refine ⟨?_, fun _ => rfl⟩
     unfold Rd.valR Rd.is
     rw [if_neg (by rw [hi]; decide), qgc]
     exact .rfl' _
theorem qov (op : Nat) : ∀ (n : Nat) (r : Rd) (out : List CVal), (lrun op n r out).1.s = r.s
 | 0, r, out => rfl
 | n + 1, r, out => by
   unfold lrun
   split
   ·split
    ·rfl
    ·split
     ·rfl
     ·rw [qov op n, qba, qbk, qb2]
   ·split
    ·rfl
    ·split
     ·rw [qbk]; rfl
     ·split
      ·rw [qbk]; rfl
      ·rw [qbk]; rfl
theorem qt8 (op : Nat) : ∀ (n : Nat) (r : Rd) (out : List CVal), r.pos ≤ r.s.size → (lrun op n r out).1.pos ≤ r.s.size + 1 ∧ ((lrun op n r out).1.err = 0 → (lrun op n r out).1.pos ≤ r.s.size)
 | 0, r, out, h => ⟨by unfold lrun; simp only; omega, fun _ => h⟩
 | n + 1, r, out, h => by
   unfold lrun
   split
   ·rename_i c
    split
    ·exact ⟨by simp only [qfh]; omega, fun _ => h⟩
    ·split
     ·exact ⟨by simp only [qfh]; omega, fun _ => h⟩
     ·have hv := qgy h
      have hb := qce (r := r.valR.stop true) (by rw [qcy, qbk, qb2]; exact hv.2)
      have := qt8 op n (r.valR.stop true).blanks (out ++ [r.valV]) (by rw [qba]; exact hb.2)
      rw [qba, qbk, qb2] at this
      exact this
   ·rename_i c
    split
    ·exact ⟨by simp only; omega, fun _ => h⟩
    ·rename_i e
     have e : r.err = 0 := by simpa using e
     split
     ·refine ⟨by simp only [qcy, qot]; omega, fun k => ?_⟩
      rw [qb4 e] at k
      rw [qgb (by show ¬ (8 : Int) = 0; decide)] at k
      cases k
     ·split
      ·refine ⟨by simp only [qcy, qot]; omega, fun k => ?_⟩
       rw [qb4 e] at k
       rw [qgb (by show ¬ (1 : Int) = 0; decide)] at k
       cases k
      ·exact ⟨by simp only [qcy, qot]; omega, fun _ => by simp only [qcy, qot]; omega⟩
theorem qt9 {r : Rd} (h : r.pos < r.s.size) : r.list.1.s = r.s ∧ r.list.1.pos ≤ r.s.size + 1 ∧ (r.list.1.err = 0 → r.list.1.pos ≤ r.s.size) := by
 have hb := qce (r := r.to (r.pos + 1)) (by show r.pos + 1 ≤ r.s.size; omega)
 exact ⟨qov _ _ _ _, qt8 r.pos 12 (r.to (r.pos + 1)).blanks [] hb.2⟩
theorem qiw {r : Rd} (h : r.pos < r.s.size) : r.partR.s = r.s ∧ r.partR.pos ≤ r.s.size + 1 ∧ (r.partR.err = 0 → r.partR.pos ≤ r.s.size) := by
 have w := qed (r := r) (by omega)
 have v := qgy (r := r) (by omega)
 unfold Rd.partR
 split
 ·exact qt9 h
 ·split
  ·exact ⟨rfl, by simp only [qfh]; omega, fun _ => by simp only [qfh]; omega⟩
  ·split
   ·rw [qbk, qcy, qb2]; exact ⟨rfl, by omega, fun _ => v.2⟩
   ·split
    ·rw [qbk, qcy, qb2]; exact ⟨rfl, by omega, fun _ => v.2⟩
    ·rename_i k
     split
     ·exact ⟨rfl, by simp only [qfh]; omega, fun _ => by simp only [qfh]; omega⟩
     ·have := qt9 (r := r.word) (qmd (c := 40) (show isAt r.s r.word.pos 40 = true by simpa using k))
      exact this
theorem qgz {n : Nat} {r : Rd} {out : List CPart} (h : ¬ r.err = 0) : prun n r out = (r, out) := by
 cases n with
 | zero => rfl
 | succ n => unfold prun; rw [if_neg (fun k => h k.1)]
theorem qua {n : Nat} {r : Rd} {out : List CPart} (h : ¬ r.err = 0) : qgk n r out = (r, out) := by
 cases n with
 | zero => rfl
 | succ n => unfold qgk; rw [if_neg h]
theorem qub : ∀ (n : Nat) (r : Rd) (out : List CPart), r.pos ≤ r.s.size →
 (prun n r.blanks out).1.err = (qgk n r out).1.err ∧ (prun n r.blanks out).1.place = (qgk n r out).1.place ∧ ((prun n r.blanks out).1.err = 0 → (prun n r.blanks out).2 = (qgk n r out).2)
 | 0, r, out, h => ⟨rfl, rfl, fun _ => rfl⟩
 | n + 1, r, out, h => by
   have hb := qce h
   by_cases e : r.err = 0
   ·unfold prun qgk
    rw [if_pos e]
    by_cases p : r.blanks.pos < r.s.size
    ·rw [if_pos p, if_pos ⟨e, by rw [qba]; exact p⟩]
     by_cases f : out.length = 12
     ·rw [if_pos f, if_pos f]; exact ⟨rfl, rfl, fun _ => rfl⟩
     ·rw [if_neg f, if_neg f]
      obtain ⟨s1, s2⟩ := q2i (r := r.blanks) p e
      have pp := qiw (r := r.blanks) p
      by_cases z : r.blanks.partR.err = 0
      ·rw [← s1.eq z, ← s2 z]
       exact qub n _ _ (by rw [pp.1]; exact pp.2.2 z)
      ·rw [qgz (r := r.blanks.partR.blanks) z, qua (r := r.blanks.rpart.1) (by rw [← s1.err]; exact z)]
       exact ⟨s1.err, s1.place, fun k => absurd k z⟩
    ·rw [if_neg p, if_neg (by rw [qba]; omega)]
     exact ⟨rfl, rfl, fun _ => rfl⟩
   ·rw [qgz (r := r.blanks) e, qua e]
    exact ⟨rfl, rfl, fun k => absurd k e⟩
theorem q2j (s : ByteArray) : qck s = qjp s := by
 unfold qck qjp
 split
 ·rfl
 ·split
  ·rfl
  ·have hb := qce (r := rd0 s) (Nat.zero_le _)
   have hw := qed (r := (rd0 s).blanks) hb.2
   have e0 : (rd0 s).blanks.err = 0 := rfl
   rw [show (rd0 s).s = s from rfl] at hb
   rw [show (rd0 s).blanks.s = s from rfl] at hw
   by_cases p : (rd0 s).blanks.pos < s.size
   ·conv => rhs; rw [if_neg (fun h => h p)]
    have c : ¬ (rd0 s).blanks.pos = (rd0 s).s.size := by show ¬ (rd0 s).blanks.pos = s.size; omega
    rw [qsr c]
    by_cases st : (rd0 s).blanks.word.pos < s.size ∧ ¬ chr s (rd0 s).blanks.word.pos = 32
    ·conv => rhs; rw [if_pos st]
     have k : (rd0 s).blanks.word.stop false = (rd0 s).blanks.word.fail (rd0 s).blanks.word.pos 8 := qhj (by show ((rd0 s).blanks.word.pos : Int) < (s.size : Int); omega) (by
      show isAt s (rd0 s).blanks.word.pos 32 = false
      simp [isAt, st.2])
     have k2 : (rd0 s).nmR = ⟨s, (rd0 s).blanks.word.pos, (rd0 s).blanks.word.pos, 8⟩ := by
      unfold Rd.nmR
      rw [if_neg c, k, qb4 rfl]
      split
      ·rfl
      ·rw [qqk (by show ¬ (8 : Int) = 0; decide)]; rfl
     rw [k2, qgz (by show ¬ (8 : Int) = 0; decide), if_pos (by show ¬ (8 : Int) = 0; decide)]
     rfl
    ·conv => rhs; rw [if_neg st]
     have k : (rd0 s).blanks.word.stop false = (rd0 s).blanks.word := qgx (by
      by_cases q : (rd0 s).blanks.word.pos < s.size
      ·right
       show isAt s (rd0 s).blanks.word.pos 32 = true
       have : chr s (rd0 s).blanks.word.pos = 32 := by
        by_cases z : chr s (rd0 s).blanks.word.pos = 32
        ·exact z
        ·exact absurd ⟨q, z⟩ st
       simp [isAt, q, this]
      ·left; show (s.size : Int) ≤ ((rd0 s).blanks.word.pos : Int); omega)
     by_cases nm : q0k (rd0 s).blanks.wtxt = false
     ·conv => rhs; rw [if_pos nm]
      have k2 : (rd0 s).nmR = ⟨s, (rd0 s).blanks.word.pos, (rd0 s).blanks.pos, 7⟩ := by rw [qxx c nm, k, qb4 rfl]; rfl
      rw [k2, qgz (by show ¬ (7 : Int) = 0; decide), if_pos (by show ¬ (7 : Int) = 0; decide)]
      rfl
     ·conv => rhs; rw [if_neg nm]
      rw [qxw c (by simpa using nm), k]
      obtain ⟨h1, h2, h3⟩ := qub 13 (rd0 s).blanks.word [] hw.2
      rw [h1, h2]
      split
      ·rfl
      ·rename_i z
       rw [h3 (by rw [h1]; simpa using z)]
   ·conv => rhs; rw [if_pos p]
    have c : (rd0 s).blanks.pos = (rd0 s).s.size := by show (rd0 s).blanks.pos = s.size; omega
    have k2 : (rd0 s).nmR = ⟨s, (rd0 s).blanks.pos, (rd0 s).blanks.pos, 1⟩ := by rw [qxv c, qb4 rfl]; rfl
    rw [k2, qgz (by show ¬ (1 : Int) = 0; decide), if_pos (by show ¬ (1 : Int) = 0; decide)]
    show (qe8, ((rd0 s).blanks.pos : Int), (1 : Int)) = _
    rw [c]; rfl
theorem qow {s : ByteArray} : (rd0 s).s = s := rfl
theorem eta0 (s : ByteArray) : (⟨s, 0, 0, 0⟩ : Rd) = rd0 s := rfl
theorem qkg {r : Rd} : r.nmR.s = r.s := by
 unfold Rd.nmR
 split
 ·rfl
 ·split
  ·rw [qbk]; rfl
  ·show (Rd.stop _ _).s = _; rw [qbk]; rfl
theorem qql {r : Rd} (h : r.pos ≤ r.s.size) : r.nmR.pos ≤ r.s.size := by
 have hb := qce h
 have hw := qed (r := r.blanks) hb.2
 rw [qba] at hw
 unfold Rd.nmR
 split
 ·exact hb.2
 ·split
  ·rw [qcy]; exact hw.2
  ·show (Rd.stop _ _).pos ≤ _; rw [qcy]; exact hw.2
theorem qgd {r : Rd} : r.partR.s = r.s := by
 unfold Rd.partR
 split
 ·exact qov _ _ _ _
 ·split
  ·rfl
  ·split
   ·rw [qbk, qb2]
   ·split
    ·rw [qbk, qb2]
    ·split
     ·rfl
     ·exact qov _ _ _ _
theorem etaN (s : ByteArray) : (⟨s, (rd0 s).nmR.pos, (rd0 s).nmR.place, (rd0 s).nmR.err⟩ : Rd) = (rd0 s).nmR := by
 have : s = (rd0 s).nmR.s := by rw [qkg]; rfl
 conv => lhs; rw [show (⟨s, (rd0 s).nmR.pos, (rd0 s).nmR.place, (rd0 s).nmR.err⟩ : Rd) = ⟨(rd0 s).nmR.s, (rd0 s).nmR.pos, (rd0 s).nmR.place, (rd0 s).nmR.err⟩ from by rw [← this]]
theorem etaP (r : Rd) : (⟨r.s, r.partR.pos, r.partR.place, r.partR.err⟩ : Rd) = r.partR := by
 conv => lhs; rw [← qgd (r := r)]
theorem q2k (s : ByteArray) : idxP badC (qd8 s) = qee s := rfl
section
variable {q : Rd} {out : List CPart} {L : Rd × List CPart} {n : Nat}
theorem q8e (e : L = prun n q out) (c : ¬ q.err = 0 ∨ (q.s.size : Int) ≤ (q.pos : Int)) : L = (q, out) := by
 rw [e]
 cases n with
 | zero => rfl
 | succ n => unfold prun; rw [if_neg (by intro k; rcases c with c | c; exact c k.1; omega)]
theorem q5q (e : L = prun (13 - out.length) q out) (c : q.err = 0 ∧ (q.pos : Int) < (q.s.size : Int)) (k : (out.length : Int) = 12) : L = (q.fail q.pos 2, out) := by
 rw [e, show 13 - out.length = 0 + 1 by omega]
 unfold prun
 rw [if_pos ⟨c.1, by omega⟩, if_pos (by omega)]
theorem q5r (e : L = prun (13 - out.length) q out) (hl : out.length ≤ 12) (c : q.err = 0 ∧ (q.pos : Int) < (q.s.size : Int)) (k : ¬ (out.length : Int) = 12) : L = prun (13 - (out ++ [q.partV]).length) q.partR.blanks (out ++ [q.partV]) := by
 rw [e, show 13 - out.length = (12 - out.length) + 1 by omega, show 13 - (out ++ [q.partV]).length = 12 - out.length by rw [List.length_append, List.length_singleton]; omega]
 conv => lhs; unfold prun
 rw [if_pos ⟨c.1, by omega⟩, if_neg (by omega)]
end
section
variable {op : Nat} {q : Rd} {out : List CVal} {L : Rd × List CVal}
end
theorem q3z {r : Rd} (h : r.pos < r.s.size) (c : chr r.s r.pos = 39) : r.valR = r.quoted ∧ r.valV = r.qval := by
 have hi : isAt r.s r.pos 39 = true := by rw [qch h]; simp [c]
 exact ⟨qt4 hi, by unfold Rd.valV Rd.is; rw [if_pos hi]⟩
theorem q93 {r : Rd} (h : r.pos < r.s.size) (c : ¬ chr r.s r.pos = 39) (k : 64 < (r.wraw.size : Int)) : r.valR = r.word.fail r.pos 2 ∧ r.valV = ⟨0, r.wtxt⟩ := by
 have hi : isAt r.s r.pos 39 = false := by rw [qch h]; simp [c]
 exact ⟨qz7 hi (by rw [qgc]; omega), by unfold Rd.valV Rd.is; rw [if_neg (by rw [hi]; decide)]⟩
theorem q30 {r : Rd} (h : r.pos < r.s.size) (c : ¬ chr r.s r.pos = 39) (k : ¬ 64 < (r.wraw.size : Int)) : r.valR = r.word ∧ r.valV = ⟨0, r.wtxt⟩ := by
 have hi : isAt r.s r.pos 39 = false := by rw [qch h]; simp [c]
 exact ⟨qz8 hi (by rw [qgc]; omega), by unfold Rd.valV Rd.is; rw [if_neg (by rw [hi]; decide)]⟩
theorem q94 {r : Rd} {op : Bool} : r.stop op = if r.pos < r.s.size ∧ ¬ chr r.s r.pos = 32 ∧ ¬ (op = true ∧ chr r.s r.pos = 41) then r.fail r.pos 8 else r := by
 unfold Rd.stop Rd.is
 by_cases h : r.pos < r.s.size
 ·rw [qch h, qch h]
  cases op <;> simp [h]
 ·rw [if_neg (by simp [h]), if_neg (fun k => h k.1)]
theorem qij {s : ByteArray} (h : 400 < (s.size : Int)) : qck s = (qe8, 0, 2) := by unfold qck; rw [if_pos (by omega)]
theorem qox {s : ByteArray} (h : (s.size : Int) ≤ 400) (k : 0 ≤ qee s) : qck s = (qe8, qee s, 5) := by unfold qck; rw [if_neg (by omega), if_pos k]
theorem qkh {s : ByteArray} {L : Rd × List CPart} (h : (s.size : Int) ≤ 400) (k : qee s < 0) (e : prun 13 (rd0 s).nmR.blanks [] = L) (z : ¬ L.1.err = 0) : qck s = (qe8, L.1.place, L.1.err) := by
 unfold qck; rw [if_neg (by omega), if_neg (by omega), e, if_pos z]
theorem qlj {s : ByteArray} {L : Rd × List CPart} (h : (s.size : Int) ≤ 400) (k : qee s < 0) (e : prun 13 (rd0 s).nmR.blanks [] = L) (z : L.1.err = 0) : qck s = (⟨(rd0 s).nmT, L.2⟩, 0, 0) := by
 unfold qck; rw [if_neg (by omega), if_neg (by omega), e, if_neg (fun k => k z)]
theorem qwg {s : ByteArray} : (rd0 s).nmR.blanks.pos ≤ s.size := by
 have h1 := qql (r := rd0 s) (Nat.zero_le _)
 rw [qow] at h1
 have := qce (r := (rd0 s).nmR) (by rw [qkg, qow]; exact h1)
 rw [qkg, qow] at this
 exact this.2
theorem fE2 {e x : Int} (h : e = 0) : fE e x = x := if_pos h
theorem q00a {r : Rd} (h : r.pos < r.s.size) (hs : r.s.size ≤ 400) : r.partR.blanks.pos ≤ 401 ∧ (r.partR.blanks.err = 0 → r.partR.blanks.pos ≤ r.s.size) := by
 have p := qiw h
 by_cases e : r.partR.pos ≤ r.s.size
 ·have := qce (r := r.partR) (by rw [qgd]; exact e)
  rw [qgd] at this
  exact ⟨by omega, fun _ => this.2⟩
 ·have : r.partR.blanks.pos = r.partR.pos := qt2 (by rw [qgd]; omega)
  exact ⟨by omega, fun z => absurd (p.2.2 z) e⟩
def txt (l : List Int) : ByteArray := strD (l.map (D.i .u8))
theorem qnl (l : List Int) : (txt l).size = l.length := by
 show (List.toArray (List.map qky (l.map (D.i .u8)))).size = _
 rw [List.size_toArray, List.length_map, List.length_map]
theorem toN1 (n : Nat) : ((n : Int) + 1).toNat = n + 1 := by omega
theorem toN2 (n : Nat) : ((n : Int) + 1 + 1).toNat = n + 1 + 1 := by omega
theorem ext1 {s : ByteArray} {i : Nat} (h : i < s.size) : (s.extract i (i + 1)).size = 1 := by rw [ByteArray.size_extract]; omega
theorem qwh (op : Nat) : ∀ (n : Nat) (r : Rd) (out : List CVal), (qkf op n r out).1.s = r.s
 | 0, r, out => rfl
 | n + 1, r, out => by
   unfold qkf
   split
   ·split
    ·split
     ·split <;> rfl
     ·split
      ·rfl
      ·split
       ·rfl
       ·rw [qwh op n, qbk, qb2]; rfl
    ·rfl
   ·rfl
theorem qqm {r : Rd} : r.rlist.1.s = r.s := qwh _ _ _ _
theorem etaL (r : Rd) : (⟨r.s, r.rlist.1.pos, r.rlist.1.place, r.rlist.1.err⟩ : Rd) = r.rlist.1 := by conv => lhs; rw [← qqm (r := r)]
theorem q5s {r : Rd} : r.rpart.1.s = r.s := by
 unfold Rd.rpart
 split
 ·rfl
 ·split
  ·rw [qbk, qqm]
  ·split
   ·rw [qbk, qcg]
   ·split
    ·split
     ·rw [qbk, qqm]; rfl
     ·rfl
    ·rw [qbk]; split <;> rfl
theorem qbcg (r : Rd) : (⟨r.s, r.rpart.1.pos, r.rpart.1.place, r.rpart.1.err⟩ : Rd) = r.rpart.1 := by conv => lhs; rw [← q5s (r := r)]
theorem qbch (s : ByteArray) : (⟨s, (rd0 s).blanks.pos, (rd0 s).blanks.place, (rd0 s).blanks.err⟩ : Rd) = (rd0 s).blanks := rfl
theorem qbci (s : ByteArray) : (⟨s, (rd0 s).blanks.word.pos, (rd0 s).blanks.word.place, (rd0 s).blanks.word.err⟩ : Rd) = (rd0 s).blanks.word := rfl
section
variable {r : Rd}
end
section
variable {s : ByteArray}
end
def Rd.more (r : Rd) : Bool := decide (r.blanks.pos < r.s.size)
end Go.Ev
