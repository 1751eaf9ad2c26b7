/- Tools and contracts under the laws of this seat: DevTy37, DevDec, DevData, DevPure, DevData37, DevRd37, DevRq37. -/
import Derived.Test.YtlejldoefoppaaaGreatDoorE02
import Derived.Test.YtlejldoefoppaaaGreatDoorProg
import Derived.KernelRfl
import Derived.Laws.Strings
import Derived.WideShapes
import Derived.Lib.Case
set_option linter.unusedVariables false
set_option linter.unusedSimpArgs false
namespace Go.Ev.Ty
open Go.Proofs
theorem sz3 : q0u Tryz.prog 3 = some 1 := by kernel_rfl
theorem ag3 : aggT Tryz.prog 3 = some false := by kernel_rfl
theorem zr3 : qbb Tryz.prog 3 = some [.i .i64 0] := by kernel_rfl
theorem zo3 : qdb Tryz.prog 3 = some (.i .i64 0) := by kernel_rfl
theorem zd3 : zD Tryz.prog 3 = .i .i64 0 := by kernel_rfl
theorem by3 : qb1 Tryz.prog 3 = some 8 := by kernel_rfl
theorem sl3 : q08 Tryz.prog 3 = false := by kernel_rfl
theorem st3 : qcs Tryz.prog 3 = false := by kernel_rfl
theorem bo3 : qb6 Tryz.prog 3 = false := by kernel_rfl
theorem pt3 : qct Tryz.prog 3 = false := by kernel_rfl
theorem ck3 : ckT Tryz.prog 3 = .int .i64 := by kernel_rfl
theorem sz4 : q0u Tryz.prog 4 = some 1 := by kernel_rfl
theorem ag4 : aggT Tryz.prog 4 = some false := by kernel_rfl
theorem zr4 : qbb Tryz.prog 4 = some [.b false] := by kernel_rfl
theorem zo4 : qdb Tryz.prog 4 = some (.b false) := by kernel_rfl
theorem zd4 : zD Tryz.prog 4 = .b false := by kernel_rfl
theorem by4 : qb1 Tryz.prog 4 = some 1 := by kernel_rfl
theorem sl4 : q08 Tryz.prog 4 = false := by kernel_rfl
theorem st4 : qcs Tryz.prog 4 = false := by kernel_rfl
theorem bo4 : qb6 Tryz.prog 4 = true := by kernel_rfl
theorem pt4 : qct Tryz.prog 4 = false := by kernel_rfl
theorem sz5 : q0u Tryz.prog 5 = some 1 := by kernel_rfl
theorem ag5 : aggT Tryz.prog 5 = some false := by kernel_rfl
theorem zr5 : qbb Tryz.prog 5 = some [.i .u8 0] := by kernel_rfl
theorem zo5 : qdb Tryz.prog 5 = some (.i .u8 0) := by kernel_rfl
theorem zd5 : zD Tryz.prog 5 = .i .u8 0 := by kernel_rfl
theorem by5 : qb1 Tryz.prog 5 = some 1 := by kernel_rfl
theorem sl5 : q08 Tryz.prog 5 = false := by kernel_rfl
theorem st5 : qcs Tryz.prog 5 = false := by kernel_rfl
theorem bo5 : qb6 Tryz.prog 5 = false := by kernel_rfl
theorem pt5 : qct Tryz.prog 5 = false := by kernel_rfl
theorem ck5 : ckT Tryz.prog 5 = .int .u8 := by kernel_rfl
theorem sz9 : q0u Tryz.prog 9 = some 1 := by kernel_rfl
theorem ag9 : aggT Tryz.prog 9 = some false := by kernel_rfl
theorem zr9 : qbb Tryz.prog 9 = some [.s ⟨#[]⟩] := by kernel_rfl
theorem zo9 : qdb Tryz.prog 9 = some (.s ⟨#[]⟩) := by kernel_rfl
theorem zd9 : zD Tryz.prog 9 = .s ⟨#[]⟩ := by kernel_rfl
theorem by9 : qb1 Tryz.prog 9 = some 16 := by kernel_rfl
theorem sl9 : q08 Tryz.prog 9 = false := by kernel_rfl
theorem un9 : Tryz.prog.underlying 9 = some .string := by kernel_rfl
theorem st9 : qcs Tryz.prog 9 = true := by kernel_rfl
theorem bo9 : qb6 Tryz.prog 9 = false := by kernel_rfl
theorem pt9 : qct Tryz.prog 9 = false := by kernel_rfl
theorem ck9 : ckT Tryz.prog 9 = .str := by kernel_rfl
theorem sz25 : q0u Tryz.prog 25 = some 1 := by kernel_rfl
theorem ag25 : aggT Tryz.prog 25 = some false := by kernel_rfl
theorem zr25 : qbb Tryz.prog 25 = some [.i .i64 0] := by kernel_rfl
theorem zo25 : qdb Tryz.prog 25 = some (.i .i64 0) := by kernel_rfl
theorem zd25 : zD Tryz.prog 25 = .i .i64 0 := by kernel_rfl
theorem by25 : qb1 Tryz.prog 25 = some 8 := by kernel_rfl
theorem sl25 : q08 Tryz.prog 25 = false := by kernel_rfl
theorem st25 : qcs Tryz.prog 25 = false := by kernel_rfl
theorem bo25 : qb6 Tryz.prog 25 = false := by kernel_rfl
theorem pt25 : qct Tryz.prog 25 = false := by kernel_rfl
theorem ck25 : ckT Tryz.prog 25 = .int .i64 := by kernel_rfl
theorem sz31 : q0u Tryz.prog 31 = some 1 := by kernel_rfl
theorem ag31 : aggT Tryz.prog 31 = some false := by kernel_rfl
theorem zr31 : qbb Tryz.prog 31 = some [.nil] := by kernel_rfl
theorem zo31 : qdb Tryz.prog 31 = some (.nil) := by kernel_rfl
theorem zd31 : zD Tryz.prog 31 = .nil := by kernel_rfl
theorem by31 : qb1 Tryz.prog 31 = some 24 := by kernel_rfl
theorem el31 : qcj Tryz.prog 31 = some 70 := by kernel_rfl
theorem sl31 : q08 Tryz.prog 31 = true := by kernel_rfl
theorem un31 : Tryz.prog.underlying 31 = some (.slice 70) := by kernel_rfl
theorem st31 : qcs Tryz.prog 31 = false := by kernel_rfl
theorem bo31 : qb6 Tryz.prog 31 = false := by kernel_rfl
theorem pt31 : qct Tryz.prog 31 = false := by kernel_rfl
theorem sz33 : q0u Tryz.prog 33 = some 2 := by kernel_rfl
theorem ag33 : aggT Tryz.prog 33 = some true := by kernel_rfl
theorem zr33 : qbb Tryz.prog 33 = some [.s ⟨#[]⟩, .nil] := by kernel_rfl
theorem zd33 : zD Tryz.prog 33 = .agg [.s ⟨#[]⟩, .nil] := by kernel_rfl
theorem by33 : qb1 Tryz.prog 33 = some 40 := by kernel_rfl
theorem sl33 : q08 Tryz.prog 33 = false := by kernel_rfl
theorem st33 : qcs Tryz.prog 33 = false := by kernel_rfl
theorem bo33 : qb6 Tryz.prog 33 = false := by kernel_rfl
theorem pt33 : qct Tryz.prog 33 = false := by kernel_rfl
theorem q9e : offT Tryz.prog 33 0 = some (0, 1) := by kernel_rfl
theorem q9f : qcv Tryz.prog 33 0 = some 9 := by kernel_rfl
theorem q9g : offT Tryz.prog 33 1 = some (1, 1) := by kernel_rfl
theorem q9h : qcv Tryz.prog 33 1 = some 31 := by kernel_rfl
theorem pl33 : qfa Tryz.prog 33 = some [(0, 1), (1, 1)] := by kernel_rfl
theorem sz41 : q0u Tryz.prog 41 = some 1 := by kernel_rfl
theorem sz68 : q0u Tryz.prog 68 = some 1 := by kernel_rfl
theorem ag68 : aggT Tryz.prog 68 = some false := by kernel_rfl
theorem zr68 : qbb Tryz.prog 68 = some [.nil] := by kernel_rfl
theorem zo68 : qdb Tryz.prog 68 = some (.nil) := by kernel_rfl
theorem zd68 : zD Tryz.prog 68 = .nil := by kernel_rfl
theorem by68 : qb1 Tryz.prog 68 = some 24 := by kernel_rfl
theorem el68 : qcj Tryz.prog 68 = some 76 := by kernel_rfl
theorem sl68 : q08 Tryz.prog 68 = true := by kernel_rfl
theorem un68 : Tryz.prog.underlying 68 = some (.slice 76) := by kernel_rfl
theorem st68 : qcs Tryz.prog 68 = false := by kernel_rfl
theorem bo68 : qb6 Tryz.prog 68 = false := by kernel_rfl
theorem pt68 : qct Tryz.prog 68 = false := by kernel_rfl
theorem sz70 : q0u Tryz.prog 70 = some 2 := by kernel_rfl
theorem ag70 : aggT Tryz.prog 70 = some true := by kernel_rfl
theorem zr70 : qbb Tryz.prog 70 = some [.s ⟨#[]⟩, .nil] := by kernel_rfl
theorem zd70 : zD Tryz.prog 70 = .agg [.s ⟨#[]⟩, .nil] := by kernel_rfl
theorem by70 : qb1 Tryz.prog 70 = some 40 := by kernel_rfl
theorem sl70 : q08 Tryz.prog 70 = false := by kernel_rfl
theorem st70 : qcs Tryz.prog 70 = false := by kernel_rfl
theorem bo70 : qb6 Tryz.prog 70 = false := by kernel_rfl
theorem pt70 : qct Tryz.prog 70 = false := by kernel_rfl
theorem q9i : offT Tryz.prog 70 0 = some (0, 1) := by kernel_rfl
theorem q9j : qcv Tryz.prog 70 0 = some 9 := by kernel_rfl
theorem q9k : offT Tryz.prog 70 1 = some (1, 1) := by kernel_rfl
theorem q9l : qcv Tryz.prog 70 1 = some 68 := by kernel_rfl
theorem pl70 : qfa Tryz.prog 70 = some [(0, 1), (1, 1)] := by kernel_rfl
theorem sz71 : q0u Tryz.prog 71 = some 1 := by kernel_rfl
theorem ag71 : aggT Tryz.prog 71 = some false := by kernel_rfl
theorem zr71 : qbb Tryz.prog 71 = some [.nil] := by kernel_rfl
theorem zo71 : qdb Tryz.prog 71 = some (.nil) := by kernel_rfl
theorem zd71 : zD Tryz.prog 71 = .nil := by kernel_rfl
theorem by71 : qb1 Tryz.prog 71 = some 24 := by kernel_rfl
theorem el71 : qcj Tryz.prog 71 = some 9 := by kernel_rfl
theorem sl71 : q08 Tryz.prog 71 = true := by kernel_rfl
theorem un71 : Tryz.prog.underlying 71 = some (.slice 9) := by kernel_rfl
theorem st71 : qcs Tryz.prog 71 = false := by kernel_rfl
theorem bo71 : qb6 Tryz.prog 71 = false := by kernel_rfl
theorem pt71 : qct Tryz.prog 71 = false := by kernel_rfl
theorem sz76 : q0u Tryz.prog 76 = some 2 := by kernel_rfl
theorem ag76 : aggT Tryz.prog 76 = some true := by kernel_rfl
theorem zr76 : qbb Tryz.prog 76 = some [.i .i64 0, .s ⟨#[]⟩] := by kernel_rfl
theorem zd76 : zD Tryz.prog 76 = .agg [.i .i64 0, .s ⟨#[]⟩] := by kernel_rfl
theorem by76 : qb1 Tryz.prog 76 = some 24 := by kernel_rfl
theorem sl76 : q08 Tryz.prog 76 = false := by kernel_rfl
theorem st76 : qcs Tryz.prog 76 = false := by kernel_rfl
theorem bo76 : qb6 Tryz.prog 76 = false := by kernel_rfl
theorem pt76 : qct Tryz.prog 76 = false := by kernel_rfl
theorem q9m : offT Tryz.prog 76 0 = some (0, 1) := by kernel_rfl
theorem q9n : qcv Tryz.prog 76 0 = some 3 := by kernel_rfl
theorem q9o : offT Tryz.prog 76 1 = some (1, 1) := by kernel_rfl
theorem q9p : qcv Tryz.prog 76 1 = some 9 := by kernel_rfl
theorem pl76 : qfa Tryz.prog 76 = some [(0, 1), (1, 1)] := by kernel_rfl
theorem ek76 : eqKs Tryz.prog 76 = some [.i, .s] := by kernel_rfl
theorem sz86 : q0u Tryz.prog 86 = some 1 := by kernel_rfl
theorem ag86 : aggT Tryz.prog 86 = some false := by kernel_rfl
theorem zr86 : qbb Tryz.prog 86 = some [.nil] := by kernel_rfl
theorem zo86 : qdb Tryz.prog 86 = some (.nil) := by kernel_rfl
theorem zd86 : zD Tryz.prog 86 = .nil := by kernel_rfl
theorem by86 : qb1 Tryz.prog 86 = some 24 := by kernel_rfl
theorem el86 : qcj Tryz.prog 86 = some 5 := by kernel_rfl
theorem sl86 : q08 Tryz.prog 86 = true := by kernel_rfl
theorem un86 : Tryz.prog.underlying 86 = some (.slice 5) := by kernel_rfl
theorem st86 : qcs Tryz.prog 86 = false := by kernel_rfl
theorem bo86 : qb6 Tryz.prog 86 = false := by kernel_rfl
theorem pt86 : qct Tryz.prog 86 = false := by kernel_rfl
theorem ck86 : ckT Tryz.prog 86 = .bytes := by kernel_rfl
theorem sz97 : q0u Tryz.prog 97 = some 1 := by kernel_rfl
theorem ag97 : aggT Tryz.prog 97 = some false := by kernel_rfl
theorem zr97 : qbb Tryz.prog 97 = some [.np] := by kernel_rfl
theorem zo97 : qdb Tryz.prog 97 = some (.np) := by kernel_rfl
theorem zd97 : zD Tryz.prog 97 = .np := by kernel_rfl
theorem by97 : qb1 Tryz.prog 97 = some 8 := by kernel_rfl
theorem sl97 : q08 Tryz.prog 97 = false := by kernel_rfl
theorem st97 : qcs Tryz.prog 97 = false := by kernel_rfl
theorem bo97 : qb6 Tryz.prog 97 = false := by kernel_rfl
theorem pt97 : qct Tryz.prog 97 = true := by kernel_rfl
theorem sz99 : q0u Tryz.prog 99 = some 4 := by kernel_rfl
theorem ag99 : aggT Tryz.prog 99 = some true := by kernel_rfl
theorem zr99 : qbb Tryz.prog 99 = some [.s ⟨#[]⟩, .i .i64 0, .i .i64 0, .i .i64 0] := by kernel_rfl
theorem zd99 : zD Tryz.prog 99 = .agg [.s ⟨#[]⟩, .i .i64 0, .i .i64 0, .i .i64 0] := by kernel_rfl
theorem by99 : qb1 Tryz.prog 99 = some 40 := by kernel_rfl
theorem sl99 : q08 Tryz.prog 99 = false := by kernel_rfl
theorem st99 : qcs Tryz.prog 99 = false := by kernel_rfl
theorem bo99 : qb6 Tryz.prog 99 = false := by kernel_rfl
theorem pt99 : qct Tryz.prog 99 = false := by kernel_rfl
theorem q9q : offT Tryz.prog 99 0 = some (0, 1) := by kernel_rfl
theorem q9r : qcv Tryz.prog 99 0 = some 9 := by kernel_rfl
theorem q9s : offT Tryz.prog 99 1 = some (1, 1) := by kernel_rfl
theorem q9t : qcv Tryz.prog 99 1 = some 3 := by kernel_rfl
theorem q9u : offT Tryz.prog 99 2 = some (2, 1) := by kernel_rfl
theorem q9v : qcv Tryz.prog 99 2 = some 3 := by kernel_rfl
theorem q9w : offT Tryz.prog 99 3 = some (3, 1) := by kernel_rfl
theorem q9x : qcv Tryz.prog 99 3 = some 25 := by kernel_rfl
theorem pl99 : qfa Tryz.prog 99 = some [(0, 1), (1, 1), (2, 1), (3, 1)] := by kernel_rfl
theorem ek99 : eqKs Tryz.prog 99 = some [.s, .i, .i, .i] := by kernel_rfl
theorem qbdr : q0u Tryz.prog 103 = some 1 := by kernel_rfl
theorem qbds : aggT Tryz.prog 103 = some false := by kernel_rfl
theorem qbdt : qbb Tryz.prog 103 = some [.np] := by kernel_rfl
theorem qbdu : qdb Tryz.prog 103 = some (.np) := by kernel_rfl
theorem qbdv : zD Tryz.prog 103 = .np := by kernel_rfl
theorem qbdw : qb1 Tryz.prog 103 = some 8 := by kernel_rfl
theorem qbdx : q08 Tryz.prog 103 = false := by kernel_rfl
theorem qbdy : qcs Tryz.prog 103 = false := by kernel_rfl
theorem qbdz : qb6 Tryz.prog 103 = false := by kernel_rfl
theorem qbd0 : qct Tryz.prog 103 = true := by kernel_rfl
theorem qbd1 : q0u Tryz.prog 105 = some 4 := by kernel_rfl
theorem qbd2 : aggT Tryz.prog 105 = some true := by kernel_rfl
theorem qbd3 : qbb Tryz.prog 105 = some [.s ⟨#[]⟩, .i .i64 0, .i .i64 0, .i .i64 0] := by kernel_rfl
theorem qbd4 : zD Tryz.prog 105 = .agg [.s ⟨#[]⟩, .i .i64 0, .i .i64 0, .i .i64 0] := by kernel_rfl
theorem qbd5 : qb1 Tryz.prog 105 = some 40 := by kernel_rfl
theorem qbd6 : q08 Tryz.prog 105 = false := by kernel_rfl
theorem qbd7 : qcs Tryz.prog 105 = false := by kernel_rfl
theorem qbd8 : qb6 Tryz.prog 105 = false := by kernel_rfl
theorem qbd9 : qct Tryz.prog 105 = false := by kernel_rfl
theorem qbdj : offT Tryz.prog 105 0 = some (0, 1) := by kernel_rfl
theorem qbdk : qcv Tryz.prog 105 0 = some 9 := by kernel_rfl
theorem qbdl : offT Tryz.prog 105 1 = some (1, 1) := by kernel_rfl
theorem qbdm : qcv Tryz.prog 105 1 = some 3 := by kernel_rfl
theorem qbdn : offT Tryz.prog 105 2 = some (2, 1) := by kernel_rfl
theorem qbdo : qcv Tryz.prog 105 2 = some 3 := by kernel_rfl
theorem qbdp : offT Tryz.prog 105 3 = some (3, 1) := by kernel_rfl
theorem qbdq : qcv Tryz.prog 105 3 = some 3 := by kernel_rfl
theorem qbea : qfa Tryz.prog 105 = some [(0, 1), (1, 1), (2, 1), (3, 1)] := by kernel_rfl
theorem qbeb : eqKs Tryz.prog 105 = some [.s, .i, .i, .i] := by kernel_rfl
theorem qbbd : q0u Tryz.prog 139 = some 1 := by kernel_rfl
theorem qbbe : aggT Tryz.prog 139 = some false := by kernel_rfl
theorem qbbf : qbb Tryz.prog 139 = some [.nil] := by kernel_rfl
theorem qbbg : qdb Tryz.prog 139 = some (.nil) := by kernel_rfl
theorem qbbh : zD Tryz.prog 139 = .nil := by kernel_rfl
theorem qbbi : qb1 Tryz.prog 139 = some 24 := by kernel_rfl
theorem qbbj : qcj Tryz.prog 139 = some 25 := by kernel_rfl
theorem qbbk : q08 Tryz.prog 139 = true := by kernel_rfl
theorem qbbl : Tryz.prog.underlying 139 = some (.slice 25) := by kernel_rfl
theorem qbbm : qcs Tryz.prog 139 = false := by kernel_rfl
theorem qbbn : qb6 Tryz.prog 139 = false := by kernel_rfl
theorem qbbo : qct Tryz.prog 139 = false := by kernel_rfl
end Go.Ev.Ty
namespace Go.Ev
def decI (k : IntKind) : D → Option Int
 | .i k' n => if k' = k then some n else none
 | _ => none
def decS : D → Option ByteArray
 | .s x => some x
 | _ => none
def decM {α : Type} (f : D → Option α) : List D → Option (List α)
 | [] => some []
 | d :: l => match f d, decM f l with
   | some x, some r => some (x :: r)
   | _, _ => none
def decL {α : Type} (z : Nat) (f : D → Option α) : D → Option (List α)
 | .nil => some []
 | .sl z' l => if z' = z then decM f l else none
 | _ => none
theorem qu7 (k : IntKind) (n : Int) : decI k (D.i k n) = some n := by simp [decI]
theorem q3v (n : ByteArray) : decS (D.s n) = some n := rfl
theorem qil {k : IntKind} {d : D} {n : Int} (h : decI k d = some n) : dle d (D.i k n) := by
 unfold decI at h
 split at h
 ·split at h
  ·cases h; rename_i e; subst e; exact qbz _
  ·cases h
 ·cases h
theorem q61 {d : D} {n : ByteArray} (h : decS d = some n) : dle d (D.s n) := by
 unfold decS at h
 split at h
 ·cases h; exact qbz _
 ·cases h
theorem qob {α : Type} {f : D → Option α} : decM f [] = some [] := rfl
theorem ql5 {α : Type} {f : D → Option α} {d : D} {l : List D} : decM f (d :: l) = (match f d, decM f l with
 | some x, some r => some (x :: r)
 | _, _ => none) := rfl
theorem qk2 {α : Type} {f : D → Option α} {g : α → D} (h : ∀ x, f (g x) = some x) : ∀ l : List α, decM f (l.map g) = some l
 | [] => rfl
 | x :: l => by simp [decM, h, qk2 h l]
theorem qrf {α : Type} {f : D → Option α} {z z' : Nat} {l : List D} : decL z f (.sl z' l) = if z' = z then decM f l else none := rfl
theorem qg9 {α : Type} {f : D → Option α} {g : α → D} {z : Nat} (h : ∀ x, f (g x) = some x) (l : List α) : decL z f (.sl z (l.map g)) = some l := by simp [decL, qk2 h]
theorem qxo {α : Type} {f : D → Option α} {g : α → D} (h : ∀ {d x}, f d = some x → dle d (g x)) : ∀ {l : List D} {x : List α}, decM f l = some x → dles l (x.map g)
 | [], x, hl => by cases hl; simp [dles]
 | d :: l, x, hl => by
   unfold decM at hl
   split at hl
   ·rename_i a r h1 h2
    cases hl
    simp only [List.map_cons, dles]
    exact ⟨h h1, qxo h h2⟩
   ·cases hl
theorem qfz {α : Type} {f : D → Option α} {g : α → D} {z : Nat} (h : ∀ {d x}, f d = some x → dle d (g x)) {d : D} {x : List α} (hd : decL z f d = some x) : dle d (.sl z (x.map g)) := by
 unfold decL at hd
 split at hd
 ·cases hd; simp [dle]
 ·split at hd
  ·rename_i e
   subst e
   simp only [dle]
   exact ⟨trivial, qxo h hd⟩
  ·cases hd
 ·cases hd
theorem qrg (x y : ByteArray) : seq x y = true ↔ x = y := by
 unfold seq
 rw [beq_iff_eq, ByteArray.toList_eq, ByteArray.toList_eq]
 exact ⟨fun h => Go.WideShapes.bytes_inj h, fun h => by rw [h]⟩
theorem qrh (x y : ByteArray) : seq x y = decide (x = y) := by
 rw [Bool.eq_iff_iff, qrg, decide_eq_true_iff]
end Go.Ev
namespace Go.Ev
structure Change where
 file : ByteArray
 kind : Int
 rrn : Int
 before : ByteArray
 after : ByteArray
deriving DecidableEq
structure Entry where
 number : Int
 kind : Int
 unit : Int
 change : Change
deriving DecidableEq
end Go.Ev
namespace Go.Ev
def chr (s : ByteArray) (i : Nat) : Int := ((s.data.toList.getD i 0).toNat : Int)
def qk3 (first : Bool) (c : Int) : Bool := (decide (65 ≤ c) && decide (c ≤ 90) || c == 35 || c == 36 || c == 64) || (!first && (c == 95 || c == 46 || decide (48 ≤ c) && decide (c ≤ 57)))
def q0l (s : ByteArray) : Bool := decide (1 ≤ s.size) && decide (s.size ≤ 10) && (List.range s.size).all fun i => qk3 (i == 0) (chr s i)
theorem qy5 (s : ByteArray) (k : Nat) : (qdc s).getD k (.i .u8 0) = .i .u8 (chr s k) := by
 unfold qdc chr
 simp only [List.getD, List.getElem?_map]
 cases s.data.toList[k]? <;> rfl
theorem qd4 (s : ByteArray) (i : Nat) : ((s.data.toList.getD i 0).toNat : Int) = chr s i := rfl
theorem qsm {s : ByteArray} {i : Nat} (h : i < s.size) (hc : qk3 (i == 0) (chr s i) = false) : q0l s = false := by
 unfold q0l
 rw [Bool.and_eq_false_iff]
 right
 rw [List.all_eq_false]
 exact ⟨i, by simpa using h, by simp [hc]⟩
theorem qpm {s : ByteArray} (h1 : 1 ≤ s.size) (h2 : s.size ≤ 10) (h : ∀ j, j < s.size → qk3 (j == 0) (chr s j) = true) : q0l s = true := by
 unfold q0l
 simp only [Bool.and_eq_true, decide_eq_true_eq, List.all_eq_true, List.mem_range]
 exact ⟨⟨h1, h2⟩, h⟩
theorem qpn {s : ByteArray} (h : (s.size : Int) < 1 ∨ 10 < (s.size : Int)) : q0l s = false := by
 unfold q0l
 rw [Bool.and_eq_false_iff]
 left
 simp only [Bool.and_eq_false_iff, decide_eq_false_iff_not]
 omega
theorem qhz (i : Nat) (c : Int) : qk3 (i == 0) c = true ↔ (((65 ≤ c ∧ c ≤ 90) ∨ c = 35 ∨ c = 36 ∨ c = 64) ∨ (i ≠ 0 ∧ (c = 95 ∨ c = 46 ∨ (48 ≤ c ∧ c ≤ 57)))) := by
 simp [qk3]
 omega
theorem qoc (s : ByteArray) : s = ⟨#[]⟩ ↔ s.size = 0 := by
 constructor
 ·rintro rfl; rfl
 ·intro h
  cases s with | mk d => simp only [ByteArray.size, Array.size_eq_zero_iff] at h; rw [h]
def pEnd (u : Int) (e : Entry) : Bool := (e.kind == 2 || e.kind == 3) && e.unit == u
def qbbp (l : List Entry) (u : Int) : Option Entry := l.find? (pEnd u)
def ends (l : List Entry) (u : Int) : Int := match qbbp l u with | some e => e.kind | none => -1
section
variable {l : List Entry} {c : Int × Int} {i : Nat}
end
section
variable {l : List Entry} {u : Int} {i : Nat}
theorem qiz {α : Type} {l : List α} {i : Nat} (z : α) (h : i < l.length) : l.getD i z ∈ l := by
 simp only [List.getD, List.getElem?_eq_getElem h, Option.getD_some]
 exact List.getElem_mem h
end
theorem ql6 {α : Type} {a b : List α} {i : Nat} {z : α} (h : a.take i = b.take i) (ha : i < a.length) (hb : i < b.length) (he : a.getD i z = b.getD i z) : a.take (i + 1) = b.take (i + 1) := by
 rw [qsl z ha, qsl z hb, h, he]
theorem qnu {α : Type} {a b : List α} {i : Nat} (h : a.take i = b.take i) (ha : a.length ≤ i) (hb : b.length ≤ i) : a = b := by
 rwa [List.take_of_length_le ha, List.take_of_length_le hb] at h
end Go.Ev
namespace Go.Ev
structure CVal where
 kind : Int
 text : ByteArray
deriving DecidableEq
def q0k (x : CVal) : D := .agg [.i .i64 x.kind, .s x.text]
def qbi : CVal := ⟨0, ⟨#[]⟩⟩
theorem qbq (x : CVal) : (⟨x.kind, x.text⟩ : CVal) = x := rfl
def qba : D → Option CVal
 | .agg [.i .i64 a0, .s a1] => some ⟨a0, a1⟩
 | _ => none
theorem qjt (x : CVal) : qba (q0k x) = some x := rfl
theorem qif {d : D} {x : CVal} (h : qba d = some x) : dle d (q0k x) := by
 unfold qba at h
 split at h
 ·cases h; exact qbz _
 ·cases h
theorem qb4 : (⟨0, ⟨#[]⟩⟩ : CVal) = qbi := rfl
theorem q62 {a0 b0 : Int} {a1 b1 : ByteArray} : qbu [.i, .s] [.i .i64 a0, .s a1] [.i .i64 b0, .s b1] = some (eqB (⟨a0, a1⟩ : CVal) ⟨b0, b1⟩) := by
 simp only [qbu, qhv, qrh, ↓reduceIte, Option.some.injEq, Bool.and_true]; rw [Bool.eq_iff_iff]; simp [eqB]
theorem q1j (l : List CVal) (k : Nat) : (l.map q0k).getD k (q0k qbi) = q0k (l.getD k qbi) := by
 simp only [List.getD, List.getElem?_map]
 cases l[k]? <;> rfl
theorem q09 (l : List CVal) (k : Nat) : (l.map q0k).getD k (.agg [.i .i64 0, .s ⟨#[]⟩]) = q0k (l.getD k qbi) := q1j l k
theorem qbr (l : List CVal) : decL 2 qba (.sl 2 (l.map q0k)) = some l := qg9 qjt l
theorem qbs (l : List CVal) : decM qba (l.map q0k) = some l := qk2 qjt l
structure CPart where
 keyword : ByteArray
 values : List CVal
deriving DecidableEq
def q0d (x : CPart) : D := .agg [.s x.keyword, .sl 2 (x.values.map q0k)]
def q0b : CPart := ⟨⟨#[]⟩, []⟩
theorem qcd (x : CPart) : (⟨x.keyword, x.values⟩ : CPart) = x := rfl
def qbd : D → Option CPart
 | .agg [.s a0, a1] => match (decL 2 qba) a1 with
   | some b1 => some ⟨a0, b1⟩
   | _ => none
 | _ => none
theorem ql7 (x : CPart) : qbd (q0d x) = some x := by
 simp [qbd, q0d, (qg9 qjt)]
theorem qju {d : D} {x : CPart} (h : qbd d = some x) : dle d (q0d x) := by
 unfold qbd at h
 split at h
 ·split at h
  ·rename_i h1
   cases h
   simp only [dle, dles, q0d, and_true, true_and]
   exact (qfz qif) h1
  ·cases h
 ·cases h
theorem qcy : (⟨⟨#[]⟩, []⟩ : CPart) = q0b := rfl
theorem qce (l : List CPart) : decL 2 qbd (.sl 2 (l.map q0d)) = some l := qg9 ql7 l
theorem qcf (l : List CPart) : decM qbd (l.map q0d) = some l := qk2 ql7 l
structure CStr where
 name : ByteArray
 parts : List CPart
deriving DecidableEq
def q05 (x : CStr) : D := .agg [.s x.name, .sl 2 (x.parts.map q0d)]
def qfl : CStr := ⟨⟨#[]⟩, []⟩
theorem qd6 (x : CStr) : (⟨x.name, x.parts⟩ : CStr) = x := rfl
def qbf : D → Option CStr
 | .agg [.s a0, a1] => match (decL 2 qbd) a1 with
   | some b1 => some ⟨a0, b1⟩
   | _ => none
 | _ => none
theorem qcl {d : D} {x : CStr} (h : qbf d = some x) : dle d (q05 x) := by
 unfold qbf at h
 split at h
 ·split at h
  ·rename_i h1
   cases h
   simp only [dle, dles, q05, and_true, true_and]
   exact (qfz qju) h1
  ·cases h
 ·cases h
theorem qew : (⟨⟨#[]⟩, []⟩ : CStr) = qfl := rfl
structure CParam where
 keyword : ByteArray
 type_ : Int
 length : Int
 low : Int
 high : Int
 special : List ByteArray
 choices : List ByteArray
 most : Int
 required : Bool
 default : ByteArray
deriving DecidableEq
def qsn (x : CParam) : D := .agg [.s x.keyword, .i .i64 x.type_, .i .i64 x.length, .i .i64 x.low, .i .i64 x.high, .sl 1 (x.special.map D.s), .sl 1 (x.choices.map D.s), .i .i64 x.most, .b x.required, .s x.default]
structure CDep where
 control : Int
 value : ByteArray
 params : List Int
 least : Int
 most : Int
deriving DecidableEq
def qxp (x : CDep) : D := .agg [.i .i64 x.control, .s x.value, .sl 1 (x.params.map (D.i .i64)), .i .i64 x.least, .i .i64 x.most]
structure CDef where
 name : ByteArray
 params : List CParam
 positions : Int
 deps : List CDep
deriving DecidableEq
def q63 (x : CDef) : D := .agg [.s x.name, .sl 10 (x.params.map qsn), .i .i64 x.positions, .sl 5 (x.deps.map qxp)]
end Go.Ev
namespace Go.Ev
structure Rd where
 s : ByteArray
 pos : Nat
 place : Int
 err : Int
def qcm (s : ByteArray) (a p e : Int) : Option Rd := if 0 ≤ a then some ⟨s, a.toNat, p, e⟩ else none
theorem qim {s : ByteArray} {n : Nat} {p e : Int} : qcm s (n : Int) p e = some ⟨s, n, p, e⟩ := by unfold qcm; rw [if_pos (by omega)]; rfl
theorem qha {s : ByteArray} {n : Nat} {p e : Int} : qcm s ((n : Int) + 1) p e = some ⟨s, n + 1, p, e⟩ := by unfold qcm; rw [if_pos (by omega)]; rfl
theorem qin {s : ByteArray} {p e : Int} : qcm s 0 p e = some ⟨s, 0, p, e⟩ := by unfold qcm; rw [if_pos (by omega)]; rfl
theorem qso {s : ByteArray} {a p e : Int} {r : Rd} (h : qcm s a p e = some r) : r.s = s ∧ (r.pos : Int) = a ∧ r.place = p ∧ r.err = e := by
 unfold qcm at h
 split at h
 ·cases h; exact ⟨rfl, Int.toNat_of_nonneg ‹_›, rfl, rfl⟩
 ·cases h
theorem qfs {t : TypeId} {s : ByteArray} {a p e : Int} {r : Rd} (h : qcm s a p e = some r) : ole (.bx t [.d (.s s), .d (.i .i64 a), .d (.i .i64 p), .d (.i .i64 e)]) (.bx t [.d (.s r.s), .d (.i .i64 (r.pos : Int)), .d (.i .i64 r.place), .d (.i .i64 r.err)]) := by
 obtain ⟨h1, h2, h3, h4⟩ := qso h
 rw [h1, h2, h3, h4]; exact q0y _
theorem q3w {s : ByteArray} {a p e : Int} {r : Rd} (h : qcm s a p e = some r) : dle (.cp [.s s, .i .i64 a, .i .i64 p, .i .i64 e]) (.cp [.s r.s, .i .i64 (r.pos : Int), .i .i64 r.place, .i .i64 r.err]) := by
 obtain ⟨h1, h2, h3, h4⟩ := qso h
 rw [h1, h2, h3, h4]; exact qbz _
def endC (c : Int) : Bool := decide (c = 32) || decide (c = 40) || decide (c = 41) || decide (c = 39)
def fP (e0 p0 p : Int) : Int := if e0 = 0 then p else p0
def fE (e0 e : Int) : Int := if e0 = 0 then e else e0
def Rd.fail (r : Rd) (p e : Int) : Rd := ⟨r.s, r.pos, fP r.err r.place p, fE r.err e⟩
def qb0 (p : Int → Bool) (s : ByteArray) : Nat → Nat → Nat
 | 0, i => i
 | n + 1, i => if i < s.size ∧ p (chr s i) = true then qb0 p s n (i + 1) else i
def skip (p : Int → Bool) (s : ByteArray) (i : Nat) : Nat := qb0 p s s.size i
def isBl (c : Int) : Bool := decide (c = 32)
def Rd.blanks (r : Rd) : Rd := ⟨r.s, skip isBl r.s r.pos, r.place, r.err⟩
theorem qnv {p : Int → Bool} {s : ByteArray} : ∀ (n i j : Nat), i ≤ j → j ≤ s.size → s.size - i ≤ n → (∀ k, i ≤ k → k < j → p (chr s k) = true) → (j = s.size ∨ p (chr s j) = false) → qb0 p s n i = j
 | 0, i, j, h1, h2, h3, _, _ => by unfold qb0; omega
 | n + 1, i, j, h1, h2, h3, h4, h5 => by
   unfold qb0
   by_cases e : i = j
   ·subst e
    rw [if_neg]
    rintro ⟨k1, k2⟩
    rcases h5 with h5 | h5
    ·omega
    ·rw [h5] at k2; cases k2
   ·rw [if_pos ⟨by omega, h4 i (Nat.le_refl _) (by omega)⟩]
    exact qnv n (i + 1) j (by omega) h2 (by omega) (fun k k1 k2 => h4 k (by omega) k2) h5
theorem qu8 {p : Int → Bool} {s : ByteArray} : ∀ (n i : Nat), s.size ≤ i → qb0 p s n i = i
 | 0, i, _ => rfl
 | n + 1, i, h => by unfold qb0; rw [if_neg (by omega)]
theorem qu9 {p : Int → Bool} {s : ByteArray} {i : Nat} (h : s.size ≤ i) : skip p s i = i := qu8 _ _ h
theorem qri {p : Int → Bool} {s : ByteArray} {i j : Nat} (h1 : i ≤ j) (h2 : j ≤ s.size) (h4 : ∀ k, i ≤ k → k < j → p (chr s k) = true) (h5 : j = s.size ∨ p (chr s j) = false) : skip p s i = j :=
 qnv _ i j h1 h2 (by omega) h4 h5
def inW (c : Int) : Bool := !endC c
def upS (s : ByteArray) : ByteArray := ⟨(Go.Lib.toUpperA s.data.toList).toArray⟩
def asc (s : ByteArray) : Prop := s.size ≤ 400 ∧ ∀ b ∈ s.data.toList, b.toNat < 128
def Rd.wend (r : Rd) : Nat := skip inW r.s r.pos
def Rd.word (r : Rd) : Rd := ⟨r.s, r.wend, r.place, r.err⟩
def Rd.wtxt (r : Rd) : ByteArray := upS (r.s.extract r.pos r.wend)
theorem qjv {s : ByteArray} (h : asc s) (i j : Nat) : (s.extract i j).size ≤ 140737488355328 ∧ ∀ b ∈ (s.extract i j).data.toList, b.toNat < 128 := by
 refine ⟨?_, fun b hb => h.2 b ?_⟩
 ·have := h.1
  simp only [ByteArray.size_extract]
  omega
 ·rw [ByteArray.data_extract, Array.toList_extract] at hb
  exact List.mem_of_mem_drop (List.mem_of_mem_take hb)
theorem qm3 {c : Int} : inW c = true ↔ c ≠ 32 ∧ c ≠ 40 ∧ c ≠ 41 ∧ c ≠ 39 := by simp [inW, endC]; omega
theorem q64 {c : Int} : endC c = true ↔ inW c = false := by simp [inW]
theorem qva {c : Int} : isBl c = true ↔ c = 32 := by simp [isBl]
theorem qsp {q : Int → Bool} {s : ByteArray} {a i : Nat} (h : ∀ k, a ≤ k → k < i → q (chr s k) = true) (hi : q (chr s i) = true) : ∀ k, a ≤ k → k < i + 1 → q (chr s k) = true := fun k h1 h2 => by
 by_cases e : k < i
 ·exact h k h1 e
 ·have : k = i := by omega
  subst this; exact hi
def badC (c : Int) : Bool := decide (c < 32) || decide (126 < c)
def idxP (p : Int → Bool) (l : List Int) : Int := match l.findIdx? p with
 | some k => (k : Int)
 | none => -1
theorem qrj {p : Int → Bool} {l : List Int} {i : Nat} (hi : i < l.length) (h : p (l.getD i 0) = true) (hb : ∀ j, j < i → p (l.getD j 0) = false) : idxP p l = (i : Int) := by
 unfold idxP
 have : l.findIdx? p = some i := by
  rw [List.findIdx?_eq_some_iff_getElem]
  refine ⟨hi, by simpa [hi] using h, fun j hj => ?_⟩
  have := hb j hj
  have hjl : j < l.length := by omega
  simpa [hjl] using this
 rw [this]
theorem qkb {p : Int → Bool} {l : List Int} (hb : ∀ j, j < l.length → p (l.getD j 0) = false) : idxP p l = -1 := by
 unfold idxP
 have : l.findIdx? p = none := by
  rw [List.findIdx?_eq_none_iff]
  intro x hx
  obtain ⟨j, hj, rfl⟩ := List.getElem_of_mem hx
  have := hb j hj
  simpa [hj] using this
 rw [this]
theorem qod (l : List Int) (k : Nat) : (l.map (D.i .u8)).getD k (.i .u8 0) = .i .u8 (l.getD k 0) := by
 simp only [List.getD, List.getElem?_map]
 cases l[k]? <;> rfl
def qrun (s : ByteArray) : Nat → Nat → List Int → Nat × List Int × Bool
 | 0, i, l => (i, l, false)
 | n + 1, i, l => if i < s.size then (if chr s i = 39 then (if i + 1 < s.size ∧ chr s (i + 1) = 39 then qrun s n (i + 2) (l ++ [39]) else (i + 1, l, true)) else qrun s n (i + 1) (l ++ [chr s i])) else (i, l, false)
theorem qje {s : ByteArray} : ∀ (n m i : Nat) (l : List Int), s.size < i + n → s.size < i + m → qrun s n i l = qrun s m i l
 | 0, 0, i, l, _, _ => rfl
 | 0, m + 1, i, l, h, _ => by unfold qrun; rw [if_neg (by omega)]
 | n + 1, 0, i, l, _, h => by unfold qrun; rw [if_neg (by omega)]
 | n + 1, m + 1, i, l, h1, h2 => by
   unfold qrun
   rw [qje n m (i + 2) (l ++ [39]) (by omega) (by omega), qje n m (i + 1) (l ++ [chr s i]) (by omega) (by omega)]
def qq (s : ByteArray) (i : Nat) (l : List Int) : Nat × List Int × Bool := qrun s (s.size + 1) i l
theorem qm4 {s : ByteArray} {i : Nat} {l : List Int} : qq s i l = if i < s.size then (if chr s i = 39 then (if i + 1 < s.size ∧ chr s (i + 1) = 39 then qq s (i + 2) (l ++ [39]) else (i + 1, l, true)) else qq s (i + 1) (l ++ [chr s i])) else (i, l, false) := by
 conv => lhs; unfold qq qrun
 unfold qq
 rw [qje s.size (s.size + 1) (i + 2) (l ++ [39]) (by omega) (by omega), qje s.size (s.size + 1) (i + 1) (l ++ [chr s i]) (by omega) (by omega)]
theorem q9y {s : ByteArray} {i : Nat} {l : List Int} (h : s.size ≤ i) : qq s i l = (i, l, false) := by rw [qm4, if_neg (by omega)]
theorem qxq {s : ByteArray} {i : Nat} {l : List Int} (h : i < s.size) (k : ¬ chr s i = 39) : qq s i l = qq s (i + 1) (l ++ [chr s i]) := by rw [qm4, if_pos h, if_neg k]
theorem q1k {s : ByteArray} {i : Nat} {l : List Int} (h : i + 1 < s.size) (k : chr s i = 39) (k2 : chr s (i + 1) = 39) : qq s i l = qq s (i + 2) (l ++ [39]) := by rw [qm4, if_pos (by omega), if_pos k, if_pos ⟨h, k2⟩]
theorem qxr {s : ByteArray} {i : Nat} {l : List Int} (h : i < s.size) (k : chr s i = 39) (k2 : ¬ (i + 1 < s.size ∧ chr s (i + 1) = 39)) : qq s i l = (i + 1, l, true) := by rw [qm4, if_pos h, if_pos k, if_neg k2]
def Rd.to (r : Rd) (i : Nat) : Rd := ⟨r.s, i, r.place, r.err⟩
def Rd.qres (r : Rd) : Nat × List Int × Bool := qq r.s (r.pos + 1) []
def Rd.qval (r : Rd) : CVal := if r.qres.2.2 = true then ⟨1, strD (r.qres.2.1.map (D.i .u8))⟩ else qbi
def Rd.quoted (r : Rd) : Rd := if r.qres.2.2 = true then (if 64 < r.qres.2.1.length then (r.to r.qres.1).fail r.pos 2 else r.to r.qres.1) else (r.to r.qres.1).fail r.s.size 8
def qnx (s : ByteArray) (p : Nat × List Int) : Nat × List Int := if chr s p.1 = 39 then (p.1 + 2, p.2 ++ [39]) else (p.1 + 1, p.2 ++ [chr s p.1])
theorem q65 {s : ByteArray} {p : Nat × List Int} (h : chr s p.1 = 39) : qnx s p = (p.1 + 2, p.2 ++ [39]) := if_pos h
theorem q66 {s : ByteArray} {p : Nat × List Int} (h : ¬ chr s p.1 = 39) : qnx s p = (p.1 + 1, p.2 ++ [chr s p.1]) := if_neg h
theorem qvb (l : List Int) : (l.map (D.i .u8)).all isU8 = true := by
 rw [List.all_map, List.all_eq_true]; intro x _; rfl
theorem qdk {α : Type} (l : List α) (n : Nat) (h : n = l.length) : l.take n = l := by subst h; exact List.take_length
theorem qpo (r : Rd) : (⟨r.s, r.pos, r.place, r.err⟩ : Rd) = r := rfl
theorem q1l {r : Rd} {p e : Int} : (r.fail p e).s = r.s := rfl
theorem qft {r : Rd} {p e : Int} : (r.fail p e).pos = r.pos := rfl
theorem qh0 {r : Rd} : r.word.s = r.s := rfl
theorem qpp {r : Rd} {i : Nat} : (r.to i).pos = i := rfl
theorem qhu {p : Int → Bool} {s : ByteArray} : ∀ (n i : Nat), i ≤ s.size → i ≤ qb0 p s n i ∧ qb0 p s n i ≤ s.size
 | 0, i, h => ⟨Nat.le_refl _, h⟩
 | n + 1, i, h => by
   unfold qb0
   split
   ·have := qhu (p := p) (s := s) n (i + 1) (by omega); omega
   ·exact ⟨Nat.le_refl _, h⟩
theorem qer {r : Rd} (h : r.pos ≤ r.s.size) : r.pos ≤ r.word.pos ∧ r.word.pos ≤ r.s.size := qhu _ _ h
theorem qbe {r : Rd} : r.blanks.s = r.s := rfl
theorem qcn {r : Rd} (h : r.pos ≤ r.s.size) : r.pos ≤ r.blanks.pos ∧ r.blanks.pos ≤ r.s.size := qhu _ _ h
theorem qoe {s : ByteArray} : ∀ (n i : Nat) (l : List Int), i ≤ s.size → i ≤ (qrun s n i l).1 ∧ (qrun s n i l).1 ≤ s.size
 | 0, i, l, h => ⟨Nat.le_refl _, h⟩
 | n + 1, i, l, h => by
   unfold qrun
   split
   ·split
    ·split
     ·have := qoe (s := s) n (i + 2) (l ++ [39]) (by omega); omega
     ·exact ⟨by simp, by simp; omega⟩
    ·have := qoe (s := s) n (i + 1) (l ++ [chr s i]) (by omega); omega
   ·exact ⟨Nat.le_refl _, h⟩
theorem qcq {r : Rd} : r.quoted.s = r.s := by
 unfold Rd.quoted; split
 ·split
  ·exact q1l
  ·rfl
 ·exact q1l
theorem qpq {r : Rd} (h : r.pos < r.s.size) : r.pos < r.quoted.pos ∧ r.quoted.pos ≤ r.s.size := by
 have q := qoe (s := r.s) (r.s.size + 1) (r.pos + 1) [] (by omega)
 have e : r.quoted.pos = r.qres.1 := by
  unfold Rd.quoted; split
  ·split
   ·exact qft
   ·rfl
  ·exact qft
 rw [e]; exact ⟨by unfold Rd.qres qq; omega, q.2⟩
def isAt (s : ByteArray) (i : Nat) (c : Int) : Bool := decide (i < s.size) && decide (chr s i = c)
def Rd.is (r : Rd) (c : Int) : Bool := isAt r.s r.pos c
def Rd.stop (r : Rd) (op : Bool) : Rd := if (decide (r.pos < r.s.size) && !r.is 32 && !(op && r.is 41)) = true then r.fail r.pos 8 else r
def Rd.valV (r : Rd) : CVal := if r.is 39 = true then r.qval else ⟨0, r.wtxt⟩
def Rd.valR (r : Rd) : Rd := if r.is 39 = true then r.quoted else if 64 < r.wtxt.size then r.word.fail r.pos 2 else r.word
theorem qgc {r : Rd} {op : Bool} (h : ((r.pos : Int) < (r.s.size : Int) ∧ isAt r.s r.pos 32 = false) ∧ (op = false ∨ isAt r.s r.pos 41 = false)) : r.stop op = r.fail r.pos 8 := by
 unfold Rd.stop Rd.is
 rw [if_pos]
 obtain ⟨⟨h1, h2⟩, h3⟩ := h
 rw [h2, decide_eq_true (by omega : r.pos < r.s.size)]
 rcases h3 with h3 | h3 <;> rw [h3] <;> simp
theorem qhb {r : Rd} {op : Bool} (h : ((r.s.size : Int) ≤ (r.pos : Int) ∨ isAt r.s r.pos 32 = true) ∨ op = true ∧ isAt r.s r.pos 41 = true) : r.stop op = r := by
 unfold Rd.stop Rd.is
 rw [if_neg]
 rcases h with (h | h) | ⟨h, k⟩
 ·rw [decide_eq_false (by omega : ¬ r.pos < r.s.size)]; simp
 ·rw [h]; simp
 ·rw [h, k]; simp
theorem qvc {r : Rd} (h : isAt r.s r.pos 39 = true) : r.valR = r.quoted := by unfold Rd.valR Rd.is; rw [if_pos h]
theorem q1m {r : Rd} (h : isAt r.s r.pos 39 = false) (k : 64 < r.wtxt.size) : r.valR = r.word.fail r.pos 2 := by unfold Rd.valR Rd.is; rw [if_neg (by rw [h]; decide), if_pos k]
theorem q1n {r : Rd} (h : isAt r.s r.pos 39 = false) (k : ¬ 64 < r.wtxt.size) : r.valR = r.word := by unfold Rd.valR Rd.is; rw [if_neg (by rw [h]; decide), if_neg k]
theorem etaB (r : Rd) : (⟨r.s, r.blanks.pos, r.blanks.place, r.blanks.err⟩ : Rd) = r.blanks := rfl
theorem etaW (r : Rd) : (⟨r.s, r.word.pos, r.word.place, r.word.err⟩ : Rd) = r.word := rfl
def Rd.nmT (r : Rd) : ByteArray := if r.blanks.pos = r.s.size then ⟨#[]⟩ else r.blanks.wtxt
def Rd.nmR (r : Rd) : Rd := if r.blanks.pos = r.s.size then r.blanks.fail r.blanks.pos 1 else if q0l r.blanks.wtxt = true then r.blanks.word.stop false else (r.blanks.word.stop false).fail r.blanks.pos 7
theorem qbbq {r : Rd} (h : r.blanks.pos = r.s.size) : r.nmT = ⟨#[]⟩ := if_pos h
theorem qpr {r : Rd} (h : ¬ r.blanks.pos = r.s.size) : r.nmT = r.blanks.wtxt := if_neg h
theorem qy6 {r : Rd} (h : r.blanks.pos = r.s.size) : r.nmR = r.blanks.fail r.blanks.pos 1 := if_pos h
theorem qtv {r : Rd} (h : ¬ r.blanks.pos = r.s.size) (k : q0l r.blanks.wtxt = true) : r.nmR = r.blanks.word.stop false := by unfold Rd.nmR; rw [if_neg h, if_pos k]
theorem qy7 {r : Rd} (h : ¬ r.blanks.pos = r.s.size) (k : q0l r.blanks.wtxt = false) : r.nmR = (r.blanks.word.stop false).fail r.blanks.pos 7 := by unfold Rd.nmR; rw [if_neg h, if_neg (by rw [k]; decide)]
theorem qh1 {r : Rd} (h : (r.pos : Int) < (r.s.size : Int)) (k : isAt r.s r.pos 32 = false) : r.stop false = r.fail r.pos 8 := qgc ⟨⟨h, k⟩, .inl rfl⟩
theorem qhc {r : Rd} (h : (r.s.size : Int) ≤ (r.pos : Int) ∨ isAt r.s r.pos 32 = true) : r.stop false = r := qhb (.inl h)
def lrun (op : Nat) : Nat → Rd → List CVal → Rd × List CVal
 | 0, r, out => (r, out)
 | n + 1, r, out => if r.err = 0 ∧ r.pos < r.s.size ∧ isAt r.s r.pos 41 = false then
     (if out.length = 10 then (r.fail r.pos 2, []) else if isAt r.s r.pos 40 = true then (r.fail r.pos 8, []) else lrun op n (r.valR.stop true).blanks (out ++ [r.valV]))
   else if ¬ r.err = 0 then (r, [])
   else if r.pos = r.s.size then (((r.fail r.pos 8).to (r.pos + 1)).stop false, out)
   else if out = [] then (((r.fail op 1).to (r.pos + 1)).stop false, out)
   else ((r.to (r.pos + 1)).stop false, out)
def Rd.list (r : Rd) : Rd × List CVal := lrun r.pos 12 (r.to (r.pos + 1)).blanks []
theorem qbn {r : Rd} {op : Bool} : (r.stop op).s = r.s := by unfold Rd.stop; split <;> rfl
theorem qc8 {r : Rd} {op : Bool} : (r.stop op).pos = r.pos := by unfold Rd.stop; split <;> rfl
theorem qb9 {r : Rd} : r.valR.s = r.s := by
 unfold Rd.valR; split
 ·exact qcq
 ·split <;> rfl
theorem qhd {r : Rd} (h : r.pos ≤ r.s.size) : r.pos ≤ r.valR.pos ∧ r.valR.pos ≤ r.s.size := by
 unfold Rd.valR
 split
 ·rename_i h1
  unfold Rd.is isAt at h1
  rw [Bool.and_eq_true, decide_eq_true_eq] at h1
  have := qpq h1.1
  omega
 ·split
  ·exact qer h
  ·exact qer h
theorem etaS (r : Rd) (op : Bool) : (⟨r.s, (r.valR.stop op).pos, (r.valR.stop op).place, (r.valR.stop op).err⟩ : Rd) = r.valR.stop op := by
 have : r.s = (r.valR.stop op).s := by rw [qbn, qb9]
 rw [this]
theorem qeg {q : Rd} (h : (q.pos : Int) + 1 < (q.s.size : Int) ∧ isAt q.s (q.pos + 1) 32 = false) : (q.to (q.pos + 1)).stop false = (q.to (q.pos + 1)).fail ((q.pos : Int) + 1) 8 :=
 qh1 (r := q.to (q.pos + 1)) (by show ((q.pos + 1 : Nat) : Int) < _; have := h.1; show ((q.pos + 1 : Nat) : Int) < (q.s.size : Int); omega) h.2
theorem qe1 {q : Rd} (h : (q.s.size : Int) ≤ (q.pos : Int) + 1 ∨ isAt q.s (q.pos + 1) 32 = true) : (q.to (q.pos + 1)).stop false = q.to (q.pos + 1) :=
 qhc (r := q.to (q.pos + 1)) (h.imp (fun h => by show (q.s.size : Int) ≤ ((q.pos + 1 : Nat) : Int); omega) id)
theorem qjf {q : Rd} {a b : Int} (h : (q.pos : Int) + 1 < (q.s.size : Int) ∧ isAt q.s (q.pos + 1) 32 = false) : ((q.fail a b).to (q.pos + 1)).stop false = ((q.fail a b).to (q.pos + 1)).fail ((q.pos : Int) + 1) 8 := qeg (q := q.fail a b) h
theorem qk4 {q : Rd} {a b : Int} (h : (q.s.size : Int) ≤ (q.pos : Int) + 1 ∨ isAt q.s (q.pos + 1) 32 = true) : ((q.fail a b).to (q.pos + 1)).stop false = (q.fail a b).to (q.pos + 1) := qe1 (q := q.fail a b) h
section
variable {op : Nat} {q : Rd} {out : List CVal} {L : Rd × List CVal}
theorem q67 (e : L = lrun op (12 - out.length) q out) (hl : out.length ≤ 10) (c : (q.err = 0 ∧ (q.pos : Int) < (q.s.size : Int)) ∧ isAt q.s q.pos 41 = false) (k : (out.length : Int) = 10) : L = (q.fail q.pos 2, []) := by
 rw [e, show 12 - out.length = (11 - out.length) + 1 by omega]
 unfold lrun
 rw [if_pos ⟨c.1.1, by omega, c.2⟩, if_pos (by omega)]
theorem q68 (e : L = lrun op (12 - out.length) q out) (hl : out.length ≤ 10) (c : (q.err = 0 ∧ (q.pos : Int) < (q.s.size : Int)) ∧ isAt q.s q.pos 41 = false) (k : ¬ (out.length : Int) = 10) (k2 : isAt q.s q.pos 40 = true) : L = (q.fail q.pos 8, []) := by
 rw [e, show 12 - out.length = (11 - out.length) + 1 by omega]
 unfold lrun
 rw [if_pos ⟨c.1.1, by omega, c.2⟩, if_neg (by omega), if_pos k2]
theorem q69 (e : L = lrun op (12 - out.length) q out) (hl : out.length ≤ 10) (c : (q.err = 0 ∧ (q.pos : Int) < (q.s.size : Int)) ∧ isAt q.s q.pos 41 = false) (k : ¬ (out.length : Int) = 10) (k2 : isAt q.s q.pos 40 = false) :
 L = lrun op (12 - (out ++ [q.valV]).length) (q.valR.stop true).blanks (out ++ [q.valV]) := by
 rw [e, show 12 - out.length = (11 - out.length) + 1 by omega, show 12 - (out ++ [q.valV]).length = 11 - out.length by rw [List.length_append, List.length_singleton]; omega]
 conv => lhs; unfold lrun
 rw [if_pos ⟨c.1.1, by omega, c.2⟩, if_neg (by omega), if_neg (by rw [k2]; decide)]
theorem qtw (c : (¬ q.err = 0 ∨ (q.s.size : Int) ≤ (q.pos : Int)) ∨ isAt q.s q.pos 41 = true) : ¬ (q.err = 0 ∧ q.pos < q.s.size ∧ isAt q.s q.pos 41 = false) := by
 rintro ⟨h1, h2, h3⟩
 rcases c with (c | c) | c
 ·exact c h1
 ·omega
 ·rw [c] at h3; cases h3
theorem q1o (e : L = lrun op (12 - out.length) q out) (hl : out.length ≤ 10) (c : (¬ q.err = 0 ∨ (q.s.size : Int) ≤ (q.pos : Int)) ∨ isAt q.s q.pos 41 = true) (k : ¬ q.err = 0) : L = (q, []) := by
 rw [e, show 12 - out.length = (11 - out.length) + 1 by omega]
 unfold lrun
 rw [if_neg (qtw c), if_pos k]
theorem q9z (e : L = lrun op (12 - out.length) q out) (hl : out.length ≤ 10) (c : (¬ q.err = 0 ∨ (q.s.size : Int) ≤ (q.pos : Int)) ∨ isAt q.s q.pos 41 = true) (k : q.err = 0) (k2 : (q.pos : Int) = (q.s.size : Int)) : L = (((q.fail q.pos 8).to (q.pos + 1)).stop false, out) := by
 rw [e, show 12 - out.length = (11 - out.length) + 1 by omega]
 unfold lrun
 rw [if_neg (qtw c), if_neg (by simp [k]), if_pos (by omega)]
theorem q90 (e : L = lrun op (12 - out.length) q out) (hl : out.length ≤ 10) (c : (¬ q.err = 0 ∨ (q.s.size : Int) ≤ (q.pos : Int)) ∨ isAt q.s q.pos 41 = true) (k : q.err = 0) (k2 : ¬ (q.pos : Int) = (q.s.size : Int)) (k3 : (out.length : Int) = 0) :
 L = (((q.fail op 1).to (q.pos + 1)).stop false, out) := by
 rw [e, show 12 - out.length = (11 - out.length) + 1 by omega]
 unfold lrun
 rw [if_neg (qtw c), if_neg (by simp [k]), if_neg (by omega), if_pos (List.eq_nil_of_length_eq_zero (by omega))]
theorem qbbr (e : L = lrun op (12 - out.length) q out) (hl : out.length ≤ 10) (c : (¬ q.err = 0 ∨ (q.s.size : Int) ≤ (q.pos : Int)) ∨ isAt q.s q.pos 41 = true) (k : q.err = 0) (k2 : ¬ (q.pos : Int) = (q.s.size : Int)) (k3 : ¬ (out.length : Int) = 0) :
 L = ((q.to (q.pos + 1)).stop false, out) := by
 rw [e, show 12 - out.length = (11 - out.length) + 1 by omega]
 unfold lrun
 rw [if_neg (qtw c), if_neg (by simp [k]), if_neg (by omega), if_neg (by intro h; subst h; simp at k3)]
end
theorem q5h (r : Rd) : (⟨r.s, r.pos, r.word.place, r.word.err⟩ : Rd) = r := rfl
def Rd.partV (r : Rd) : CPart := if isAt r.s r.pos 40 = true then ⟨⟨#[]⟩, r.list.2⟩ else if isAt r.s r.pos 41 = true then q0b else if isAt r.s r.pos 39 = true then ⟨⟨#[]⟩, [r.valV]⟩
 else if isAt r.s r.word.pos 40 = false then ⟨⟨#[]⟩, [r.valV]⟩ else if q0l r.wtxt = false then q0b else ⟨r.wtxt, r.word.list.2⟩
def Rd.partR (r : Rd) : Rd := if isAt r.s r.pos 40 = true then r.list.1 else if isAt r.s r.pos 41 = true then r.fail r.pos 8 else if isAt r.s r.pos 39 = true then r.valR.stop false
 else if isAt r.s r.word.pos 40 = false then r.valR.stop false else if q0l r.wtxt = false then r.word.fail r.pos 7 else r.word.list.1
theorem qm5 {s : ByteArray} {i : Nat} {c : Int} (h : isAt s i c = true) : i < s.size := by
 unfold isAt at h; rw [Bool.and_eq_true, decide_eq_true_eq] at h; exact h.1
end Go.Ev
namespace Go.Ev
def Rd.wraw (r : Rd) : ByteArray := r.s.extract r.pos r.wend
theorem qof {r : Rd} : r.wtxt = upS r.wraw := rfl
def qfm (s : ByteArray) : Prop := s.size ≤ 400 ∧ ∀ k, k < s.size → 32 ≤ chr s k ∧ chr s k ≤ 126
def inWq (c : Int) : Bool := decide (32 < c) && decide (c < 127) && !decide (c = 40) && !decide (c = 41) && !decide (c = 39)
def qk5 (op : Nat) : Nat → Rd → List CVal → Rd × List CVal
 | 0, r, out => (r, out)
 | n + 1, r, out => if r.err = 0 then
     (if r.blanks.pos < r.s.size then
       (if chr r.s r.blanks.pos = 41 then ((if out.length = 0 then r.blanks.fail op 1 else r.blanks).to (r.blanks.pos + 1), out)
        else if out.length = 10 then (r.blanks.fail r.blanks.pos 2, out)
        else if chr r.s r.blanks.pos = 40 then (r.blanks.fail r.blanks.pos 8, out)
        else qk5 op n (r.blanks.valR.stop true) (out ++ [r.blanks.valV]))
      else (r.blanks.fail r.s.size 8, out))
   else (r, out)
def Rd.rlist (r : Rd) : Rd × List CVal := qk5 r.pos 12 (r.to (r.pos + 1)) []
def Rd.rpart (r : Rd) : Rd × CPart :=
 if chr r.s r.pos = 41 then (r.fail r.pos 8, q0b)
 else if chr r.s r.pos = 40 then (r.rlist.1.stop false, ⟨⟨#[]⟩, r.rlist.2⟩)
 else if chr r.s r.pos = 39 then (r.quoted.stop false, ⟨⟨#[]⟩, [r.qval]⟩)
 else if isAt r.s r.word.pos 40 = true then (if q0l r.wtxt = true then (r.word.rlist.1.stop false, ⟨r.wtxt, r.word.rlist.2⟩) else (r.word.fail r.pos 7, ⟨r.wtxt, []⟩))
 else ((if 64 < r.wraw.size then r.word.fail r.pos 2 else r.word).stop false, ⟨⟨#[]⟩, [⟨0, r.wtxt⟩]⟩)
def prun : Nat → Rd → List CPart → Rd × List CPart
 | 0, r, out => (r, out)
 | n + 1, r, out => if r.err = 0 ∧ r.pos < r.s.size then (if out.length = 12 then (r.fail r.pos 2, out) else prun n r.partR.blanks (out ++ [r.partV])) else (r, out)
def qgw : Nat → Rd → List CPart → Rd × List CPart
 | 0, r, out => (r, out)
 | n + 1, r, out => if r.err = 0 then (if r.blanks.pos < r.s.size then (if out.length = 12 then (r.blanks.fail r.blanks.pos 2, out) else qgw n r.blanks.rpart.1 (out ++ [r.blanks.rpart.2])) else (r.blanks, out)) else (r, out)
def rd0 (s : ByteArray) : Rd := ⟨s, 0, 0, 0⟩
def qeh (s : ByteArray) : List Int := s.data.toList.map fun b => (b.toNat : Int)
theorem q3x (s : ByteArray) : qdc s = (qeh s).map (D.i .u8) := by unfold qdc qeh; rw [List.map_map]; rfl
theorem qe2 (s : ByteArray) : (qeh s).length = s.size := by unfold qeh; rw [List.length_map, Array.length_toList]; rfl
theorem qig (s : ByteArray) (k : Nat) : (qeh s).getD k 0 = chr s k := by
 unfold qeh chr
 simp only [List.getD, List.getElem?_map]
 cases s.data.toList[k]? <;> rfl
theorem ql8 (s : ByteArray) : decL 1 (decI .u8) (.sl 1 (qdc s)) = some (qeh s) := by rw [q3x]; exact qg9 (qu7 .u8) _
def qei (s : ByteArray) : Int := idxP badC (qeh s)
theorem q3y {s : ByteArray} (hb : ∀ j, j < s.size → badC (chr s j) = false) : qei s = -1 :=
 qkb fun j hj => by rw [qe2] at hj; rw [qig]; exact hb j hj
theorem qjw {s : ByteArray} (h : ¬ 0 ≤ qei s) : ∀ k, k < s.size → 32 ≤ chr s k ∧ chr s k ≤ 126 := by
 intro k hk
 have hn : (qeh s).findIdx? badC = none := by
  unfold qei idxP at h
  split at h
  ·omega
  ·assumption
 rw [List.findIdx?_eq_none_iff] at hn
 have := hn ((qeh s).getD k 0) (qiz 0 (by rw [qe2]; exact hk))
 rw [qig] at this
 unfold badC at this
 rw [Bool.or_eq_false_iff, decide_eq_false_iff_not, decide_eq_false_iff_not] at this
 omega
theorem qsq {s : ByteArray} (h : qfm s) : asc s := by
 refine ⟨h.1, fun b hb => ?_⟩
 obtain ⟨i, hi, rfl⟩ := List.getElem_of_mem hb
 have := (h.2 i (by simpa using hi)).2
 unfold chr at this
 rw [show s.data.toList.getD i 0 = s.data.toList[i] from by simp [List.getD, List.getElem?_eq_getElem hi]] at this
 omega
def qca (s : ByteArray) : CStr × Int × Int :=
 if 400 < s.size then (qfl, 0, 2) else if 0 ≤ qei s then (qfl, qei s, 5)
 else if ¬ (prun 13 (rd0 s).nmR.blanks []).1.err = 0 then (qfl, (prun 13 (rd0 s).nmR.blanks []).1.place, (prun 13 (rd0 s).nmR.blanks []).1.err) else (⟨(rd0 s).nmT, (prun 13 (rd0 s).nmR.blanks []).2⟩, 0, 0)
def qkc (s : ByteArray) : CStr × Int × Int :=
 if 400 < s.size then (qfl, 0, 2) else if 0 ≤ qei s then (qfl, qei s, 5)
 else if ¬ (rd0 s).blanks.pos < s.size then (qfl, s.size, 1)
 else if (rd0 s).blanks.word.pos < s.size ∧ ¬ chr s (rd0 s).blanks.word.pos = 32 then (qfl, (rd0 s).blanks.word.pos, 8)
 else if q0l (rd0 s).blanks.wtxt = false then (qfl, (rd0 s).blanks.pos, 7)
 else if ¬ (qgw 13 (rd0 s).blanks.word []).1.err = 0 then (qfl, (qgw 13 (rd0 s).blanks.word []).1.place, (qgw 13 (rd0 s).blanks.word []).1.err) else (⟨(rd0 s).blanks.wtxt, (qgw 13 (rd0 s).blanks.word []).2⟩, 0, 0)
structure Rd.sim (a b : Rd) : Prop where
 s : a.s = b.s
 err : a.err = b.err
 place : a.place = b.place
 pos : a.err = 0 → a.pos = b.pos
theorem Rd.sim.rfl' (a : Rd) : a.sim a := ⟨rfl, rfl, rfl, fun _ => rfl⟩
theorem Rd.sim.eq {a b : Rd} (h : a.sim b) (e : a.err = 0) : a = b := by
 obtain ⟨h1, h2, h3, h4⟩ := h
 cases a; cases b; simp only at *; simp_all
theorem qrk {r : Rd} {p e : Int} (h : ¬ r.err = 0) : r.fail p e = r := by unfold Rd.fail fP fE; rw [if_neg h, if_neg h]
theorem qcb {r : Rd} {p e : Int} (h : r.err = 0) : r.fail p e = ⟨r.s, r.pos, p, e⟩ := by unfold Rd.fail fP fE; rw [if_pos h, if_pos h]
theorem qgn {r : Rd} {op : Bool} (h : ¬ r.err = 0) : r.stop op = r := by unfold Rd.stop; split; exact qrk h; rfl
theorem qvd (op : Nat) : ∀ (n : Nat) (r : Rd) (out : List CVal), out.length ≤ 10 → n + out.length = 12 → r.pos ≤ r.s.size →
 (lrun op n r.blanks out).1.sim ((qk5 op n r out).1.stop false) ∧ ((lrun op n r.blanks out).1.err = 0 → (lrun op n r.blanks out).2 = (qk5 op n r out).2)
 | 0, r, out, h1, h2, h3 => by omega
 | n + 1, r, out, h1, h2, h3 => by
   have hb := qcn h3
   unfold lrun qk5
   by_cases e : r.err = 0
   ·have eb : r.blanks.err = 0 := e
    rw [if_pos e]
    by_cases p : r.blanks.pos < r.s.size
    ·rw [if_pos p]
     by_cases c : chr r.s r.blanks.pos = 41
     ·have ha : isAt r.blanks.s r.blanks.pos 41 = true := by simp [isAt, qbe, p, c]
      rw [if_pos c, if_neg (by rw [ha]; simp), if_neg (by simp [eb]), if_neg (by rw [qbe]; omega)]
      by_cases o : out = []
      ·rw [if_pos o, if_pos (by rw [o]; rfl)]; exact ⟨.rfl' _, fun _ => rfl⟩
      ·rw [if_neg o, if_neg (by intro h; exact o (List.eq_nil_of_length_eq_zero h))]; exact ⟨.rfl' _, fun _ => rfl⟩
     ·have ha : isAt r.blanks.s r.blanks.pos 41 = false := by simp [isAt, qbe, c]
      rw [if_neg c, if_pos ⟨eb, by rw [qbe]; exact p, ha⟩]
      by_cases f : out.length = 10
      ·rw [if_pos f, if_pos f, qcb eb]
       refine ⟨?_, fun h => by cases h⟩
       rw [qgn (by show ¬ (2 : Int) = 0; decide)]; exact .rfl' _
      ·rw [if_neg f, if_neg f]
       by_cases c2 : chr r.s r.blanks.pos = 40
       ·rw [if_pos c2, if_pos (by simp [isAt, qbe, p, c2]), qcb eb]
        refine ⟨?_, fun h => by cases h⟩
        rw [qgn (by show ¬ (8 : Int) = 0; decide)]; exact .rfl' _
       ·rw [if_neg c2, if_neg (by simp [isAt, qbe, c2])]
        refine qvd op n _ _ ?_ ?_ ?_
        ·rw [List.length_append, List.length_singleton]; omega
        ·rw [List.length_append, List.length_singleton]; omega
        ·rw [qc8, qbn, qb9, qbe]
         have := qhd (r := r.blanks) hb.2
         rw [qbe] at this
         exact this.2
    ·rw [if_neg p, if_neg (by rw [qbe]; omega), if_neg (by simp [eb]), if_pos (by rw [qbe]; omega), qcb eb, qcb eb]
     refine ⟨?_, fun h => ?_⟩
     ·rw [qgn (by show ¬ (8 : Int) = 0; decide), qgn (by show ¬ (8 : Int) = 0; decide)]
      exact ⟨rfl, rfl, by show (r.blanks.pos : Int) = r.s.size; omega, fun h => by cases h⟩
     ·rfl
   ·have eb : ¬ r.blanks.err = 0 := e
    rw [if_neg e, if_neg (by simp [eb]), if_pos eb, qgn e]
    exact ⟨⟨rfl, rfl, rfl, fun h => absurd h e⟩, fun h => absurd h e⟩
theorem qve {r : Rd} (h : r.pos < r.s.size) : r.list.1.sim (r.rlist.1.stop false) ∧ (r.list.1.err = 0 → r.list.2 = r.rlist.2) :=
 qvd r.pos 12 (r.to (r.pos + 1)) [] (by simp) (by simp) (by show r.pos + 1 ≤ r.s.size; omega)
theorem qcr {r : Rd} {c : Int} (h : r.pos < r.s.size) : isAt r.s r.pos c = decide (chr r.s r.pos = c) := by unfold isAt; rw [decide_eq_true h, Bool.true_and]
theorem qgo {r : Rd} : r.wtxt.size = r.wraw.size := by
 unfold Rd.wtxt upS Go.Lib.toUpperA Rd.wraw
 show (List.toArray (List.map _ _)).size = _
 rw [List.size_toArray, List.length_map]; rfl
theorem q3z {r : Rd} (h : r.pos < r.s.size) (he : r.err = 0) : r.partR.sim r.rpart.1 ∧ (r.partR.err = 0 → r.partV = r.rpart.2) := by
 have L1 := qve h
 have w := qer (r := r) (by omega)
 unfold Rd.partR Rd.partV Rd.rpart
 rw [qcr h, qcr h, qcr h]
 by_cases c1 : chr r.s r.pos = 40
 ·have c2 : ¬ chr r.s r.pos = 41 := by omega
  simp only [c1, c2, decide_true, if_true, if_false, show ¬ (40 : Int) = 41 by decide]
  exact ⟨L1.1, fun h => by rw [L1.2 h]⟩
 ·by_cases c2 : chr r.s r.pos = 41
  ·simp only [c1, c2, decide_true, decide_false, if_true, if_false, show ¬ (41 : Int) = 40 by decide, Bool.false_eq_true]
   exact ⟨.rfl' _, fun h => trivial⟩
  ·by_cases c3 : chr r.s r.pos = 39
   ·simp only [c1, c2, c3, decide_true, decide_false, if_true, if_false, show ¬ (39 : Int) = 40 by decide, show ¬ (39 : Int) = 41 by decide, Bool.false_eq_true]
    have hi : isAt r.s r.pos 39 = true := by rw [qcr h]; simp [c3]
    rw [qvc hi]
    refine ⟨.rfl' _, fun _ => ?_⟩
    unfold Rd.valV Rd.is
    rw [if_pos hi]
   ·simp only [c1, c2, c3, decide_false, if_false, Bool.false_eq_true]
    have hi : isAt r.s r.pos 39 = false := by rw [qcr h]; simp [c3]
    have hv : r.valV = ⟨0, r.wtxt⟩ := by unfold Rd.valV Rd.is; rw [if_neg (by rw [hi]; decide)]
    by_cases c4 : isAt r.s r.word.pos 40 = true
    ·have c5 : r.word.pos < r.word.s.size := qm5 c4
     have L2 := qve c5
     rw [if_neg (by rw [c4]; decide), if_pos c4]
     by_cases nm : q0l r.wtxt = true
     ·rw [if_neg (by rw [nm]; decide), if_pos nm, if_neg (by rw [c4]; decide), if_neg (by rw [nm]; decide)]
      exact ⟨L2.1, fun h => by rw [L2.2 h]⟩
     ·rw [Bool.not_eq_true] at nm
      rw [if_pos nm, if_neg (by rw [nm]; decide), if_neg (by rw [c4]; decide), if_pos nm]
      refine ⟨.rfl' _, fun h => ?_⟩
      rw [qcb (r := r.word) he] at h; cases h
    ·rw [if_neg c4]
     rw [Bool.not_eq_true] at c4
     rw [if_pos c4, if_pos c4, hv]
     refine ⟨?_, fun _ => rfl⟩
     unfold Rd.valR Rd.is
     rw [if_neg (by rw [hi]; decide), qgo]
     exact .rfl' _
theorem qps (op : Nat) : ∀ (n : Nat) (r : Rd) (out : List CVal), (lrun op n r out).1.s = r.s
 | 0, r, out => rfl
 | n + 1, r, out => by
   unfold lrun
   split
   ·split
    ·rfl
    ·split
     ·rfl
     ·rw [qps op n, qbe, qbn, qb9]
   ·split
    ·rfl
    ·split
     ·rw [qbn]; rfl
     ·split
      ·rw [qbn]; rfl
      ·rw [qbn]; rfl
theorem qvf (op : Nat) : ∀ (n : Nat) (r : Rd) (out : List CVal), r.pos ≤ r.s.size → (lrun op n r out).1.pos ≤ r.s.size + 1 ∧ ((lrun op n r out).1.err = 0 → (lrun op n r out).1.pos ≤ r.s.size)
 | 0, r, out, h => ⟨by unfold lrun; simp only; omega, fun _ => h⟩
 | n + 1, r, out, h => by
   unfold lrun
   split
   ·rename_i c
    split
    ·exact ⟨by simp only [qft]; omega, fun _ => h⟩
    ·split
     ·exact ⟨by simp only [qft]; omega, fun _ => h⟩
     ·have hv := qhd h
      have hb := qcn (r := r.valR.stop true) (by rw [qc8, qbn, qb9]; exact hv.2)
      have := qvf op n (r.valR.stop true).blanks (out ++ [r.valV]) (by rw [qbe]; exact hb.2)
      rw [qbe, qbn, qb9] at this
      exact this
   ·rename_i c
    split
    ·exact ⟨by simp only; omega, fun _ => h⟩
    ·rename_i e
     have e : r.err = 0 := by simpa using e
     split
     ·refine ⟨by simp only [qc8, qpp]; omega, fun k => ?_⟩
      rw [qcb e] at k
      rw [qgn (by show ¬ (8 : Int) = 0; decide)] at k
      cases k
     ·split
      ·refine ⟨by simp only [qc8, qpp]; omega, fun k => ?_⟩
       rw [qcb e] at k
       rw [qgn (by show ¬ (1 : Int) = 0; decide)] at k
       cases k
      ·exact ⟨by simp only [qc8, qpp]; omega, fun _ => by simp only [qc8, qpp]; omega⟩
theorem qvg {r : Rd} (h : r.pos < r.s.size) : r.list.1.s = r.s ∧ r.list.1.pos ≤ r.s.size + 1 ∧ (r.list.1.err = 0 → r.list.1.pos ≤ r.s.size) := by
 have hb := qcn (r := r.to (r.pos + 1)) (by show r.pos + 1 ≤ r.s.size; omega)
 exact ⟨qps _ _ _ _, qvf r.pos 12 (r.to (r.pos + 1)).blanks [] hb.2⟩
theorem qjg {r : Rd} (h : r.pos < r.s.size) : r.partR.s = r.s ∧ r.partR.pos ≤ r.s.size + 1 ∧ (r.partR.err = 0 → r.partR.pos ≤ r.s.size) := by
 have w := qer (r := r) (by omega)
 have v := qhd (r := r) (by omega)
 unfold Rd.partR
 split
 ·exact qvg h
 ·split
  ·exact ⟨rfl, by simp only [qft]; omega, fun _ => by simp only [qft]; omega⟩
  ·split
   ·rw [qbn, qc8, qb9]; exact ⟨rfl, by omega, fun _ => v.2⟩
   ·split
    ·rw [qbn, qc8, qb9]; exact ⟨rfl, by omega, fun _ => v.2⟩
    ·rename_i k
     split
     ·exact ⟨rfl, by simp only [qft]; omega, fun _ => by simp only [qft]; omega⟩
     ·have := qvg (r := r.word) (qm5 (c := 40) (show isAt r.s r.word.pos 40 = true by simpa using k))
      exact this
theorem qhe {n : Nat} {r : Rd} {out : List CPart} (h : ¬ r.err = 0) : prun n r out = (r, out) := by
 cases n with
 | zero => rfl
 | succ n => unfold prun; rw [if_neg (fun k => h k.1)]
theorem qvh {n : Nat} {r : Rd} {out : List CPart} (h : ¬ r.err = 0) : qgw n r out = (r, out) := by
 cases n with
 | zero => rfl
 | succ n => unfold qgw; rw [if_neg h]
theorem qvi : ∀ (n : Nat) (r : Rd) (out : List CPart), r.pos ≤ r.s.size →
 (prun n r.blanks out).1.err = (qgw n r out).1.err ∧ (prun n r.blanks out).1.place = (qgw n r out).1.place ∧ ((prun n r.blanks out).1.err = 0 → (prun n r.blanks out).2 = (qgw n r out).2)
 | 0, r, out, h => ⟨rfl, rfl, fun _ => rfl⟩
 | n + 1, r, out, h => by
   have hb := qcn h
   by_cases e : r.err = 0
   ·unfold prun qgw
    rw [if_pos e]
    by_cases p : r.blanks.pos < r.s.size
    ·rw [if_pos p, if_pos ⟨e, by rw [qbe]; exact p⟩]
     by_cases f : out.length = 12
     ·rw [if_pos f, if_pos f]; exact ⟨rfl, rfl, fun _ => rfl⟩
     ·rw [if_neg f, if_neg f]
      obtain ⟨s1, s2⟩ := q3z (r := r.blanks) p e
      have pp := qjg (r := r.blanks) p
      by_cases z : r.blanks.partR.err = 0
      ·rw [← s1.eq z, ← s2 z]
       exact qvi n _ _ (by rw [pp.1]; exact pp.2.2 z)
      ·rw [qhe (r := r.blanks.partR.blanks) z, qvh (r := r.blanks.rpart.1) (by rw [← s1.err]; exact z)]
       exact ⟨s1.err, s1.place, fun k => absurd k z⟩
    ·rw [if_neg p, if_neg (by rw [qbe]; omega)]
     exact ⟨rfl, rfl, fun _ => rfl⟩
   ·rw [qhe (r := r.blanks) e, qvh e]
    exact ⟨rfl, rfl, fun k => absurd k e⟩
theorem q30 (s : ByteArray) : qca s = qkc s := by
 unfold qca qkc
 split
 ·rfl
 ·split
  ·rfl
  ·have hb := qcn (r := rd0 s) (Nat.zero_le _)
   have hw := qer (r := (rd0 s).blanks) hb.2
   have e0 : (rd0 s).blanks.err = 0 := rfl
   rw [show (rd0 s).s = s from rfl] at hb
   rw [show (rd0 s).blanks.s = s from rfl] at hw
   by_cases p : (rd0 s).blanks.pos < s.size
   ·conv => rhs; rw [if_neg (fun h => h p)]
    have c : ¬ (rd0 s).blanks.pos = (rd0 s).s.size := by show ¬ (rd0 s).blanks.pos = s.size; omega
    rw [qpr c]
    by_cases st : (rd0 s).blanks.word.pos < s.size ∧ ¬ chr s (rd0 s).blanks.word.pos = 32
    ·conv => rhs; rw [if_pos st]
     have k : (rd0 s).blanks.word.stop false = (rd0 s).blanks.word.fail (rd0 s).blanks.word.pos 8 := qh1 (by show ((rd0 s).blanks.word.pos : Int) < (s.size : Int); omega) (by
      show isAt s (rd0 s).blanks.word.pos 32 = false
      simp [isAt, st.2])
     have k2 : (rd0 s).nmR = ⟨s, (rd0 s).blanks.word.pos, (rd0 s).blanks.word.pos, 8⟩ := by
      unfold Rd.nmR
      rw [if_neg c, k, qcb rfl]
      split
      ·rfl
      ·rw [qrk (by show ¬ (8 : Int) = 0; decide)]; rfl
     rw [k2, qhe (by show ¬ (8 : Int) = 0; decide), if_pos (by show ¬ (8 : Int) = 0; decide)]
     rfl
    ·conv => rhs; rw [if_neg st]
     have k : (rd0 s).blanks.word.stop false = (rd0 s).blanks.word := qhc (by
      by_cases q : (rd0 s).blanks.word.pos < s.size
      ·right
       show isAt s (rd0 s).blanks.word.pos 32 = true
       have : chr s (rd0 s).blanks.word.pos = 32 := by
        by_cases z : chr s (rd0 s).blanks.word.pos = 32
        ·exact z
        ·exact absurd ⟨q, z⟩ st
       simp [isAt, q, this]
      ·left; show (s.size : Int) ≤ ((rd0 s).blanks.word.pos : Int); omega)
     by_cases nm : q0l (rd0 s).blanks.wtxt = false
     ·conv => rhs; rw [if_pos nm]
      have k2 : (rd0 s).nmR = ⟨s, (rd0 s).blanks.word.pos, (rd0 s).blanks.pos, 7⟩ := by rw [qy7 c nm, k, qcb rfl]; rfl
      rw [k2, qhe (by show ¬ (7 : Int) = 0; decide), if_pos (by show ¬ (7 : Int) = 0; decide)]
      rfl
     ·conv => rhs; rw [if_neg nm]
      rw [qtv c (by simpa using nm), k]
      obtain ⟨h1, h2, h3⟩ := qvi 13 (rd0 s).blanks.word [] hw.2
      rw [h1, h2]
      split
      ·rfl
      ·rename_i z
       rw [h3 (by rw [h1]; simpa using z)]
   ·conv => rhs; rw [if_pos p]
    have c : (rd0 s).blanks.pos = (rd0 s).s.size := by show (rd0 s).blanks.pos = s.size; omega
    have k2 : (rd0 s).nmR = ⟨s, (rd0 s).blanks.pos, (rd0 s).blanks.pos, 1⟩ := by rw [qy6 c, qcb rfl]; rfl
    rw [k2, qhe (by show ¬ (1 : Int) = 0; decide), if_pos (by show ¬ (1 : Int) = 0; decide)]
    show (qfl, ((rd0 s).blanks.pos : Int), (1 : Int)) = _
    rw [c]; rfl
theorem qpt {s : ByteArray} : (rd0 s).s = s := rfl
theorem eta0 (s : ByteArray) : (⟨s, 0, 0, 0⟩ : Rd) = rd0 s := rfl
theorem qk6 {r : Rd} : r.nmR.s = r.s := by
 unfold Rd.nmR
 split
 ·rfl
 ·split
  ·rw [qbn]; rfl
  ·show (Rd.stop _ _).s = _; rw [qbn]; rfl
theorem qrl {r : Rd} (h : r.pos ≤ r.s.size) : r.nmR.pos ≤ r.s.size := by
 have hb := qcn h
 have hw := qer (r := r.blanks) hb.2
 rw [qbe] at hw
 unfold Rd.nmR
 split
 ·exact hb.2
 ·split
  ·rw [qc8]; exact hw.2
  ·show (Rd.stop _ _).pos ≤ _; rw [qc8]; exact hw.2
theorem qgp {r : Rd} : r.partR.s = r.s := by
 unfold Rd.partR
 split
 ·exact qps _ _ _ _
 ·split
  ·rfl
  ·split
   ·rw [qbn, qb9]
   ·split
    ·rw [qbn, qb9]
    ·split
     ·rfl
     ·exact qps _ _ _ _
theorem etaN (s : ByteArray) : (⟨s, (rd0 s).nmR.pos, (rd0 s).nmR.place, (rd0 s).nmR.err⟩ : Rd) = (rd0 s).nmR := by
 have : s = (rd0 s).nmR.s := by rw [qk6]; rfl
 conv => lhs; rw [show (⟨s, (rd0 s).nmR.pos, (rd0 s).nmR.place, (rd0 s).nmR.err⟩ : Rd) = ⟨(rd0 s).nmR.s, (rd0 s).nmR.pos, (rd0 s).nmR.place, (rd0 s).nmR.err⟩ from by rw [← this]]
theorem etaP (r : Rd) : (⟨r.s, r.partR.pos, r.partR.place, r.partR.err⟩ : Rd) = r.partR := by
 conv => lhs; rw [← qgp (r := r)]
theorem q31 (s : ByteArray) : idxP badC (qeh s) = qei s := rfl
section
variable {q : Rd} {out : List CPart} {L : Rd × List CPart} {n : Nat}
theorem q91 (e : L = prun n q out) (c : ¬ q.err = 0 ∨ (q.s.size : Int) ≤ (q.pos : Int)) : L = (q, out) := by
 rw [e]
 cases n with
 | zero => rfl
 | succ n => unfold prun; rw [if_neg (by intro k; rcases c with c | c; exact c k.1; omega)]
theorem q7a (e : L = prun (13 - out.length) q out) (c : q.err = 0 ∧ (q.pos : Int) < (q.s.size : Int)) (k : (out.length : Int) = 12) : L = (q.fail q.pos 2, out) := by
 rw [e, show 13 - out.length = 0 + 1 by omega]
 unfold prun
 rw [if_pos ⟨c.1, by omega⟩, if_pos (by omega)]
theorem q7b (e : L = prun (13 - out.length) q out) (hl : out.length ≤ 12) (c : q.err = 0 ∧ (q.pos : Int) < (q.s.size : Int)) (k : ¬ (out.length : Int) = 12) : L = prun (13 - (out ++ [q.partV]).length) q.partR.blanks (out ++ [q.partV]) := by
 rw [e, show 13 - out.length = (12 - out.length) + 1 by omega, show 13 - (out ++ [q.partV]).length = 12 - out.length by rw [List.length_append, List.length_singleton]; omega]
 conv => lhs; unfold prun
 rw [if_pos ⟨c.1, by omega⟩, if_neg (by omega)]
end
section
variable {op : Nat} {q : Rd} {out : List CVal} {L : Rd × List CVal}
end
theorem q5i {r : Rd} (h : r.pos < r.s.size) (c : chr r.s r.pos = 39) : r.valR = r.quoted ∧ r.valV = r.qval := by
 have hi : isAt r.s r.pos 39 = true := by rw [qcr h]; simp [c]
 exact ⟨qvc hi, by unfold Rd.valV Rd.is; rw [if_pos hi]⟩
theorem qbbs {r : Rd} (h : r.pos < r.s.size) (c : ¬ chr r.s r.pos = 39) (k : 64 < (r.wraw.size : Int)) : r.valR = r.word.fail r.pos 2 ∧ r.valV = ⟨0, r.wtxt⟩ := by
 have hi : isAt r.s r.pos 39 = false := by rw [qcr h]; simp [c]
 exact ⟨q1m hi (by rw [qgo]; omega), by unfold Rd.valV Rd.is; rw [if_neg (by rw [hi]; decide)]⟩
theorem qy8 {r : Rd} (h : r.pos < r.s.size) (c : ¬ chr r.s r.pos = 39) (k : ¬ 64 < (r.wraw.size : Int)) : r.valR = r.word ∧ r.valV = ⟨0, r.wtxt⟩ := by
 have hi : isAt r.s r.pos 39 = false := by rw [qcr h]; simp [c]
 exact ⟨q1n hi (by rw [qgo]; omega), by unfold Rd.valV Rd.is; rw [if_neg (by rw [hi]; decide)]⟩
theorem qbbt {r : Rd} {op : Bool} : r.stop op = if r.pos < r.s.size ∧ ¬ chr r.s r.pos = 32 ∧ ¬ (op = true ∧ chr r.s r.pos = 41) then r.fail r.pos 8 else r := by
 unfold Rd.stop Rd.is
 by_cases h : r.pos < r.s.size
 ·rw [qcr h, qcr h]
  cases op <;> simp [h]
 ·rw [if_neg (by simp [h]), if_neg (fun k => h k.1)]
theorem qi0 {s : ByteArray} (h : 400 < (s.size : Int)) : qca s = (qfl, 0, 2) := by unfold qca; rw [if_pos (by omega)]
theorem qpu {s : ByteArray} (h : (s.size : Int) ≤ 400) (k : 0 ≤ qei s) : qca s = (qfl, qei s, 5) := by unfold qca; rw [if_neg (by omega), if_pos k]
theorem qk7 {s : ByteArray} {L : Rd × List CPart} (h : (s.size : Int) ≤ 400) (k : qei s < 0) (e : prun 13 (rd0 s).nmR.blanks [] = L) (z : ¬ L.1.err = 0) : qca s = (qfl, L.1.place, L.1.err) := by
 unfold qca; rw [if_neg (by omega), if_neg (by omega), e, if_pos z]
theorem qjh {s : ByteArray} {L : Rd × List CPart} (h : (s.size : Int) ≤ 400) (k : qei s < 0) (e : prun 13 (rd0 s).nmR.blanks [] = L) (z : L.1.err = 0) : qca s = (⟨(rd0 s).nmT, L.2⟩, 0, 0) := by
 unfold qca; rw [if_neg (by omega), if_neg (by omega), e, if_neg (fun k => k z)]
theorem qxs {s : ByteArray} : (rd0 s).nmR.blanks.pos ≤ s.size := by
 have h1 := qrl (r := rd0 s) (Nat.zero_le _)
 rw [qpt] at h1
 have := qcn (r := (rd0 s).nmR) (by rw [qk6, qpt]; exact h1)
 rw [qk6, qpt] at this
 exact this.2
theorem fE2 {e x : Int} (h : e = 0) : fE e x = x := if_pos h
theorem q1p {r : Rd} (h : r.pos < r.s.size) (hs : r.s.size ≤ 400) : r.partR.blanks.pos ≤ 401 ∧ (r.partR.blanks.err = 0 → r.partR.blanks.pos ≤ r.s.size) := by
 have p := qjg h
 by_cases e : r.partR.pos ≤ r.s.size
 ·have := qcn (r := r.partR) (by rw [qgp]; exact e)
  rw [qgp] at this
  exact ⟨by omega, fun _ => this.2⟩
 ·have : r.partR.blanks.pos = r.partR.pos := qu9 (by rw [qgp]; omega)
  exact ⟨by omega, fun z => absurd (p.2.2 z) e⟩
def txt (l : List Int) : ByteArray := strD (l.map (D.i .u8))
theorem q92 (l : List Int) : strD (l.map (D.i .u8)) = txt l := rfl
theorem qog (l : List Int) : (txt l).size = l.length := by
 show (List.toArray (List.map qj1 (l.map (D.i .u8)))).size = _
 rw [List.size_toArray, List.length_map, List.length_map]
theorem toN1 (n : Nat) : ((n : Int) + 1).toNat = n + 1 := by omega
theorem toN2 (n : Nat) : ((n : Int) + 1 + 1).toNat = n + 1 + 1 := by omega
theorem ext1 {s : ByteArray} {i : Nat} (h : i < s.size) : (s.extract i (i + 1)).size = 1 := by rw [ByteArray.size_extract]; omega
theorem qxt (op : Nat) : ∀ (n : Nat) (r : Rd) (out : List CVal), (qk5 op n r out).1.s = r.s
 | 0, r, out => rfl
 | n + 1, r, out => by
   unfold qk5
   split
   ·split
    ·split
     ·split <;> rfl
     ·split
      ·rfl
      ·split
       ·rfl
       ·rw [qxt op n, qbn, qb9]; rfl
    ·rfl
   ·rfl
theorem qrm {r : Rd} : r.rlist.1.s = r.s := qxt _ _ _ _
theorem etaL (r : Rd) : (⟨r.s, r.rlist.1.pos, r.rlist.1.place, r.rlist.1.err⟩ : Rd) = r.rlist.1 := by conv => lhs; rw [← qrm (r := r)]
theorem q7c {r : Rd} : r.rpart.1.s = r.s := by
 unfold Rd.rpart
 split
 ·rfl
 ·split
  ·rw [qbn, qrm]
  ·split
   ·rw [qbn, qcq]
   ·split
    ·split
     ·rw [qbn, qrm]; rfl
     ·rfl
    ·rw [qbn]; split <;> rfl
theorem qbec (r : Rd) : (⟨r.s, r.rpart.1.pos, r.rpart.1.place, r.rpart.1.err⟩ : Rd) = r.rpart.1 := by conv => lhs; rw [← q7c (r := r)]
theorem qbed (s : ByteArray) : (⟨s, (rd0 s).blanks.pos, (rd0 s).blanks.place, (rd0 s).blanks.err⟩ : Rd) = (rd0 s).blanks := rfl
theorem qbee (s : ByteArray) : (⟨s, (rd0 s).blanks.word.pos, (rd0 s).blanks.word.place, (rd0 s).blanks.word.err⟩ : Rd) = (rd0 s).blanks.word := rfl
section
variable {r : Rd}
end
section
variable {s : ByteArray}
end
def Rd.more (r : Rd) : Bool := decide (r.blanks.pos < r.s.size)
end Go.Ev
