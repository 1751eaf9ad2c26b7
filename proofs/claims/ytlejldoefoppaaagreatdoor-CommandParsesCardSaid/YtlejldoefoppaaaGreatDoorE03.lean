/- Tools and contracts under the laws of this seat: DevTy37, DevDec, DevData, DevPure, DevData37, DevRd37, DevRq37. -/
import Derived.Test.YtlejldoefoppaaaGreatDoorE02
import Derived.Test.YtlejldoefoppaaaGreatDoorProg
import Derived.KernelRfl
import Derived.Laws.Strings
import Derived.WideShapes
import Derived.Lib.Case
set_option linter.unusedVariables false
set_option linter.unusedSimpArgs false
namespace Go.Ev.Ty
open Go.Proofs
theorem sz3 : q0k Tryz.prog 3 = some 1 := by kernel_rfl
theorem ag3 : aggT Tryz.prog 3 = some false := by kernel_rfl
theorem zr3 : q03 Tryz.prog 3 = some [.i .i64 0] := by kernel_rfl
theorem zo3 : qc9 Tryz.prog 3 = some (.i .i64 0) := by kernel_rfl
theorem zd3 : zD Tryz.prog 3 = .i .i64 0 := by kernel_rfl
theorem by3 : qbw Tryz.prog 3 = some 8 := by kernel_rfl
theorem sl3 : q0u Tryz.prog 3 = false := by kernel_rfl
theorem st3 : qcg Tryz.prog 3 = false := by kernel_rfl
theorem bo3 : qb5 Tryz.prog 3 = false := by kernel_rfl
theorem pt3 : qch Tryz.prog 3 = false := by kernel_rfl
theorem ck3 : ckT Tryz.prog 3 = .int .i64 := by kernel_rfl
theorem sz4 : q0k Tryz.prog 4 = some 1 := by kernel_rfl
theorem ag4 : aggT Tryz.prog 4 = some false := by kernel_rfl
theorem zr4 : q03 Tryz.prog 4 = some [.b false] := by kernel_rfl
theorem zo4 : qc9 Tryz.prog 4 = some (.b false) := by kernel_rfl
theorem zd4 : zD Tryz.prog 4 = .b false := by kernel_rfl
theorem by4 : qbw Tryz.prog 4 = some 1 := by kernel_rfl
theorem sl4 : q0u Tryz.prog 4 = false := by kernel_rfl
theorem st4 : qcg Tryz.prog 4 = false := by kernel_rfl
theorem bo4 : qb5 Tryz.prog 4 = true := by kernel_rfl
theorem pt4 : qch Tryz.prog 4 = false := by kernel_rfl
theorem sz5 : q0k Tryz.prog 5 = some 1 := by kernel_rfl
theorem ag5 : aggT Tryz.prog 5 = some false := by kernel_rfl
theorem zr5 : q03 Tryz.prog 5 = some [.i .u8 0] := by kernel_rfl
theorem zo5 : qc9 Tryz.prog 5 = some (.i .u8 0) := by kernel_rfl
theorem zd5 : zD Tryz.prog 5 = .i .u8 0 := by kernel_rfl
theorem by5 : qbw Tryz.prog 5 = some 1 := by kernel_rfl
theorem sl5 : q0u Tryz.prog 5 = false := by kernel_rfl
theorem st5 : qcg Tryz.prog 5 = false := by kernel_rfl
theorem bo5 : qb5 Tryz.prog 5 = false := by kernel_rfl
theorem pt5 : qch Tryz.prog 5 = false := by kernel_rfl
theorem ck5 : ckT Tryz.prog 5 = .int .u8 := by kernel_rfl
theorem sz9 : q0k Tryz.prog 9 = some 1 := by kernel_rfl
theorem ag9 : aggT Tryz.prog 9 = some false := by kernel_rfl
theorem zr9 : q03 Tryz.prog 9 = some [.s ⟨#[]⟩] := by kernel_rfl
theorem zo9 : qc9 Tryz.prog 9 = some (.s ⟨#[]⟩) := by kernel_rfl
theorem zd9 : zD Tryz.prog 9 = .s ⟨#[]⟩ := by kernel_rfl
theorem by9 : qbw Tryz.prog 9 = some 16 := by kernel_rfl
theorem sl9 : q0u Tryz.prog 9 = false := by kernel_rfl
theorem un9 : Tryz.prog.underlying 9 = some .string := by kernel_rfl
theorem st9 : qcg Tryz.prog 9 = true := by kernel_rfl
theorem bo9 : qb5 Tryz.prog 9 = false := by kernel_rfl
theorem pt9 : qch Tryz.prog 9 = false := by kernel_rfl
theorem ck9 : ckT Tryz.prog 9 = .str := by kernel_rfl
theorem sz25 : q0k Tryz.prog 25 = some 1 := by kernel_rfl
theorem ag25 : aggT Tryz.prog 25 = some false := by kernel_rfl
theorem zr25 : q03 Tryz.prog 25 = some [.i .i64 0] := by kernel_rfl
theorem zo25 : qc9 Tryz.prog 25 = some (.i .i64 0) := by kernel_rfl
theorem zd25 : zD Tryz.prog 25 = .i .i64 0 := by kernel_rfl
theorem by25 : qbw Tryz.prog 25 = some 8 := by kernel_rfl
theorem sl25 : q0u Tryz.prog 25 = false := by kernel_rfl
theorem st25 : qcg Tryz.prog 25 = false := by kernel_rfl
theorem bo25 : qb5 Tryz.prog 25 = false := by kernel_rfl
theorem pt25 : qch Tryz.prog 25 = false := by kernel_rfl
theorem ck25 : ckT Tryz.prog 25 = .int .i64 := by kernel_rfl
theorem sz31 : q0k Tryz.prog 31 = some 1 := by kernel_rfl
theorem ag31 : aggT Tryz.prog 31 = some false := by kernel_rfl
theorem zr31 : q03 Tryz.prog 31 = some [.nil] := by kernel_rfl
theorem zo31 : qc9 Tryz.prog 31 = some (.nil) := by kernel_rfl
theorem zd31 : zD Tryz.prog 31 = .nil := by kernel_rfl
theorem by31 : qbw Tryz.prog 31 = some 24 := by kernel_rfl
theorem el31 : qcn Tryz.prog 31 = some 70 := by kernel_rfl
theorem sl31 : q0u Tryz.prog 31 = true := by kernel_rfl
theorem un31 : Tryz.prog.underlying 31 = some (.slice 70) := by kernel_rfl
theorem st31 : qcg Tryz.prog 31 = false := by kernel_rfl
theorem bo31 : qb5 Tryz.prog 31 = false := by kernel_rfl
theorem pt31 : qch Tryz.prog 31 = false := by kernel_rfl
theorem sz33 : q0k Tryz.prog 33 = some 2 := by kernel_rfl
theorem ag33 : aggT Tryz.prog 33 = some true := by kernel_rfl
theorem zr33 : q03 Tryz.prog 33 = some [.s ⟨#[]⟩, .nil] := by kernel_rfl
theorem zd33 : zD Tryz.prog 33 = .agg [.s ⟨#[]⟩, .nil] := by kernel_rfl
theorem by33 : qbw Tryz.prog 33 = some 40 := by kernel_rfl
theorem sl33 : q0u Tryz.prog 33 = false := by kernel_rfl
theorem st33 : qcg Tryz.prog 33 = false := by kernel_rfl
theorem bo33 : qb5 Tryz.prog 33 = false := by kernel_rfl
theorem pt33 : qch Tryz.prog 33 = false := by kernel_rfl
theorem q10 : offT Tryz.prog 33 0 = some (0, 1) := by kernel_rfl
theorem q11 : qb6 Tryz.prog 33 0 = some 9 := by kernel_rfl
theorem q12 : offT Tryz.prog 33 1 = some (1, 1) := by kernel_rfl
theorem q13 : qb6 Tryz.prog 33 1 = some 31 := by kernel_rfl
theorem pl33 : qeb Tryz.prog 33 = some [(0, 1), (1, 1)] := by kernel_rfl
theorem sz68 : q0k Tryz.prog 68 = some 1 := by kernel_rfl
theorem ag68 : aggT Tryz.prog 68 = some false := by kernel_rfl
theorem zr68 : q03 Tryz.prog 68 = some [.nil] := by kernel_rfl
theorem zo68 : qc9 Tryz.prog 68 = some (.nil) := by kernel_rfl
theorem zd68 : zD Tryz.prog 68 = .nil := by kernel_rfl
theorem by68 : qbw Tryz.prog 68 = some 24 := by kernel_rfl
theorem el68 : qcn Tryz.prog 68 = some 76 := by kernel_rfl
theorem sl68 : q0u Tryz.prog 68 = true := by kernel_rfl
theorem un68 : Tryz.prog.underlying 68 = some (.slice 76) := by kernel_rfl
theorem st68 : qcg Tryz.prog 68 = false := by kernel_rfl
theorem bo68 : qb5 Tryz.prog 68 = false := by kernel_rfl
theorem pt68 : qch Tryz.prog 68 = false := by kernel_rfl
theorem sz70 : q0k Tryz.prog 70 = some 2 := by kernel_rfl
theorem ag70 : aggT Tryz.prog 70 = some true := by kernel_rfl
theorem zr70 : q03 Tryz.prog 70 = some [.s ⟨#[]⟩, .nil] := by kernel_rfl
theorem zd70 : zD Tryz.prog 70 = .agg [.s ⟨#[]⟩, .nil] := by kernel_rfl
theorem by70 : qbw Tryz.prog 70 = some 40 := by kernel_rfl
theorem sl70 : q0u Tryz.prog 70 = false := by kernel_rfl
theorem st70 : qcg Tryz.prog 70 = false := by kernel_rfl
theorem bo70 : qb5 Tryz.prog 70 = false := by kernel_rfl
theorem pt70 : qch Tryz.prog 70 = false := by kernel_rfl
theorem q14 : offT Tryz.prog 70 0 = some (0, 1) := by kernel_rfl
theorem q15 : qb6 Tryz.prog 70 0 = some 9 := by kernel_rfl
theorem q16 : offT Tryz.prog 70 1 = some (1, 1) := by kernel_rfl
theorem q17 : qb6 Tryz.prog 70 1 = some 68 := by kernel_rfl
theorem pl70 : qeb Tryz.prog 70 = some [(0, 1), (1, 1)] := by kernel_rfl
theorem sz76 : q0k Tryz.prog 76 = some 2 := by kernel_rfl
theorem ag76 : aggT Tryz.prog 76 = some true := by kernel_rfl
theorem zr76 : q03 Tryz.prog 76 = some [.i .i64 0, .s ⟨#[]⟩] := by kernel_rfl
theorem zd76 : zD Tryz.prog 76 = .agg [.i .i64 0, .s ⟨#[]⟩] := by kernel_rfl
theorem by76 : qbw Tryz.prog 76 = some 24 := by kernel_rfl
theorem sl76 : q0u Tryz.prog 76 = false := by kernel_rfl
theorem st76 : qcg Tryz.prog 76 = false := by kernel_rfl
theorem bo76 : qb5 Tryz.prog 76 = false := by kernel_rfl
theorem pt76 : qch Tryz.prog 76 = false := by kernel_rfl
theorem q18 : offT Tryz.prog 76 0 = some (0, 1) := by kernel_rfl
theorem q19 : qb6 Tryz.prog 76 0 = some 3 := by kernel_rfl
theorem q2a : offT Tryz.prog 76 1 = some (1, 1) := by kernel_rfl
theorem q2b : qb6 Tryz.prog 76 1 = some 9 := by kernel_rfl
theorem pl76 : qeb Tryz.prog 76 = some [(0, 1), (1, 1)] := by kernel_rfl
theorem ek76 : eqKs Tryz.prog 76 = some [.i, .s] := by kernel_rfl
theorem sz86 : q0k Tryz.prog 86 = some 1 := by kernel_rfl
theorem ag86 : aggT Tryz.prog 86 = some false := by kernel_rfl
theorem zr86 : q03 Tryz.prog 86 = some [.nil] := by kernel_rfl
theorem zo86 : qc9 Tryz.prog 86 = some (.nil) := by kernel_rfl
theorem zd86 : zD Tryz.prog 86 = .nil := by kernel_rfl
theorem by86 : qbw Tryz.prog 86 = some 24 := by kernel_rfl
theorem el86 : qcn Tryz.prog 86 = some 5 := by kernel_rfl
theorem sl86 : q0u Tryz.prog 86 = true := by kernel_rfl
theorem un86 : Tryz.prog.underlying 86 = some (.slice 5) := by kernel_rfl
theorem st86 : qcg Tryz.prog 86 = false := by kernel_rfl
theorem bo86 : qb5 Tryz.prog 86 = false := by kernel_rfl
theorem pt86 : qch Tryz.prog 86 = false := by kernel_rfl
theorem ck86 : ckT Tryz.prog 86 = .bytes := by kernel_rfl
theorem sz97 : q0k Tryz.prog 97 = some 1 := by kernel_rfl
theorem ag97 : aggT Tryz.prog 97 = some false := by kernel_rfl
theorem zr97 : q03 Tryz.prog 97 = some [.np] := by kernel_rfl
theorem zo97 : qc9 Tryz.prog 97 = some (.np) := by kernel_rfl
theorem zd97 : zD Tryz.prog 97 = .np := by kernel_rfl
theorem by97 : qbw Tryz.prog 97 = some 8 := by kernel_rfl
theorem sl97 : q0u Tryz.prog 97 = false := by kernel_rfl
theorem st97 : qcg Tryz.prog 97 = false := by kernel_rfl
theorem bo97 : qb5 Tryz.prog 97 = false := by kernel_rfl
theorem pt97 : qch Tryz.prog 97 = true := by kernel_rfl
theorem sz99 : q0k Tryz.prog 99 = some 4 := by kernel_rfl
theorem ag99 : aggT Tryz.prog 99 = some true := by kernel_rfl
theorem zr99 : q03 Tryz.prog 99 = some [.s ⟨#[]⟩, .i .i64 0, .i .i64 0, .i .i64 0] := by kernel_rfl
theorem zd99 : zD Tryz.prog 99 = .agg [.s ⟨#[]⟩, .i .i64 0, .i .i64 0, .i .i64 0] := by kernel_rfl
theorem by99 : qbw Tryz.prog 99 = some 40 := by kernel_rfl
theorem sl99 : q0u Tryz.prog 99 = false := by kernel_rfl
theorem st99 : qcg Tryz.prog 99 = false := by kernel_rfl
theorem bo99 : qb5 Tryz.prog 99 = false := by kernel_rfl
theorem pt99 : qch Tryz.prog 99 = false := by kernel_rfl
theorem q2c : offT Tryz.prog 99 0 = some (0, 1) := by kernel_rfl
theorem q2d : qb6 Tryz.prog 99 0 = some 9 := by kernel_rfl
theorem q2e : offT Tryz.prog 99 1 = some (1, 1) := by kernel_rfl
theorem q2f : qb6 Tryz.prog 99 1 = some 3 := by kernel_rfl
theorem q2g : offT Tryz.prog 99 2 = some (2, 1) := by kernel_rfl
theorem q2h : qb6 Tryz.prog 99 2 = some 3 := by kernel_rfl
theorem q2i : offT Tryz.prog 99 3 = some (3, 1) := by kernel_rfl
theorem q2j : qb6 Tryz.prog 99 3 = some 25 := by kernel_rfl
theorem pl99 : qeb Tryz.prog 99 = some [(0, 1), (1, 1), (2, 1), (3, 1)] := by kernel_rfl
theorem ek99 : eqKs Tryz.prog 99 = some [.s, .i, .i, .i] := by kernel_rfl
theorem q25 : q0k Tryz.prog 103 = some 1 := by kernel_rfl
theorem q26 : aggT Tryz.prog 103 = some false := by kernel_rfl
theorem q27 : q03 Tryz.prog 103 = some [.np] := by kernel_rfl
theorem q28 : qc9 Tryz.prog 103 = some (.np) := by kernel_rfl
theorem q29 : zD Tryz.prog 103 = .np := by kernel_rfl
theorem q3a : qbw Tryz.prog 103 = some 8 := by kernel_rfl
theorem q3b : q0u Tryz.prog 103 = false := by kernel_rfl
theorem q3c : qcg Tryz.prog 103 = false := by kernel_rfl
theorem q3d : qb5 Tryz.prog 103 = false := by kernel_rfl
theorem q3e : qch Tryz.prog 103 = true := by kernel_rfl
theorem q3f : q0k Tryz.prog 105 = some 4 := by kernel_rfl
theorem q3g : aggT Tryz.prog 105 = some true := by kernel_rfl
theorem q3h : q03 Tryz.prog 105 = some [.s ⟨#[]⟩, .i .i64 0, .i .i64 0, .i .i64 0] := by kernel_rfl
theorem q3i : zD Tryz.prog 105 = .agg [.s ⟨#[]⟩, .i .i64 0, .i .i64 0, .i .i64 0] := by kernel_rfl
theorem q3j : qbw Tryz.prog 105 = some 40 := by kernel_rfl
theorem q3k : q0u Tryz.prog 105 = false := by kernel_rfl
theorem q3l : qcg Tryz.prog 105 = false := by kernel_rfl
theorem q3m : qb5 Tryz.prog 105 = false := by kernel_rfl
theorem q3n : qch Tryz.prog 105 = false := by kernel_rfl
theorem qz4 : offT Tryz.prog 105 0 = some (0, 1) := by kernel_rfl
theorem qz5 : qb6 Tryz.prog 105 0 = some 9 := by kernel_rfl
theorem qz6 : offT Tryz.prog 105 1 = some (1, 1) := by kernel_rfl
theorem qz7 : qb6 Tryz.prog 105 1 = some 3 := by kernel_rfl
theorem qz8 : offT Tryz.prog 105 2 = some (2, 1) := by kernel_rfl
theorem qz9 : qb6 Tryz.prog 105 2 = some 3 := by kernel_rfl
theorem q00a : offT Tryz.prog 105 3 = some (3, 1) := by kernel_rfl
theorem q00b : qb6 Tryz.prog 105 3 = some 3 := by kernel_rfl
theorem q3o : qeb Tryz.prog 105 = some [(0, 1), (1, 1), (2, 1), (3, 1)] := by kernel_rfl
theorem q3p : eqKs Tryz.prog 105 = some [.s, .i, .i, .i] := by kernel_rfl
end Go.Ev.Ty
namespace Go.Ev
def decI (k : IntKind) : D → Option Int
 | .i k' n => if k' = k then some n else none
 | _ => none
def decM {α : Type} (f : D → Option α) : List D → Option (List α)
 | [] => some []
 | d :: l => match f d, decM f l with
   | some x, some r => some (x :: r)
   | _, _ => none
def decL {α : Type} (z : Nat) (f : D → Option α) : D → Option (List α)
 | .nil => some []
 | .sl z' l => if z' = z then decM f l else none
 | _ => none
theorem qxt (k : IntKind) (n : Int) : decI k (D.i k n) = some n := by simp [decI]
theorem q00c {k : IntKind} {d : D} {n : Int} (h : decI k d = some n) : dle d (D.i k n) := by
 unfold decI at h
 split at h
 ·split at h
  ·cases h; rename_i e; subst e; exact qck _
  ·cases h
 ·cases h
theorem qiz {α : Type} {f : D → Option α} {g : α → D} (h : ∀ x, f (g x) = some x) : ∀ l : List α, decM f (l.map g) = some l
 | [] => rfl
 | x :: l => by simp [decM, h, qiz h l]
theorem qi0 {α : Type} {f : D → Option α} {g : α → D} {z : Nat} (h : ∀ x, f (g x) = some x) (l : List α) : decL z f (.sl z (l.map g)) = some l := by simp [decL, qiz h]
theorem qsx {α : Type} {f : D → Option α} {g : α → D} (h : ∀ {d x}, f d = some x → dle d (g x)) : ∀ {l : List D} {x : List α}, decM f l = some x → dles l (x.map g)
 | [], x, hl => by cases hl; simp [dles]
 | d :: l, x, hl => by
   unfold decM at hl
   split at hl
   ·rename_i a r h1 h2
    cases hl
    simp only [List.map_cons, dles]
    exact ⟨h h1, qsx h h2⟩
   ·cases hl
theorem qn5 {α : Type} {f : D → Option α} {g : α → D} {z : Nat} (h : ∀ {d x}, f d = some x → dle d (g x)) {d : D} {x : List α} (hd : decL z f d = some x) : dle d (.sl z (x.map g)) := by
 unfold decL at hd
 split at hd
 ·cases hd; simp [dle]
 ·split at hd
  ·rename_i e
   subst e
   simp only [dle]
   exact ⟨trivial, qsx h hd⟩
  ·cases hd
 ·cases hd
theorem qn6 (x y : ByteArray) : seq x y = true ↔ x = y := by
 unfold seq
 rw [beq_iff_eq, ByteArray.toList_eq, ByteArray.toList_eq]
 exact ⟨fun h => Go.WideShapes.bytes_inj h, fun h => by rw [h]⟩
theorem qn7 (x y : ByteArray) : seq x y = decide (x = y) := by
 rw [Bool.eq_iff_iff, qn6, decide_eq_true_iff]
end Go.Ev
namespace Go.Ev
structure Change where
 file : ByteArray
 kind : Int
 rrn : Int
 before : ByteArray
 after : ByteArray
deriving DecidableEq
structure Entry where
 number : Int
 kind : Int
 unit : Int
 change : Change
deriving DecidableEq
end Go.Ev
namespace Go.Ev
def chr (s : ByteArray) (i : Nat) : Int := ((s.data.toList.getD i 0).toNat : Int)
def qi1 (first : Bool) (c : Int) : Bool := (decide (65 ≤ c) && decide (c ≤ 90) || c == 35 || c == 36 || c == 64) || (!first && (c == 95 || c == 46 || decide (48 ≤ c) && decide (c ≤ 57)))
def qbq (s : ByteArray) : Bool := decide (1 ≤ s.size) && decide (s.size ≤ 10) && (List.range s.size).all fun i => qi1 (i == 0) (chr s i)
theorem qt8 (s : ByteArray) (k : Nat) : (qcr s).getD k (.i .u8 0) = .i .u8 (chr s k) := by
 unfold qcr chr
 simp only [List.getD, List.getElem?_map]
 cases s.data.toList[k]? <;> rfl
theorem qct (s : ByteArray) (i : Nat) : ((s.data.toList.getD i 0).toNat : Int) = chr s i := rfl
theorem qoz {s : ByteArray} {i : Nat} (h : i < s.size) (hc : qi1 (i == 0) (chr s i) = false) : qbq s = false := by
 unfold qbq
 rw [Bool.and_eq_false_iff]
 right
 rw [List.all_eq_false]
 exact ⟨i, by simpa using h, by simp [hc]⟩
theorem qmw {s : ByteArray} (h1 : 1 ≤ s.size) (h2 : s.size ≤ 10) (h : ∀ j, j < s.size → qi1 (j == 0) (chr s j) = true) : qbq s = true := by
 unfold qbq
 simp only [Bool.and_eq_true, decide_eq_true_eq, List.all_eq_true, List.mem_range]
 exact ⟨⟨h1, h2⟩, h⟩
theorem qmx {s : ByteArray} (h : (s.size : Int) < 1 ∨ 10 < (s.size : Int)) : qbq s = false := by
 unfold qbq
 rw [Bool.and_eq_false_iff]
 left
 simp only [Bool.and_eq_false_iff, decide_eq_false_iff_not]
 omega
theorem qho (i : Nat) (c : Int) : qi1 (i == 0) c = true ↔ (((65 ≤ c ∧ c ≤ 90) ∨ c = 35 ∨ c = 36 ∨ c = 64) ∨ (i ≠ 0 ∧ (c = 95 ∨ c = 46 ∨ (48 ≤ c ∧ c ≤ 57)))) := by
 simp [qi1]
 omega
theorem qq5 (s : ByteArray) : s = ⟨#[]⟩ ↔ s.size = 0 := by
 constructor
 ·rintro rfl; rfl
 ·intro h
  cases s with | mk d => simp only [ByteArray.size, Array.size_eq_zero_iff] at h; rw [h]
def pEnd (u : Int) (e : Entry) : Bool := (e.kind == 2 || e.kind == 3) && e.unit == u
def q3q (l : List Entry) (u : Int) : Option Entry := l.find? (pEnd u)
def ends (l : List Entry) (u : Int) : Int := match q3q l u with | some e => e.kind | none => -1
section
variable {l : List Entry} {c : Int × Int} {i : Nat}
end
section
variable {l : List Entry} {u : Int} {i : Nat}
theorem qq6 {α : Type} {l : List α} {i : Nat} (z : α) (h : i < l.length) : l.getD i z ∈ l := by
 simp only [List.getD, List.getElem?_eq_getElem h, Option.getD_some]
 exact List.getElem_mem h
end
theorem qjz {α : Type} {a b : List α} {i : Nat} {z : α} (h : a.take i = b.take i) (ha : i < a.length) (hb : i < b.length) (he : a.getD i z = b.getD i z) : a.take (i + 1) = b.take (i + 1) := by
 rw [qoy z ha, qoy z hb, h, he]
theorem qle {α : Type} {a b : List α} {i : Nat} (h : a.take i = b.take i) (ha : a.length ≤ i) (hb : b.length ≤ i) : a = b := by
 rwa [List.take_of_length_le ha, List.take_of_length_le hb] at h
end Go.Ev
namespace Go.Ev
structure CVal where
 kind : Int
 text : ByteArray
deriving DecidableEq
def q0s (x : CVal) : D := .agg [.i .i64 x.kind, .s x.text]
def qi2 : CVal := ⟨0, ⟨#[]⟩⟩
theorem qei (x : CVal) : (⟨x.kind, x.text⟩ : CVal) = x := rfl
def qcc : D → Option CVal
 | .agg [.i .i64 a0, .s a1] => some ⟨a0, a1⟩
 | _ => none
theorem qh1 (x : CVal) : qcc (q0s x) = some x := rfl
theorem qt9 {d : D} {x : CVal} (h : qcc d = some x) : dle d (q0s x) := by
 unfold qcc at h
 split at h
 ·cases h; exact qck _
 ·cases h
theorem qe7 : (⟨0, ⟨#[]⟩⟩ : CVal) = qi2 := rfl
theorem q00d {a0 b0 : Int} {a1 b1 : ByteArray} : qbj [.i, .s] [.i .i64 a0, .s a1] [.i .i64 b0, .s b1] = some (eqB (⟨a0, a1⟩ : CVal) ⟨b0, b1⟩) := by
 simp only [qbj, qgh, qn7, ↓reduceIte, Option.some.injEq, Bool.and_true]; rw [Bool.eq_iff_iff]; simp [eqB]
theorem qv3 (l : List CVal) (k : Nat) : (l.map q0s).getD k (q0s qi2) = q0s (l.getD k qi2) := by
 simp only [List.getD, List.getElem?_map]
 cases l[k]? <;> rfl
theorem qcp (l : List CVal) (k : Nat) : (l.map q0s).getD k (.agg [.i .i64 0, .s ⟨#[]⟩]) = q0s (l.getD k qi2) := qv3 l k
theorem qej (l : List CVal) : decL 2 qcc (.sl 2 (l.map q0s)) = some l := qi0 qh1 l
theorem qek (l : List CVal) : decM qcc (l.map q0s) = some l := qiz qh1 l
structure CPart where
 keyword : ByteArray
 values : List CVal
deriving DecidableEq
def q0v (x : CPart) : D := .agg [.s x.keyword, .sl 2 (x.values.map q0s)]
def q09 : CPart := ⟨⟨#[]⟩, []⟩
theorem qi3 (x : CPart) : (⟨x.keyword, x.values⟩ : CPart) = x := rfl
def qdf : D → Option CPart
 | .agg [.s a0, a1] => match (decL 2 qcc) a1 with
   | some b1 => some ⟨a0, b1⟩
   | _ => none
 | _ => none
theorem qj0 (x : CPart) : qdf (q0v x) = some x := by
 simp [qdf, q0v, (qi0 qh1)]
theorem qsh {d : D} {x : CPart} (h : qdf d = some x) : dle d (q0v x) := by
 unfold qdf at h
 split at h
 ·split at h
  ·rename_i h1
   cases h
   simp only [dle, dles, q0v, and_true, true_and]
   exact (qn5 qt9) h1
  ·cases h
 ·cases h
theorem qkp : (⟨⟨#[]⟩, []⟩ : CPart) = q09 := rfl
theorem qi4 (l : List CPart) : decL 2 qdf (.sl 2 (l.map q0v)) = some l := qi0 qj0 l
theorem qi5 (l : List CPart) : decM qdf (l.map q0v) = some l := qiz qj0 l
structure CStr where
 name : ByteArray
 parts : List CPart
deriving DecidableEq
def qd0 (x : CStr) : D := .agg [.s x.name, .sl 2 (x.parts.map q0v)]
def qb8 : CStr := ⟨⟨#[]⟩, []⟩
theorem qsy (x : CStr) : (⟨x.name, x.parts⟩ : CStr) = x := rfl
def qg2 : D → Option CStr
 | .agg [.s a0, a1] => match (decL 2 qdf) a1 with
   | some b1 => some ⟨a0, b1⟩
   | _ => none
 | _ => none
theorem qmy {d : D} {x : CStr} (h : qg2 d = some x) : dle d (qd0 x) := by
 unfold qg2 at h
 split at h
 ·split at h
  ·rename_i h1
   cases h
   simp only [dle, dles, qd0, and_true, true_and]
   exact (qn5 qsh) h1
  ·cases h
 ·cases h
theorem qv4 : (⟨⟨#[]⟩, []⟩ : CStr) = qb8 := rfl
structure CParam where
 keyword : ByteArray
 type_ : Int
 length : Int
 low : Int
 high : Int
 special : List ByteArray
 choices : List ByteArray
 most : Int
 required : Bool
 default : ByteArray
deriving DecidableEq
def qo0 (x : CParam) : D := .agg [.s x.keyword, .i .i64 x.type_, .i .i64 x.length, .i .i64 x.low, .i .i64 x.high, .sl 1 (x.special.map D.s), .sl 1 (x.choices.map D.s), .i .i64 x.most, .b x.required, .s x.default]
structure CDep where
 control : Int
 value : ByteArray
 params : List Int
 least : Int
 most : Int
deriving DecidableEq
def qsz (x : CDep) : D := .agg [.i .i64 x.control, .s x.value, .sl 1 (x.params.map (D.i .i64)), .i .i64 x.least, .i .i64 x.most]
structure CDef where
 name : ByteArray
 params : List CParam
 positions : Int
 deps : List CDep
deriving DecidableEq
def q00e (x : CDef) : D := .agg [.s x.name, .sl 10 (x.params.map qo0), .i .i64 x.positions, .sl 5 (x.deps.map qsz)]
end Go.Ev
namespace Go.Ev
structure Rd where
 s : ByteArray
 pos : Nat
 place : Int
 err : Int
def qb1 (s : ByteArray) (a p e : Int) : Option Rd := if 0 ≤ a then some ⟨s, a.toNat, p, e⟩ else none
theorem qel {s : ByteArray} {n : Nat} {p e : Int} : qb1 s (n : Int) p e = some ⟨s, n, p, e⟩ := by unfold qb1; rw [if_pos (by omega)]; rfl
theorem qdt {s : ByteArray} {n : Nat} {p e : Int} : qb1 s ((n : Int) + 1) p e = some ⟨s, n + 1, p, e⟩ := by unfold qb1; rw [if_pos (by omega)]; rfl
theorem qem {s : ByteArray} {p e : Int} : qb1 s 0 p e = some ⟨s, 0, p, e⟩ := by unfold qb1; rw [if_pos (by omega)]; rfl
theorem qo1 {s : ByteArray} {a p e : Int} {r : Rd} (h : qb1 s a p e = some r) : r.s = s ∧ (r.pos : Int) = a ∧ r.place = p ∧ r.err = e := by
 unfold qb1 at h
 split at h
 ·cases h; exact ⟨rfl, Int.toNat_of_nonneg ‹_›, rfl, rfl⟩
 ·cases h
theorem qb9 {t : TypeId} {s : ByteArray} {a p e : Int} {r : Rd} (h : qb1 s a p e = some r) : ole (.bx t [.d (.s s), .d (.i .i64 a), .d (.i .i64 p), .d (.i .i64 e)]) (.bx t [.d (.s r.s), .d (.i .i64 (r.pos : Int)), .d (.i .i64 r.place), .d (.i .i64 r.err)]) := by
 obtain ⟨h1, h2, h3, h4⟩ := qo1 h
 rw [h1, h2, h3, h4]; exact qbc _
theorem qxu {s : ByteArray} {a p e : Int} {r : Rd} (h : qb1 s a p e = some r) : dle (.cp [.s s, .i .i64 a, .i .i64 p, .i .i64 e]) (.cp [.s r.s, .i .i64 (r.pos : Int), .i .i64 r.place, .i .i64 r.err]) := by
 obtain ⟨h1, h2, h3, h4⟩ := qo1 h
 rw [h1, h2, h3, h4]; exact qck _
def endC (c : Int) : Bool := decide (c = 32) || decide (c = 40) || decide (c = 41) || decide (c = 39)
def fP (e0 p0 p : Int) : Int := if e0 = 0 then p else p0
def fE (e0 e : Int) : Int := if e0 = 0 then e else e0
def Rd.fail (r : Rd) (p e : Int) : Rd := ⟨r.s, r.pos, fP r.err r.place p, fE r.err e⟩
def qdu (p : Int → Bool) (s : ByteArray) : Nat → Nat → Nat
 | 0, i => i
 | n + 1, i => if i < s.size ∧ p (chr s i) = true then qdu p s n (i + 1) else i
def skip (p : Int → Bool) (s : ByteArray) (i : Nat) : Nat := qdu p s s.size i
def isBl (c : Int) : Bool := decide (c = 32)
def Rd.blanks (r : Rd) : Rd := ⟨r.s, skip isBl r.s r.pos, r.place, r.err⟩
theorem qlf {p : Int → Bool} {s : ByteArray} : ∀ (n i j : Nat), i ≤ j → j ≤ s.size → s.size - i ≤ n → (∀ k, i ≤ k → k < j → p (chr s k) = true) → (j = s.size ∨ p (chr s j) = false) → qdu p s n i = j
 | 0, i, j, h1, h2, h3, _, _ => by unfold qdu; omega
 | n + 1, i, j, h1, h2, h3, h4, h5 => by
   unfold qdu
   by_cases e : i = j
   ·subst e
    rw [if_neg]
    rintro ⟨k1, k2⟩
    rcases h5 with h5 | h5
    ·omega
    ·rw [h5] at k2; cases k2
   ·rw [if_pos ⟨by omega, h4 i (Nat.le_refl _) (by omega)⟩]
    exact qlf n (i + 1) j (by omega) h2 (by omega) (fun k k1 k2 => h4 k (by omega) k2) h5
theorem qq7 {p : Int → Bool} {s : ByteArray} : ∀ (n i : Nat), s.size ≤ i → qdu p s n i = i
 | 0, i, _ => rfl
 | n + 1, i, h => by unfold qdu; rw [if_neg (by omega)]
theorem qlr {p : Int → Bool} {s : ByteArray} {i : Nat} (h : s.size ≤ i) : skip p s i = i := qq7 _ _ h
theorem qkq {p : Int → Bool} {s : ByteArray} {i j : Nat} (h1 : i ≤ j) (h2 : j ≤ s.size) (h4 : ∀ k, i ≤ k → k < j → p (chr s k) = true) (h5 : j = s.size ∨ p (chr s j) = false) : skip p s i = j :=
 qlf _ i j h1 h2 (by omega) h4 h5
def inW (c : Int) : Bool := !endC c
def upS (s : ByteArray) : ByteArray := ⟨(Go.Lib.toUpperA s.data.toList).toArray⟩
def asc (s : ByteArray) : Prop := s.size ≤ 400 ∧ ∀ b ∈ s.data.toList, b.toNat < 128
def Rd.wend (r : Rd) : Nat := skip inW r.s r.pos
def Rd.word (r : Rd) : Rd := ⟨r.s, r.wend, r.place, r.err⟩
def Rd.wtxt (r : Rd) : ByteArray := upS (r.s.extract r.pos r.wend)
theorem qgg {s : ByteArray} (h : asc s) (i j : Nat) : (s.extract i j).size ≤ 140737488355328 ∧ ∀ b ∈ (s.extract i j).data.toList, b.toNat < 128 := by
 refine ⟨?_, fun b hb => h.2 b ?_⟩
 ·have := h.1
  simp only [ByteArray.size_extract]
  omega
 ·rw [ByteArray.data_extract, Array.toList_extract] at hb
  exact List.mem_of_mem_drop (List.mem_of_mem_take hb)
theorem q00f {c : Int} : endC c = true ↔ inW c = false := by simp [inW]
theorem qi6 {c : Int} : isBl c = true ↔ c = 32 := by simp [isBl]
theorem qhp {q : Int → Bool} {s : ByteArray} {a i : Nat} (h : ∀ k, a ≤ k → k < i → q (chr s k) = true) (hi : q (chr s i) = true) : ∀ k, a ≤ k → k < i + 1 → q (chr s k) = true := fun k h1 h2 => by
 by_cases e : k < i
 ·exact h k h1 e
 ·have : k = i := by omega
  subst this; exact hi
def badC (c : Int) : Bool := decide (c < 32) || decide (126 < c)
def idxP (p : Int → Bool) (l : List Int) : Int := match l.findIdx? p with
 | some k => (k : Int)
 | none => -1
theorem qs0 {p : Int → Bool} {l : List Int} {i : Nat} (hi : i < l.length) (h : p (l.getD i 0) = true) (hb : ∀ j, j < i → p (l.getD j 0) = false) : idxP p l = (i : Int) := by
 unfold idxP
 have : l.findIdx? p = some i := by
  rw [List.findIdx?_eq_some_iff_getElem]
  refine ⟨hi, by simpa [hi] using h, fun j hj => ?_⟩
  have := hb j hj
  have hjl : j < l.length := by omega
  simpa [hjl] using this
 rw [this]
theorem qs1 {p : Int → Bool} {l : List Int} (hb : ∀ j, j < l.length → p (l.getD j 0) = false) : idxP p l = -1 := by
 unfold idxP
 have : l.findIdx? p = none := by
  rw [List.findIdx?_eq_none_iff]
  intro x hx
  obtain ⟨j, hj, rfl⟩ := List.getElem_of_mem hx
  have := hb j hj
  simpa [hj] using this
 rw [this]
theorem qxv (l : List Int) (k : Nat) : (l.map (D.i .u8)).getD k (.i .u8 0) = .i .u8 (l.getD k 0) := by
 simp only [List.getD, List.getElem?_map]
 cases l[k]? <;> rfl
def qrun (s : ByteArray) : Nat → Nat → List Int → Nat × List Int × Bool
 | 0, i, l => (i, l, false)
 | n + 1, i, l => if i < s.size then (if chr s i = 39 then (if i + 1 < s.size ∧ chr s (i + 1) = 39 then qrun s n (i + 2) (l ++ [39]) else (i + 1, l, true)) else qrun s n (i + 1) (l ++ [chr s i])) else (i, l, false)
theorem qhq {s : ByteArray} : ∀ (n m i : Nat) (l : List Int), s.size < i + n → s.size < i + m → qrun s n i l = qrun s m i l
 | 0, 0, i, l, _, _ => rfl
 | 0, m + 1, i, l, h, _ => by unfold qrun; rw [if_neg (by omega)]
 | n + 1, 0, i, l, _, h => by unfold qrun; rw [if_neg (by omega)]
 | n + 1, m + 1, i, l, h1, h2 => by
   unfold qrun
   rw [qhq n m (i + 2) (l ++ [39]) (by omega) (by omega), qhq n m (i + 1) (l ++ [chr s i]) (by omega) (by omega)]
def qq (s : ByteArray) (i : Nat) (l : List Int) : Nat × List Int × Bool := qrun s (s.size + 1) i l
theorem qkr {s : ByteArray} {i : Nat} {l : List Int} : qq s i l = if i < s.size then (if chr s i = 39 then (if i + 1 < s.size ∧ chr s (i + 1) = 39 then qq s (i + 2) (l ++ [39]) else (i + 1, l, true)) else qq s (i + 1) (l ++ [chr s i])) else (i, l, false) := by
 conv => lhs; unfold qq qrun
 unfold qq
 rw [qhq s.size (s.size + 1) (i + 2) (l ++ [39]) (by omega) (by omega), qhq s.size (s.size + 1) (i + 1) (l ++ [chr s i]) (by omega) (by omega)]
theorem qv5 {s : ByteArray} {i : Nat} {l : List Int} (h : s.size ≤ i) : qq s i l = (i, l, false) := by rw [qkr, if_neg (by omega)]
theorem qs2 {s : ByteArray} {i : Nat} {l : List Int} (h : i < s.size) (k : ¬ chr s i = 39) : qq s i l = qq s (i + 1) (l ++ [chr s i]) := by rw [qkr, if_pos h, if_neg k]
theorem qv6 {s : ByteArray} {i : Nat} {l : List Int} (h : i + 1 < s.size) (k : chr s i = 39) (k2 : chr s (i + 1) = 39) : qq s i l = qq s (i + 2) (l ++ [39]) := by rw [qkr, if_pos (by omega), if_pos k, if_pos ⟨h, k2⟩]
theorem qs3 {s : ByteArray} {i : Nat} {l : List Int} (h : i < s.size) (k : chr s i = 39) (k2 : ¬ (i + 1 < s.size ∧ chr s (i + 1) = 39)) : qq s i l = (i + 1, l, true) := by rw [qkr, if_pos h, if_pos k, if_neg k2]
def Rd.to (r : Rd) (i : Nat) : Rd := ⟨r.s, i, r.place, r.err⟩
def Rd.qres (r : Rd) : Nat × List Int × Bool := qq r.s (r.pos + 1) []
def Rd.qval (r : Rd) : CVal := if r.qres.2.2 = true then ⟨1, strD (r.qres.2.1.map (D.i .u8))⟩ else qi2
def Rd.quoted (r : Rd) : Rd := if r.qres.2.2 = true then (if 64 < r.qres.2.1.length then (r.to r.qres.1).fail r.pos 2 else r.to r.qres.1) else (r.to r.qres.1).fail r.s.size 8
def qnx (s : ByteArray) (p : Nat × List Int) : Nat × List Int := if chr s p.1 = 39 then (p.1 + 2, p.2 ++ [39]) else (p.1 + 1, p.2 ++ [chr s p.1])
theorem qs4 {s : ByteArray} {p : Nat × List Int} (h : chr s p.1 = 39) : qnx s p = (p.1 + 2, p.2 ++ [39]) := if_pos h
theorem qs5 {s : ByteArray} {p : Nat × List Int} (h : ¬ chr s p.1 = 39) : qnx s p = (p.1 + 1, p.2 ++ [chr s p.1]) := if_neg h
theorem qxw (l : List Int) : (l.map (D.i .u8)).all isU8 = true := by
 rw [List.all_map, List.all_eq_true]; intro x _; rfl
theorem qby {α : Type} (l : List α) (n : Nat) (h : n = l.length) : l.take n = l := by subst h; exact List.take_length
theorem qhr (r : Rd) : (⟨r.s, r.pos, r.place, r.err⟩ : Rd) = r := rfl
theorem qv7 {r : Rd} {p e : Int} : (r.fail p e).s = r.s := rfl
theorem qev {r : Rd} {p e : Int} : (r.fail p e).pos = r.pos := rfl
theorem qew {r : Rd} : r.word.s = r.s := rfl
theorem qmz {r : Rd} {i : Nat} : (r.to i).pos = i := rfl
theorem qh2 {p : Int → Bool} {s : ByteArray} : ∀ (n i : Nat), i ≤ s.size → i ≤ qdu p s n i ∧ qdu p s n i ≤ s.size
 | 0, i, h => ⟨Nat.le_refl _, h⟩
 | n + 1, i, h => by
   unfold qdu
   split
   ·have := qh2 (p := p) (s := s) n (i + 1) (by omega); omega
   ·exact ⟨Nat.le_refl _, h⟩
theorem qcz {r : Rd} (h : r.pos ≤ r.s.size) : r.pos ≤ r.word.pos ∧ r.word.pos ≤ r.s.size := qh2 _ _ h
theorem q0n {r : Rd} : r.blanks.s = r.s := rfl
theorem qbk {r : Rd} (h : r.pos ≤ r.s.size) : r.pos ≤ r.blanks.pos ∧ r.blanks.pos ≤ r.s.size := qh2 _ _ h
theorem qls {s : ByteArray} : ∀ (n i : Nat) (l : List Int), i ≤ s.size → i ≤ (qrun s n i l).1 ∧ (qrun s n i l).1 ≤ s.size
 | 0, i, l, h => ⟨Nat.le_refl _, h⟩
 | n + 1, i, l, h => by
   unfold qrun
   split
   ·split
    ·split
     ·have := qls (s := s) n (i + 2) (l ++ [39]) (by omega); omega
     ·exact ⟨by simp, by simp; omega⟩
    ·have := qls (s := s) n (i + 1) (l ++ [chr s i]) (by omega); omega
   ·exact ⟨Nat.le_refl _, h⟩
theorem qba {r : Rd} : r.quoted.s = r.s := by
 unfold Rd.quoted; split
 ·split
  ·exact qv7
  ·rfl
 ·exact qv7
theorem qi7 {r : Rd} (h : r.pos < r.s.size) : r.pos < r.quoted.pos ∧ r.quoted.pos ≤ r.s.size := by
 have q := qls (s := r.s) (r.s.size + 1) (r.pos + 1) [] (by omega)
 have e : r.quoted.pos = r.qres.1 := by
  unfold Rd.quoted; split
  ·split
   ·exact qev
   ·rfl
  ·exact qev
 rw [e]; exact ⟨by unfold Rd.qres qq; omega, q.2⟩
def isAt (s : ByteArray) (i : Nat) (c : Int) : Bool := decide (i < s.size) && decide (chr s i = c)
def Rd.is (r : Rd) (c : Int) : Bool := isAt r.s r.pos c
def Rd.stop (r : Rd) (op : Bool) : Rd := if (decide (r.pos < r.s.size) && !r.is 32 && !(op && r.is 41)) = true then r.fail r.pos 8 else r
def Rd.valV (r : Rd) : CVal := if r.is 39 = true then r.qval else ⟨0, r.wtxt⟩
def Rd.valR (r : Rd) : Rd := if r.is 39 = true then r.quoted else if 64 < r.wtxt.size then r.word.fail r.pos 2 else r.word
theorem qfe {r : Rd} {op : Bool} (h : ((r.pos : Int) < (r.s.size : Int) ∧ isAt r.s r.pos 32 = false) ∧ (op = false ∨ isAt r.s r.pos 41 = false)) : r.stop op = r.fail r.pos 8 := by
 unfold Rd.stop Rd.is
 rw [if_pos]
 obtain ⟨⟨h1, h2⟩, h3⟩ := h
 rw [h2, decide_eq_true (by omega : r.pos < r.s.size)]
 rcases h3 with h3 | h3 <;> rw [h3] <;> simp
theorem qf3 {r : Rd} {op : Bool} (h : ((r.s.size : Int) ≤ (r.pos : Int) ∨ isAt r.s r.pos 32 = true) ∨ op = true ∧ isAt r.s r.pos 41 = true) : r.stop op = r := by
 unfold Rd.stop Rd.is
 rw [if_neg]
 rcases h with (h | h) | ⟨h, k⟩
 ·rw [decide_eq_false (by omega : ¬ r.pos < r.s.size)]; simp
 ·rw [h]; simp
 ·rw [h, k]; simp
theorem qq8 {r : Rd} (h : isAt r.s r.pos 39 = true) : r.valR = r.quoted := by unfold Rd.valR Rd.is; rw [if_pos h]
theorem qv8 {r : Rd} (h : isAt r.s r.pos 39 = false) (k : 64 < r.wtxt.size) : r.valR = r.word.fail r.pos 2 := by unfold Rd.valR Rd.is; rw [if_neg (by rw [h]; decide), if_pos k]
theorem qv9 {r : Rd} (h : isAt r.s r.pos 39 = false) (k : ¬ 64 < r.wtxt.size) : r.valR = r.word := by unfold Rd.valR Rd.is; rw [if_neg (by rw [h]; decide), if_neg k]
theorem etaB (r : Rd) : (⟨r.s, r.blanks.pos, r.blanks.place, r.blanks.err⟩ : Rd) = r.blanks := rfl
theorem etaW (r : Rd) : (⟨r.s, r.word.pos, r.word.place, r.word.err⟩ : Rd) = r.word := rfl
def Rd.nmT (r : Rd) : ByteArray := if r.blanks.pos = r.s.size then ⟨#[]⟩ else r.blanks.wtxt
def Rd.nmR (r : Rd) : Rd := if r.blanks.pos = r.s.size then r.blanks.fail r.blanks.pos 1 else if qbq r.blanks.wtxt = true then r.blanks.word.stop false else (r.blanks.word.stop false).fail r.blanks.pos 7
theorem q3r {r : Rd} (h : r.blanks.pos = r.s.size) : r.nmT = ⟨#[]⟩ := if_pos h
theorem qyu {r : Rd} (h : ¬ r.blanks.pos = r.s.size) : r.nmT = r.blanks.wtxt := if_neg h
theorem qyv {r : Rd} (h : r.blanks.pos = r.s.size) : r.nmR = r.blanks.fail r.blanks.pos 1 := if_pos h
theorem qyw {r : Rd} (h : ¬ r.blanks.pos = r.s.size) (k : qbq r.blanks.wtxt = true) : r.nmR = r.blanks.word.stop false := by unfold Rd.nmR; rw [if_neg h, if_pos k]
theorem qyx {r : Rd} (h : ¬ r.blanks.pos = r.s.size) (k : qbq r.blanks.wtxt = false) : r.nmR = (r.blanks.word.stop false).fail r.blanks.pos 7 := by unfold Rd.nmR; rw [if_neg h, if_neg (by rw [k]; decide)]
theorem qgm {r : Rd} (h : (r.pos : Int) < (r.s.size : Int)) (k : isAt r.s r.pos 32 = false) : r.stop false = r.fail r.pos 8 := qfe ⟨⟨h, k⟩, .inl rfl⟩
theorem qf4 {r : Rd} (h : (r.s.size : Int) ≤ (r.pos : Int) ∨ isAt r.s r.pos 32 = true) : r.stop false = r := qf3 (.inl h)
def lrun (op : Nat) : Nat → Rd → List CVal → Rd × List CVal
 | 0, r, out => (r, out)
 | n + 1, r, out => if r.err = 0 ∧ r.pos < r.s.size ∧ isAt r.s r.pos 41 = false then
     (if out.length = 10 then (r.fail r.pos 2, []) else if isAt r.s r.pos 40 = true then (r.fail r.pos 8, []) else lrun op n (r.valR.stop true).blanks (out ++ [r.valV]))
   else if ¬ r.err = 0 then (r, [])
   else if r.pos = r.s.size then (((r.fail r.pos 8).to (r.pos + 1)).stop false, out)
   else if out = [] then (((r.fail op 1).to (r.pos + 1)).stop false, out)
   else ((r.to (r.pos + 1)).stop false, out)
def Rd.list (r : Rd) : Rd × List CVal := lrun r.pos 12 (r.to (r.pos + 1)).blanks []
theorem q04 {r : Rd} {op : Bool} : (r.stop op).s = r.s := by unfold Rd.stop; split <;> rfl
theorem qbp {r : Rd} {op : Bool} : (r.stop op).pos = r.pos := by unfold Rd.stop; split <;> rfl
theorem qbh {r : Rd} : r.valR.s = r.s := by
 unfold Rd.valR; split
 ·exact qba
 ·split <;> rfl
theorem qff {r : Rd} (h : r.pos ≤ r.s.size) : r.pos ≤ r.valR.pos ∧ r.valR.pos ≤ r.s.size := by
 unfold Rd.valR
 split
 ·rename_i h1
  unfold Rd.is isAt at h1
  rw [Bool.and_eq_true, decide_eq_true_eq] at h1
  have := qi7 h1.1
  omega
 ·split
  ·exact qcz h
  ·exact qcz h
theorem etaS (r : Rd) (op : Bool) : (⟨r.s, (r.valR.stop op).pos, (r.valR.stop op).place, (r.valR.stop op).err⟩ : Rd) = r.valR.stop op := by
 have : r.s = (r.valR.stop op).s := by rw [q04, qbh]
 rw [this]
theorem qdo {q : Rd} (h : (q.pos : Int) + 1 < (q.s.size : Int) ∧ isAt q.s (q.pos + 1) 32 = false) : (q.to (q.pos + 1)).stop false = (q.to (q.pos + 1)).fail ((q.pos : Int) + 1) 8 :=
 qgm (r := q.to (q.pos + 1)) (by show ((q.pos + 1 : Nat) : Int) < _; have := h.1; show ((q.pos + 1 : Nat) : Int) < (q.s.size : Int); omega) h.2
theorem qd5 {q : Rd} (h : (q.s.size : Int) ≤ (q.pos : Int) + 1 ∨ isAt q.s (q.pos + 1) 32 = true) : (q.to (q.pos + 1)).stop false = q.to (q.pos + 1) :=
 qf4 (r := q.to (q.pos + 1)) (h.imp (fun h => by show (q.s.size : Int) ≤ ((q.pos + 1 : Nat) : Int); omega) id)
theorem qhs {q : Rd} {a b : Int} (h : (q.pos : Int) + 1 < (q.s.size : Int) ∧ isAt q.s (q.pos + 1) 32 = false) : ((q.fail a b).to (q.pos + 1)).stop false = ((q.fail a b).to (q.pos + 1)).fail ((q.pos : Int) + 1) 8 := qdo (q := q.fail a b) h
theorem qi8 {q : Rd} {a b : Int} (h : (q.s.size : Int) ≤ (q.pos : Int) + 1 ∨ isAt q.s (q.pos + 1) 32 = true) : ((q.fail a b).to (q.pos + 1)).stop false = (q.fail a b).to (q.pos + 1) := qd5 (q := q.fail a b) h
section
variable {op : Nat} {q : Rd} {out : List CVal} {L : Rd × List CVal}
theorem q00g (e : L = lrun op (12 - out.length) q out) (hl : out.length ≤ 10) (c : (q.err = 0 ∧ (q.pos : Int) < (q.s.size : Int)) ∧ isAt q.s q.pos 41 = false) (k : (out.length : Int) = 10) : L = (q.fail q.pos 2, []) := by
 rw [e, show 12 - out.length = (11 - out.length) + 1 by omega]
 unfold lrun
 rw [if_pos ⟨c.1.1, by omega, c.2⟩, if_pos (by omega)]
theorem q00h (e : L = lrun op (12 - out.length) q out) (hl : out.length ≤ 10) (c : (q.err = 0 ∧ (q.pos : Int) < (q.s.size : Int)) ∧ isAt q.s q.pos 41 = false) (k : ¬ (out.length : Int) = 10) (k2 : isAt q.s q.pos 40 = true) : L = (q.fail q.pos 8, []) := by
 rw [e, show 12 - out.length = (11 - out.length) + 1 by omega]
 unfold lrun
 rw [if_pos ⟨c.1.1, by omega, c.2⟩, if_neg (by omega), if_pos k2]
theorem q00i (e : L = lrun op (12 - out.length) q out) (hl : out.length ≤ 10) (c : (q.err = 0 ∧ (q.pos : Int) < (q.s.size : Int)) ∧ isAt q.s q.pos 41 = false) (k : ¬ (out.length : Int) = 10) (k2 : isAt q.s q.pos 40 = false) :
 L = lrun op (12 - (out ++ [q.valV]).length) (q.valR.stop true).blanks (out ++ [q.valV]) := by
 rw [e, show 12 - out.length = (11 - out.length) + 1 by omega, show 12 - (out ++ [q.valV]).length = 11 - out.length by rw [List.length_append, List.length_singleton]; omega]
 conv => lhs; unfold lrun
 rw [if_pos ⟨c.1.1, by omega, c.2⟩, if_neg (by omega), if_neg (by rw [k2]; decide)]
theorem qpw (c : (¬ q.err = 0 ∨ (q.s.size : Int) ≤ (q.pos : Int)) ∨ isAt q.s q.pos 41 = true) : ¬ (q.err = 0 ∧ q.pos < q.s.size ∧ isAt q.s q.pos 41 = false) := by
 rintro ⟨h1, h2, h3⟩
 rcases c with (c | c) | c
 ·exact c h1
 ·omega
 ·rw [c] at h3; cases h3
theorem qwa (e : L = lrun op (12 - out.length) q out) (hl : out.length ≤ 10) (c : (¬ q.err = 0 ∨ (q.s.size : Int) ≤ (q.pos : Int)) ∨ isAt q.s q.pos 41 = true) (k : ¬ q.err = 0) : L = (q, []) := by
 rw [e, show 12 - out.length = (11 - out.length) + 1 by omega]
 unfold lrun
 rw [if_neg (qpw c), if_pos k]
theorem q2k (e : L = lrun op (12 - out.length) q out) (hl : out.length ≤ 10) (c : (¬ q.err = 0 ∨ (q.s.size : Int) ≤ (q.pos : Int)) ∨ isAt q.s q.pos 41 = true) (k : q.err = 0) (k2 : (q.pos : Int) = (q.s.size : Int)) : L = (((q.fail q.pos 8).to (q.pos + 1)).stop false, out) := by
 rw [e, show 12 - out.length = (11 - out.length) + 1 by omega]
 unfold lrun
 rw [if_neg (qpw c), if_neg (by simp [k]), if_pos (by omega)]
theorem q2l (e : L = lrun op (12 - out.length) q out) (hl : out.length ≤ 10) (c : (¬ q.err = 0 ∨ (q.s.size : Int) ≤ (q.pos : Int)) ∨ isAt q.s q.pos 41 = true) (k : q.err = 0) (k2 : ¬ (q.pos : Int) = (q.s.size : Int)) (k3 : (out.length : Int) = 0) :
 L = (((q.fail op 1).to (q.pos + 1)).stop false, out) := by
 rw [e, show 12 - out.length = (11 - out.length) + 1 by omega]
 unfold lrun
 rw [if_neg (qpw c), if_neg (by simp [k]), if_neg (by omega), if_pos (List.eq_nil_of_length_eq_zero (by omega))]
theorem q3s (e : L = lrun op (12 - out.length) q out) (hl : out.length ≤ 10) (c : (¬ q.err = 0 ∨ (q.s.size : Int) ≤ (q.pos : Int)) ∨ isAt q.s q.pos 41 = true) (k : q.err = 0) (k2 : ¬ (q.pos : Int) = (q.s.size : Int)) (k3 : ¬ (out.length : Int) = 0) :
 L = ((q.to (q.pos + 1)).stop false, out) := by
 rw [e, show 12 - out.length = (11 - out.length) + 1 by omega]
 unfold lrun
 rw [if_neg (qpw c), if_neg (by simp [k]), if_neg (by omega), if_neg (by intro h; subst h; simp at k3)]
end
theorem qua (r : Rd) : (⟨r.s, r.pos, r.word.place, r.word.err⟩ : Rd) = r := rfl
def Rd.partV (r : Rd) : CPart := if isAt r.s r.pos 40 = true then ⟨⟨#[]⟩, r.list.2⟩ else if isAt r.s r.pos 41 = true then q09 else if isAt r.s r.pos 39 = true then ⟨⟨#[]⟩, [r.valV]⟩
 else if isAt r.s r.word.pos 40 = false then ⟨⟨#[]⟩, [r.valV]⟩ else if qbq r.wtxt = false then q09 else ⟨r.wtxt, r.word.list.2⟩
def Rd.partR (r : Rd) : Rd := if isAt r.s r.pos 40 = true then r.list.1 else if isAt r.s r.pos 41 = true then r.fail r.pos 8 else if isAt r.s r.pos 39 = true then r.valR.stop false
 else if isAt r.s r.word.pos 40 = false then r.valR.stop false else if qbq r.wtxt = false then r.word.fail r.pos 7 else r.word.list.1
theorem qks {s : ByteArray} {i : Nat} {c : Int} (h : isAt s i c = true) : i < s.size := by
 unfold isAt at h; rw [Bool.and_eq_true, decide_eq_true_eq] at h; exact h.1
end Go.Ev
namespace Go.Ev
def Rd.wraw (r : Rd) : ByteArray := r.s.extract r.pos r.wend
theorem qex {r : Rd} : r.wtxt = upS r.wraw := rfl
def qfc (s : ByteArray) : Prop := s.size ≤ 400 ∧ ∀ k, k < s.size → 32 ≤ chr s k ∧ chr s k ≤ 126
def inWq (c : Int) : Bool := decide (32 < c) && decide (c < 127) && !decide (c = 40) && !decide (c = 41) && !decide (c = 39)
theorem qq9 {c : Int} (h1 : 32 ≤ c) (h2 : c ≤ 126) : inWq c = inW c := by
 rw [Bool.eq_iff_iff]; simp [inWq, inW, endC]; omega
def qb2 (op : Nat) : Nat → Rd → List CVal → Rd × List CVal
 | 0, r, out => (r, out)
 | n + 1, r, out => if r.err = 0 then
     (if r.blanks.pos < r.s.size then
       (if chr r.s r.blanks.pos = 41 then ((if out.length = 0 then r.blanks.fail op 1 else r.blanks).to (r.blanks.pos + 1), out)
        else if out.length = 10 then (r.blanks.fail r.blanks.pos 2, out)
        else if chr r.s r.blanks.pos = 40 then (r.blanks.fail r.blanks.pos 8, out)
        else qb2 op n (r.blanks.valR.stop true) (out ++ [r.blanks.valV]))
      else (r.blanks.fail r.s.size 8, out))
   else (r, out)
def Rd.rlist (r : Rd) : Rd × List CVal := qb2 r.pos 12 (r.to (r.pos + 1)) []
def Rd.rpart (r : Rd) : Rd × CPart :=
 if chr r.s r.pos = 41 then (r.fail r.pos 8, q09)
 else if chr r.s r.pos = 40 then (r.rlist.1.stop false, ⟨⟨#[]⟩, r.rlist.2⟩)
 else if chr r.s r.pos = 39 then (r.quoted.stop false, ⟨⟨#[]⟩, [r.qval]⟩)
 else if isAt r.s r.word.pos 40 = true then (if qbq r.wtxt = true then (r.word.rlist.1.stop false, ⟨r.wtxt, r.word.rlist.2⟩) else (r.word.fail r.pos 7, ⟨r.wtxt, []⟩))
 else ((if 64 < r.wraw.size then r.word.fail r.pos 2 else r.word).stop false, ⟨⟨#[]⟩, [⟨0, r.wtxt⟩]⟩)
def prun : Nat → Rd → List CPart → Rd × List CPart
 | 0, r, out => (r, out)
 | n + 1, r, out => if r.err = 0 ∧ r.pos < r.s.size then (if out.length = 12 then (r.fail r.pos 2, out) else prun n r.partR.blanks (out ++ [r.partV])) else (r, out)
def qca : Nat → Rd → List CPart → Rd × List CPart
 | 0, r, out => (r, out)
 | n + 1, r, out => if r.err = 0 then (if r.blanks.pos < r.s.size then (if out.length = 12 then (r.blanks.fail r.blanks.pos 2, out) else qca n r.blanks.rpart.1 (out ++ [r.blanks.rpart.2])) else (r.blanks, out)) else (r, out)
def rd0 (s : ByteArray) : Rd := ⟨s, 0, 0, 0⟩
def qey (s : ByteArray) : List Int := s.data.toList.map fun b => (b.toNat : Int)
theorem qxx (s : ByteArray) : qcr s = (qey s).map (D.i .u8) := by unfold qcr qey; rw [List.map_map]; rfl
theorem qfu (s : ByteArray) : (qey s).length = s.size := by unfold qey; rw [List.length_map, Array.length_toList]; rfl
theorem qgz (s : ByteArray) (k : Nat) : (qey s).getD k 0 = chr s k := by
 unfold qey chr
 simp only [List.getD, List.getElem?_map]
 cases s.data.toList[k]? <;> rfl
theorem qo2 (s : ByteArray) : decL 1 (decI .u8) (.sl 1 (qcr s)) = some (qey s) := by rw [qxx]; exact qi0 (qxt .u8) _
def qcw (s : ByteArray) : Int := idxP badC (qey s)
theorem qxy {s : ByteArray} {i : Nat} (hi : i < s.size) (h : badC (chr s i) = true) (hb : ∀ j, j < i → badC (chr s j) = false) : qcw s = (i : Int) :=
 qs0 (by rw [qfu]; exact hi) (by rw [qgz]; exact h) fun j hj => by rw [qgz]; exact hb j hj
theorem qxz {s : ByteArray} (hb : ∀ j, j < s.size → badC (chr s j) = false) : qcw s = -1 :=
 qs1 fun j hj => by rw [qfu] at hj; rw [qgz]; exact hb j hj
theorem qh3 {s : ByteArray} (h : ¬ 0 ≤ qcw s) : ∀ k, k < s.size → 32 ≤ chr s k ∧ chr s k ≤ 126 := by
 intro k hk
 have hn : (qey s).findIdx? badC = none := by
  unfold qcw idxP at h
  split at h
  ·omega
  ·assumption
 rw [List.findIdx?_eq_none_iff] at hn
 have := hn ((qey s).getD k 0) (qq6 0 (by rw [qfu]; exact hk))
 rw [qgz] at this
 unfold badC at this
 rw [Bool.or_eq_false_iff, decide_eq_false_iff_not, decide_eq_false_iff_not] at this
 omega
theorem qj1 {s : ByteArray} (h : qfc s) : asc s := by
 refine ⟨h.1, fun b hb => ?_⟩
 obtain ⟨i, hi, rfl⟩ := List.getElem_of_mem hb
 have := (h.2 i (by simpa using hi)).2
 unfold chr at this
 rw [show s.data.toList.getD i 0 = s.data.toList[i] from by simp [List.getD, List.getElem?_eq_getElem hi]] at this
 omega
def qcb (s : ByteArray) : CStr × Int × Int :=
 if 400 < s.size then (qb8, 0, 2) else if 0 ≤ qcw s then (qb8, qcw s, 5)
 else if ¬ (prun 13 (rd0 s).nmR.blanks []).1.err = 0 then (qb8, (prun 13 (rd0 s).nmR.blanks []).1.place, (prun 13 (rd0 s).nmR.blanks []).1.err) else (⟨(rd0 s).nmT, (prun 13 (rd0 s).nmR.blanks []).2⟩, 0, 0)
def qbs (s : ByteArray) : CStr × Int × Int :=
 if 400 < s.size then (qb8, 0, 2) else if 0 ≤ qcw s then (qb8, qcw s, 5)
 else if ¬ (rd0 s).blanks.pos < s.size then (qb8, s.size, 1)
 else if (rd0 s).blanks.word.pos < s.size ∧ ¬ chr s (rd0 s).blanks.word.pos = 32 then (qb8, (rd0 s).blanks.word.pos, 8)
 else if qbq (rd0 s).blanks.wtxt = false then (qb8, (rd0 s).blanks.pos, 7)
 else if ¬ (qca 13 (rd0 s).blanks.word []).1.err = 0 then (qb8, (qca 13 (rd0 s).blanks.word []).1.place, (qca 13 (rd0 s).blanks.word []).1.err) else (⟨(rd0 s).blanks.wtxt, (qca 13 (rd0 s).blanks.word []).2⟩, 0, 0)
structure Rd.sim (a b : Rd) : Prop where
 s : a.s = b.s
 err : a.err = b.err
 place : a.place = b.place
 pos : a.err = 0 → a.pos = b.pos
theorem Rd.sim.rfl' (a : Rd) : a.sim a := ⟨rfl, rfl, rfl, fun _ => rfl⟩
theorem Rd.sim.eq {a b : Rd} (h : a.sim b) (e : a.err = 0) : a = b := by
 obtain ⟨h1, h2, h3, h4⟩ := h
 cases a; cases b; simp only at *; simp_all
theorem qs6 {r : Rd} {p e : Int} (h : ¬ r.err = 0) : r.fail p e = r := by unfold Rd.fail fP fE; rw [if_neg h, if_neg h]
theorem qe8 {r : Rd} {p e : Int} (h : r.err = 0) : r.fail p e = ⟨r.s, r.pos, p, e⟩ := by unfold Rd.fail fP fE; rw [if_pos h, if_pos h]
theorem qf5 {r : Rd} {op : Bool} (h : ¬ r.err = 0) : r.stop op = r := by unfold Rd.stop; split; exact qs6 h; rfl
theorem qra (op : Nat) : ∀ (n : Nat) (r : Rd) (out : List CVal), out.length ≤ 10 → n + out.length = 12 → r.pos ≤ r.s.size →
 (lrun op n r.blanks out).1.sim ((qb2 op n r out).1.stop false) ∧ ((lrun op n r.blanks out).1.err = 0 → (lrun op n r.blanks out).2 = (qb2 op n r out).2)
 | 0, r, out, h1, h2, h3 => by omega
 | n + 1, r, out, h1, h2, h3 => by
   have hb := qbk h3
   unfold lrun qb2
   by_cases e : r.err = 0
   ·have eb : r.blanks.err = 0 := e
    rw [if_pos e]
    by_cases p : r.blanks.pos < r.s.size
    ·rw [if_pos p]
     by_cases c : chr r.s r.blanks.pos = 41
     ·have ha : isAt r.blanks.s r.blanks.pos 41 = true := by simp [isAt, q0n, p, c]
      rw [if_pos c, if_neg (by rw [ha]; simp), if_neg (by simp [eb]), if_neg (by rw [q0n]; omega)]
      by_cases o : out = []
      ·rw [if_pos o, if_pos (by rw [o]; rfl)]; exact ⟨.rfl' _, fun _ => rfl⟩
      ·rw [if_neg o, if_neg (by intro h; exact o (List.eq_nil_of_length_eq_zero h))]; exact ⟨.rfl' _, fun _ => rfl⟩
     ·have ha : isAt r.blanks.s r.blanks.pos 41 = false := by simp [isAt, q0n, c]
      rw [if_neg c, if_pos ⟨eb, by rw [q0n]; exact p, ha⟩]
      by_cases f : out.length = 10
      ·rw [if_pos f, if_pos f, qe8 eb]
       refine ⟨?_, fun h => by cases h⟩
       rw [qf5 (by show ¬ (2 : Int) = 0; decide)]; exact .rfl' _
      ·rw [if_neg f, if_neg f]
       by_cases c2 : chr r.s r.blanks.pos = 40
       ·rw [if_pos c2, if_pos (by simp [isAt, q0n, p, c2]), qe8 eb]
        refine ⟨?_, fun h => by cases h⟩
        rw [qf5 (by show ¬ (8 : Int) = 0; decide)]; exact .rfl' _
       ·rw [if_neg c2, if_neg (by simp [isAt, q0n, c2])]
        refine qra op n _ _ ?_ ?_ ?_
        ·rw [List.length_append, List.length_singleton]; omega
        ·rw [List.length_append, List.length_singleton]; omega
        ·rw [qbp, q04, qbh, q0n]
         have := qff (r := r.blanks) hb.2
         rw [q0n] at this
         exact this.2
    ·rw [if_neg p, if_neg (by rw [q0n]; omega), if_neg (by simp [eb]), if_pos (by rw [q0n]; omega), qe8 eb, qe8 eb]
     refine ⟨?_, fun h => ?_⟩
     ·rw [qf5 (by show ¬ (8 : Int) = 0; decide), qf5 (by show ¬ (8 : Int) = 0; decide)]
      exact ⟨rfl, rfl, by show (r.blanks.pos : Int) = r.s.size; omega, fun h => by cases h⟩
     ·rfl
   ·have eb : ¬ r.blanks.err = 0 := e
    rw [if_neg e, if_neg (by simp [eb]), if_pos eb, qf5 e]
    exact ⟨⟨rfl, rfl, rfl, fun h => absurd h e⟩, fun h => absurd h e⟩
theorem qrb {r : Rd} (h : r.pos < r.s.size) : r.list.1.sim (r.rlist.1.stop false) ∧ (r.list.1.err = 0 → r.list.2 = r.rlist.2) :=
 qra r.pos 12 (r.to (r.pos + 1)) [] (by simp) (by simp) (by show r.pos + 1 ≤ r.s.size; omega)
theorem qdv {r : Rd} {c : Int} (h : r.pos < r.s.size) : isAt r.s r.pos c = decide (chr r.s r.pos = c) := by unfold isAt; rw [decide_eq_true h, Bool.true_and]
theorem qj2 {r : Rd} : r.wtxt.size = r.wraw.size := by
 unfold Rd.wtxt upS Go.Lib.toUpperA Rd.wraw
 show (List.toArray (List.map _ _)).size = _
 rw [List.size_toArray, List.length_map]; rfl
theorem qx0 {r : Rd} (h : r.pos < r.s.size) (he : r.err = 0) : r.partR.sim r.rpart.1 ∧ (r.partR.err = 0 → r.partV = r.rpart.2) := by
 have L1 := qrb h
 have w := qcz (r := r) (by omega)
 unfold Rd.partR Rd.partV Rd.rpart
 rw [qdv h, qdv h, qdv h]
 by_cases c1 : chr r.s r.pos = 40
 ·have c2 : ¬ chr r.s r.pos = 41 := by omega
  simp only [c1, c2, decide_true, if_true, if_false, show ¬ (40 : Int) = 41 by decide]
  exact ⟨L1.1, fun h => by rw [L1.2 h]⟩
 ·by_cases c2 : chr r.s r.pos = 41
  ·simp only [c1, c2, decide_true, decide_false, if_true, if_false, show ¬ (41 : Int) = 40 by decide, Bool.false_eq_true]
   exact ⟨.rfl' _, fun h => trivial⟩
  ·by_cases c3 : chr r.s r.pos = 39
   ·simp only [c1, c2, c3, decide_true, decide_false, if_true, if_false, show ¬ (39 : Int) = 40 by decide, show ¬ (39 : Int) = 41 by decide, Bool.false_eq_true]
    have hi : isAt r.s r.pos 39 = true := by rw [qdv h]; simp [c3]
    rw [qq8 hi]
    refine ⟨.rfl' _, fun _ => ?_⟩
    unfold Rd.valV Rd.is
    rw [if_pos hi]
   ·simp only [c1, c2, c3, decide_false, if_false, Bool.false_eq_true]
    have hi : isAt r.s r.pos 39 = false := by rw [qdv h]; simp [c3]
    have hv : r.valV = ⟨0, r.wtxt⟩ := by unfold Rd.valV Rd.is; rw [if_neg (by rw [hi]; decide)]
    by_cases c4 : isAt r.s r.word.pos 40 = true
    ·have c5 : r.word.pos < r.word.s.size := qks c4
     have L2 := qrb c5
     rw [if_neg (by rw [c4]; decide), if_pos c4]
     by_cases nm : qbq r.wtxt = true
     ·rw [if_neg (by rw [nm]; decide), if_pos nm, if_neg (by rw [c4]; decide), if_neg (by rw [nm]; decide)]
      exact ⟨L2.1, fun h => by rw [L2.2 h]⟩
     ·rw [Bool.not_eq_true] at nm
      rw [if_pos nm, if_neg (by rw [nm]; decide), if_neg (by rw [c4]; decide), if_pos nm]
      refine ⟨.rfl' _, fun h => ?_⟩
      rw [qe8 (r := r.word) he] at h; cases h
    ·rw [if_neg c4]
     rw [Bool.not_eq_true] at c4
     rw [if_pos c4, if_pos c4, hv]
     refine ⟨?_, fun _ => rfl⟩
     unfold Rd.valR Rd.is
     rw [if_neg (by rw [hi]; decide), qj2]
     exact .rfl' _
theorem qm0 (op : Nat) : ∀ (n : Nat) (r : Rd) (out : List CVal), (lrun op n r out).1.s = r.s
 | 0, r, out => rfl
 | n + 1, r, out => by
   unfold lrun
   split
   ·split
    ·rfl
    ·split
     ·rfl
     ·rw [qm0 op n, q0n, q04, qbh]
   ·split
    ·rfl
    ·split
     ·rw [q04]; rfl
     ·split
      ·rw [q04]; rfl
      ·rw [q04]; rfl
theorem qrc (op : Nat) : ∀ (n : Nat) (r : Rd) (out : List CVal), r.pos ≤ r.s.size → (lrun op n r out).1.pos ≤ r.s.size + 1 ∧ ((lrun op n r out).1.err = 0 → (lrun op n r out).1.pos ≤ r.s.size)
 | 0, r, out, h => ⟨by unfold lrun; simp only; omega, fun _ => h⟩
 | n + 1, r, out, h => by
   unfold lrun
   split
   ·rename_i c
    split
    ·exact ⟨by simp only [qev]; omega, fun _ => h⟩
    ·split
     ·exact ⟨by simp only [qev]; omega, fun _ => h⟩
     ·have hv := qff h
      have hb := qbk (r := r.valR.stop true) (by rw [qbp, q04, qbh]; exact hv.2)
      have := qrc op n (r.valR.stop true).blanks (out ++ [r.valV]) (by rw [q0n]; exact hb.2)
      rw [q0n, q04, qbh] at this
      exact this
   ·rename_i c
    split
    ·exact ⟨by simp only; omega, fun _ => h⟩
    ·rename_i e
     have e : r.err = 0 := by simpa using e
     split
     ·refine ⟨by simp only [qbp, qmz]; omega, fun k => ?_⟩
      rw [qe8 e] at k
      rw [qf5 (by show ¬ (8 : Int) = 0; decide)] at k
      cases k
     ·split
      ·refine ⟨by simp only [qbp, qmz]; omega, fun k => ?_⟩
       rw [qe8 e] at k
       rw [qf5 (by show ¬ (1 : Int) = 0; decide)] at k
       cases k
      ·exact ⟨by simp only [qbp, qmz]; omega, fun _ => by simp only [qbp, qmz]; omega⟩
theorem qrd {r : Rd} (h : r.pos < r.s.size) : r.list.1.s = r.s ∧ r.list.1.pos ≤ r.s.size + 1 ∧ (r.list.1.err = 0 → r.list.1.pos ≤ r.s.size) := by
 have hb := qbk (r := r.to (r.pos + 1)) (by show r.pos + 1 ≤ r.s.size; omega)
 exact ⟨qm0 _ _ _ _, qrc r.pos 12 (r.to (r.pos + 1)).blanks [] hb.2⟩
theorem qj3 {r : Rd} (h : r.pos < r.s.size) : r.partR.s = r.s ∧ r.partR.pos ≤ r.s.size + 1 ∧ (r.partR.err = 0 → r.partR.pos ≤ r.s.size) := by
 have w := qcz (r := r) (by omega)
 have v := qff (r := r) (by omega)
 unfold Rd.partR
 split
 ·exact qrd h
 ·split
  ·exact ⟨rfl, by simp only [qev]; omega, fun _ => by simp only [qev]; omega⟩
  ·split
   ·rw [q04, qbp, qbh]; exact ⟨rfl, by omega, fun _ => v.2⟩
   ·split
    ·rw [q04, qbp, qbh]; exact ⟨rfl, by omega, fun _ => v.2⟩
    ·rename_i k
     split
     ·exact ⟨rfl, by simp only [qev]; omega, fun _ => by simp only [qev]; omega⟩
     ·have := qrd (r := r.word) (qks (c := 40) (show isAt r.s r.word.pos 40 = true by simpa using k))
      exact this
theorem qie {n : Nat} {r : Rd} {out : List CPart} (h : ¬ r.err = 0) : prun n r out = (r, out) := by
 cases n with
 | zero => rfl
 | succ n => unfold prun; rw [if_neg (fun k => h k.1)]
theorem qlt {n : Nat} {r : Rd} {out : List CPart} (h : ¬ r.err = 0) : qca n r out = (r, out) := by
 cases n with
 | zero => rfl
 | succ n => unfold qca; rw [if_neg h]
theorem qre : ∀ (n : Nat) (r : Rd) (out : List CPart), r.pos ≤ r.s.size →
 (prun n r.blanks out).1.err = (qca n r out).1.err ∧ (prun n r.blanks out).1.place = (qca n r out).1.place ∧ ((prun n r.blanks out).1.err = 0 → (prun n r.blanks out).2 = (qca n r out).2)
 | 0, r, out, h => ⟨rfl, rfl, fun _ => rfl⟩
 | n + 1, r, out, h => by
   have hb := qbk h
   by_cases e : r.err = 0
   ·unfold prun qca
    rw [if_pos e]
    by_cases p : r.blanks.pos < r.s.size
    ·rw [if_pos p, if_pos ⟨e, by rw [q0n]; exact p⟩]
     by_cases f : out.length = 12
     ·rw [if_pos f, if_pos f]; exact ⟨rfl, rfl, fun _ => rfl⟩
     ·rw [if_neg f, if_neg f]
      obtain ⟨s1, s2⟩ := qx0 (r := r.blanks) p e
      have pp := qj3 (r := r.blanks) p
      by_cases z : r.blanks.partR.err = 0
      ·rw [← s1.eq z, ← s2 z]
       exact qre n _ _ (by rw [pp.1]; exact pp.2.2 z)
      ·rw [qie (r := r.blanks.partR.blanks) z, qlt (r := r.blanks.rpart.1) (by rw [← s1.err]; exact z)]
       exact ⟨s1.err, s1.place, fun k => absurd k z⟩
    ·rw [if_neg p, if_neg (by rw [q0n]; omega)]
     exact ⟨rfl, rfl, fun _ => rfl⟩
   ·rw [qie (r := r.blanks) e, qlt e]
    exact ⟨rfl, rfl, fun k => absurd k e⟩
theorem qx1 (s : ByteArray) : qcb s = qbs s := by
 unfold qcb qbs
 split
 ·rfl
 ·split
  ·rfl
  ·have hb := qbk (r := rd0 s) (Nat.zero_le _)
   have hw := qcz (r := (rd0 s).blanks) hb.2
   have e0 : (rd0 s).blanks.err = 0 := rfl
   rw [show (rd0 s).s = s from rfl] at hb
   rw [show (rd0 s).blanks.s = s from rfl] at hw
   by_cases p : (rd0 s).blanks.pos < s.size
   ·conv => rhs; rw [if_neg (fun h => h p)]
    have c : ¬ (rd0 s).blanks.pos = (rd0 s).s.size := by show ¬ (rd0 s).blanks.pos = s.size; omega
    rw [qyu c]
    by_cases st : (rd0 s).blanks.word.pos < s.size ∧ ¬ chr s (rd0 s).blanks.word.pos = 32
    ·conv => rhs; rw [if_pos st]
     have k : (rd0 s).blanks.word.stop false = (rd0 s).blanks.word.fail (rd0 s).blanks.word.pos 8 := qgm (by show ((rd0 s).blanks.word.pos : Int) < (s.size : Int); omega) (by
      show isAt s (rd0 s).blanks.word.pos 32 = false
      simp [isAt, st.2])
     have k2 : (rd0 s).nmR = ⟨s, (rd0 s).blanks.word.pos, (rd0 s).blanks.word.pos, 8⟩ := by
      unfold Rd.nmR
      rw [if_neg c, k, qe8 rfl]
      split
      ·rfl
      ·rw [qs6 (by show ¬ (8 : Int) = 0; decide)]; rfl
     rw [k2, qie (by show ¬ (8 : Int) = 0; decide), if_pos (by show ¬ (8 : Int) = 0; decide)]
     rfl
    ·conv => rhs; rw [if_neg st]
     have k : (rd0 s).blanks.word.stop false = (rd0 s).blanks.word := qf4 (by
      by_cases q : (rd0 s).blanks.word.pos < s.size
      ·right
       show isAt s (rd0 s).blanks.word.pos 32 = true
       have : chr s (rd0 s).blanks.word.pos = 32 := by
        by_cases z : chr s (rd0 s).blanks.word.pos = 32
        ·exact z
        ·exact absurd ⟨q, z⟩ st
       simp [isAt, q, this]
      ·left; show (s.size : Int) ≤ ((rd0 s).blanks.word.pos : Int); omega)
     by_cases nm : qbq (rd0 s).blanks.wtxt = false
     ·conv => rhs; rw [if_pos nm]
      have k2 : (rd0 s).nmR = ⟨s, (rd0 s).blanks.word.pos, (rd0 s).blanks.pos, 7⟩ := by rw [qyx c nm, k, qe8 rfl]; rfl
      rw [k2, qie (by show ¬ (7 : Int) = 0; decide), if_pos (by show ¬ (7 : Int) = 0; decide)]
      rfl
     ·conv => rhs; rw [if_neg nm]
      rw [qyw c (by simpa using nm), k]
      obtain ⟨h1, h2, h3⟩ := qre 13 (rd0 s).blanks.word [] hw.2
      rw [h1, h2]
      split
      ·rfl
      ·rename_i z
       rw [h3 (by rw [h1]; simpa using z)]
   ·conv => rhs; rw [if_pos p]
    have c : (rd0 s).blanks.pos = (rd0 s).s.size := by show (rd0 s).blanks.pos = s.size; omega
    have k2 : (rd0 s).nmR = ⟨s, (rd0 s).blanks.pos, (rd0 s).blanks.pos, 1⟩ := by rw [qyv c, qe8 rfl]; rfl
    rw [k2, qie (by show ¬ (1 : Int) = 0; decide), if_pos (by show ¬ (1 : Int) = 0; decide)]
    show (qb8, ((rd0 s).blanks.pos : Int), (1 : Int)) = _
    rw [c]; rfl
theorem qi9 {s : ByteArray} : (rd0 s).s = s := rfl
theorem eta0 (s : ByteArray) : (⟨s, 0, 0, 0⟩ : Rd) = rd0 s := rfl
theorem qkt {r : Rd} : r.nmR.s = r.s := by
 unfold Rd.nmR
 split
 ·rfl
 ·split
  ·rw [q04]; rfl
  ·show (Rd.stop _ _).s = _; rw [q04]; rfl
theorem qs7 {r : Rd} (h : r.pos ≤ r.s.size) : r.nmR.pos ≤ r.s.size := by
 have hb := qbk h
 have hw := qcz (r := r.blanks) hb.2
 rw [q0n] at hw
 unfold Rd.nmR
 split
 ·exact hb.2
 ·split
  ·rw [qbp]; exact hw.2
  ·show (Rd.stop _ _).pos ≤ _; rw [qbp]; exact hw.2
theorem qf6 {r : Rd} : r.partR.s = r.s := by
 unfold Rd.partR
 split
 ·exact qm0 _ _ _ _
 ·split
  ·rfl
  ·split
   ·rw [q04, qbh]
   ·split
    ·rw [q04, qbh]
    ·split
     ·rfl
     ·exact qm0 _ _ _ _
theorem etaN (s : ByteArray) : (⟨s, (rd0 s).nmR.pos, (rd0 s).nmR.place, (rd0 s).nmR.err⟩ : Rd) = (rd0 s).nmR := by
 have : s = (rd0 s).nmR.s := by rw [qkt]; rfl
 conv => lhs; rw [show (⟨s, (rd0 s).nmR.pos, (rd0 s).nmR.place, (rd0 s).nmR.err⟩ : Rd) = ⟨(rd0 s).nmR.s, (rd0 s).nmR.pos, (rd0 s).nmR.place, (rd0 s).nmR.err⟩ from by rw [← this]]
theorem etaP (r : Rd) : (⟨r.s, r.partR.pos, r.partR.place, r.partR.err⟩ : Rd) = r.partR := by
 conv => lhs; rw [← qf6 (r := r)]
theorem qrf (s : ByteArray) : idxP badC (qey s) = qcw s := rfl
section
variable {q : Rd} {out : List CPart} {L : Rd × List CPart} {n : Nat}
theorem q2m (e : L = prun n q out) (c : ¬ q.err = 0 ∨ (q.s.size : Int) ≤ (q.pos : Int)) : L = (q, out) := by
 rw [e]
 cases n with
 | zero => rfl
 | succ n => unfold prun; rw [if_neg (by intro k; rcases c with c | c; exact c k.1; omega)]
theorem q00j (e : L = prun (13 - out.length) q out) (c : q.err = 0 ∧ (q.pos : Int) < (q.s.size : Int)) (k : (out.length : Int) = 12) : L = (q.fail q.pos 2, out) := by
 rw [e, show 13 - out.length = 0 + 1 by omega]
 unfold prun
 rw [if_pos ⟨c.1, by omega⟩, if_pos (by omega)]
theorem q00k (e : L = prun (13 - out.length) q out) (hl : out.length ≤ 12) (c : q.err = 0 ∧ (q.pos : Int) < (q.s.size : Int)) (k : ¬ (out.length : Int) = 12) : L = prun (13 - (out ++ [q.partV]).length) q.partR.blanks (out ++ [q.partV]) := by
 rw [e, show 13 - out.length = (12 - out.length) + 1 by omega, show 13 - (out ++ [q.partV]).length = 12 - out.length by rw [List.length_append, List.length_singleton]; omega]
 conv => lhs; unfold prun
 rw [if_pos ⟨c.1, by omega⟩, if_neg (by omega)]
theorem q2n (e : L = qca n q out) (c : ¬ q.err = 0) : L = (q, out) := e.trans (qlt c)
theorem q2o (e : L = qca (13 - out.length) q out) (hl : out.length ≤ 12) (c : q.err = 0) (k : ¬ q.blanks.pos < q.s.size) : L = (q.blanks, out) := by
 rw [e, show 13 - out.length = (12 - out.length) + 1 by omega]
 unfold qca
 rw [if_pos c, if_neg k]
theorem q00l (e : L = qca (13 - out.length) q out) (c : q.err = 0) (k : q.blanks.pos < q.s.size) (k2 : (out.length : Int) = 12) : L = (q.blanks.fail q.blanks.pos 2, out) := by
 rw [e, show 13 - out.length = 0 + 1 by omega]
 unfold qca
 rw [if_pos c, if_pos k, if_pos (by omega)]
theorem q00m (e : L = qca (13 - out.length) q out) (hl : out.length ≤ 12) (c : q.err = 0) (k : q.blanks.pos < q.s.size) (k2 : ¬ (out.length : Int) = 12) : L = qca (13 - (out ++ [q.blanks.rpart.2]).length) q.blanks.rpart.1 (out ++ [q.blanks.rpart.2]) := by
 rw [e, show 13 - out.length = (12 - out.length) + 1 by omega, show 13 - (out ++ [q.blanks.rpart.2]).length = 12 - out.length by rw [List.length_append, List.length_singleton]; omega]
 conv => lhs; unfold qca
 rw [if_pos c, if_pos k, if_neg (by omega)]
end
section
variable {op : Nat} {q : Rd} {out : List CVal} {L : Rd × List CVal}
theorem q2p {n : Nat} (e : L = qb2 op n q out) (c : ¬ q.err = 0) : L = (q, out) := by
 rw [e]
 cases n with
 | zero => rfl
 | succ n => unfold qb2; rw [if_neg c]
theorem q2q (e : L = qb2 op (12 - out.length) q out) (hl : out.length ≤ 10) (c : q.err = 0) (k : ¬ q.blanks.pos < q.s.size) : L = (q.blanks.fail q.s.size 8, out) := by
 rw [e, show 12 - out.length = (11 - out.length) + 1 by omega]
 unfold qb2
 rw [if_pos c, if_neg k]
theorem q3t (e : L = qb2 op (12 - out.length) q out) (hl : out.length ≤ 10) (c : q.err = 0) (k : q.blanks.pos < q.s.size) (k2 : chr q.s q.blanks.pos = 41) (k3 : ¬ (out.length : Int) = 0) : L = (q.blanks.to (q.blanks.pos + 1), out) := by
 rw [e, show 12 - out.length = (11 - out.length) + 1 by omega]
 unfold qb2
 rw [if_pos c, if_pos k, if_pos k2, if_neg (by omega)]
theorem q2r (e : L = qb2 op (12 - out.length) q out) (hl : out.length ≤ 10) (c : q.err = 0) (k : q.blanks.pos < q.s.size) (k2 : chr q.s q.blanks.pos = 41) (k3 : (out.length : Int) = 0) : L = ((q.blanks.fail op 1).to (q.blanks.pos + 1), out) := by
 rw [e, show 12 - out.length = (11 - out.length) + 1 by omega]
 unfold qb2
 rw [if_pos c, if_pos k, if_pos k2, if_pos (by omega)]
theorem q00n (e : L = qb2 op (12 - out.length) q out) (hl : out.length ≤ 10) (c : q.err = 0) (k : q.blanks.pos < q.s.size) (k2 : ¬ chr q.s q.blanks.pos = 41) (k3 : (out.length : Int) = 10) : L = (q.blanks.fail q.blanks.pos 2, out) := by
 rw [e, show 12 - out.length = (11 - out.length) + 1 by omega]
 unfold qb2
 rw [if_pos c, if_pos k, if_neg k2, if_pos (by omega)]
theorem q00o (e : L = qb2 op (12 - out.length) q out) (hl : out.length ≤ 10) (c : q.err = 0) (k : q.blanks.pos < q.s.size) (k2 : ¬ chr q.s q.blanks.pos = 41) (k3 : ¬ (out.length : Int) = 10) (k4 : chr q.s q.blanks.pos = 40) : L = (q.blanks.fail q.blanks.pos 8, out) := by
 rw [e, show 12 - out.length = (11 - out.length) + 1 by omega]
 unfold qb2
 rw [if_pos c, if_pos k, if_neg k2, if_neg (by omega), if_pos k4]
theorem q00p (e : L = qb2 op (12 - out.length) q out) (hl : out.length ≤ 10) (c : q.err = 0) (k : q.blanks.pos < q.s.size) (k2 : ¬ chr q.s q.blanks.pos = 41) (k3 : ¬ (out.length : Int) = 10) (k4 : ¬ chr q.s q.blanks.pos = 40) :
 L = qb2 op (12 - (out ++ [q.blanks.valV]).length) (q.blanks.valR.stop true) (out ++ [q.blanks.valV]) := by
 rw [e, show 12 - out.length = (11 - out.length) + 1 by omega, show 12 - (out ++ [q.blanks.valV]).length = 11 - out.length by rw [List.length_append, List.length_singleton]; omega]
 conv => lhs; unfold qb2
 rw [if_pos c, if_pos k, if_neg k2, if_neg (by omega), if_neg k4]
end
theorem q3u {r : Rd} (h : r.pos < r.s.size) (c : chr r.s r.pos = 39) : r.valR = r.quoted ∧ r.valV = r.qval := by
 have hi : isAt r.s r.pos 39 = true := by rw [qdv h]; simp [c]
 exact ⟨qq8 hi, by unfold Rd.valV Rd.is; rw [if_pos hi]⟩
theorem q3v {r : Rd} (h : r.pos < r.s.size) (c : ¬ chr r.s r.pos = 39) (k : 64 < (r.wraw.size : Int)) : r.valR = r.word.fail r.pos 2 ∧ r.valV = ⟨0, r.wtxt⟩ := by
 have hi : isAt r.s r.pos 39 = false := by rw [qdv h]; simp [c]
 exact ⟨qv8 hi (by rw [qj2]; omega), by unfold Rd.valV Rd.is; rw [if_neg (by rw [hi]; decide)]⟩
theorem q3w {r : Rd} (h : r.pos < r.s.size) (c : ¬ chr r.s r.pos = 39) (k : ¬ 64 < (r.wraw.size : Int)) : r.valR = r.word ∧ r.valV = ⟨0, r.wtxt⟩ := by
 have hi : isAt r.s r.pos 39 = false := by rw [qdv h]; simp [c]
 exact ⟨qv9 hi (by rw [qj2]; omega), by unfold Rd.valV Rd.is; rw [if_neg (by rw [hi]; decide)]⟩
theorem qpx {r : Rd} {op : Bool} : r.stop op = if r.pos < r.s.size ∧ ¬ chr r.s r.pos = 32 ∧ ¬ (op = true ∧ chr r.s r.pos = 41) then r.fail r.pos 8 else r := by
 unfold Rd.stop Rd.is
 by_cases h : r.pos < r.s.size
 ·rw [qdv h, qdv h]
  cases op <;> simp [h]
 ·rw [if_neg (by simp [h]), if_neg (fun k => h k.1)]
theorem qrg {s : ByteArray} (h : 400 < (s.size : Int)) : qcb s = (qb8, 0, 2) := by unfold qcb; rw [if_pos (by omega)]
theorem qub {s : ByteArray} (h : (s.size : Int) ≤ 400) (k : 0 ≤ qcw s) : qcb s = (qb8, qcw s, 5) := by unfold qcb; rw [if_neg (by omega), if_pos k]
theorem qm1 {s : ByteArray} {L : Rd × List CPart} (h : (s.size : Int) ≤ 400) (k : qcw s < 0) (e : prun 13 (rd0 s).nmR.blanks [] = L) (z : ¬ L.1.err = 0) : qcb s = (qb8, L.1.place, L.1.err) := by
 unfold qcb; rw [if_neg (by omega), if_neg (by omega), e, if_pos z]
theorem qwb {s : ByteArray} {L : Rd × List CPart} (h : (s.size : Int) ≤ 400) (k : qcw s < 0) (e : prun 13 (rd0 s).nmR.blanks [] = L) (z : L.1.err = 0) : qcb s = (⟨(rd0 s).nmT, L.2⟩, 0, 0) := by
 unfold qcb; rw [if_neg (by omega), if_neg (by omega), e, if_neg (fun k => k z)]
theorem qs8 {s : ByteArray} : (rd0 s).nmR.blanks.pos ≤ s.size := by
 have h1 := qs7 (r := rd0 s) (Nat.zero_le _)
 rw [qi9] at h1
 have := qbk (r := (rd0 s).nmR) (by rw [qkt, qi9]; exact h1)
 rw [qkt, qi9] at this
 exact this.2
theorem fE2 {e x : Int} (h : e = 0) : fE e x = x := if_pos h
theorem qwc {r : Rd} (h : r.pos < r.s.size) (hs : r.s.size ≤ 400) : r.partR.blanks.pos ≤ 401 ∧ (r.partR.blanks.err = 0 → r.partR.blanks.pos ≤ r.s.size) := by
 have p := qj3 h
 by_cases e : r.partR.pos ≤ r.s.size
 ·have := qbk (r := r.partR) (by rw [qf6]; exact e)
  rw [qf6] at this
  exact ⟨by omega, fun _ => this.2⟩
 ·have : r.partR.blanks.pos = r.partR.pos := qlr (by rw [qf6]; omega)
  exact ⟨by omega, fun z => absurd (p.2.2 z) e⟩
def txt (l : List Int) : ByteArray := strD (l.map (D.i .u8))
theorem q2s (l : List Int) : strD (l.map (D.i .u8)) = txt l := rfl
theorem qx2 (l : List Int) : (txt l).size = l.length := by
 show (List.toArray (List.map qjj (l.map (D.i .u8)))).size = _
 rw [List.size_toArray, List.length_map, List.length_map]
theorem qhc {l : List Int} {s : ByteArray} {i : Nat} (h : i < s.size) : txt l ++ s.extract i (i + 1) = txt (l ++ [chr s i]) := by
 apply ByteArray.ext
 rw [ByteArray.data_append, ByteArray.data_extract]
 show (List.toArray (List.map qjj (l.map (D.i .u8)))) ++ s.data.extract i (i + 1) = List.toArray (List.map qjj ((l ++ [chr s i]).map (D.i .u8)))
 have hs : i < s.data.size := h
 have e : s.data.extract i (i + 1) = #[s.data[i]] := by
  apply Array.ext
  ·simp; omega
  ·intro j h1 h2
   have : j = 0 := by simp at h2; omega
   subst this
   simp
 have e2 : qjj (D.i .u8 (chr s i)) = s.data[i] := by
  show UInt8.ofNat (chr s i).toNat = _
  unfold chr
  rw [show s.data.toList.getD i 0 = s.data[i] from by
   have : s.data.toList.length = s.data.size := rfl
   simp only [List.getD]
   rw [List.getElem?_eq_getElem (by rw [this]; exact hs)]
   simp]
  simp
 rw [e, List.map_append, List.map_append, List.map_cons, List.map_cons, List.map_nil, List.map_nil, e2]
 simp
theorem toN1 (n : Nat) : ((n : Int) + 1).toNat = n + 1 := by omega
theorem toN2 (n : Nat) : ((n : Int) + 1 + 1).toNat = n + 1 + 1 := by omega
theorem ext1 {s : ByteArray} {i : Nat} (h : i < s.size) : (s.extract i (i + 1)).size = 1 := by rw [ByteArray.size_extract]; omega
theorem qj4 {r : Rd} {s : ByteArray} (hs : r.s = s) (h : ((r.pos : Int) < (s.size : Int) ∧ ¬ chr s r.pos = 32) ∧ ¬ chr s r.pos = 41) : r.stop true = r.fail r.pos 8 := by
 subst hs; rw [qpx, if_pos ⟨by omega, h.1.2, fun k => h.2 k.2⟩]
theorem qlu {r : Rd} {s : ByteArray} (hs : r.s = s) (h : ((s.size : Int) ≤ (r.pos : Int) ∨ chr s r.pos = 32) ∨ chr s r.pos = 41) : r.stop true = r := by
 subst hs; rw [qpx, if_neg]
 rintro ⟨a, b, c⟩
 rcases h with (h | h) | h
 ·omega
 ·exact b h
 ·exact c ⟨rfl, h⟩
theorem qgn {r : Rd} {s : ByteArray} (hs : r.s = s) (h : (r.pos : Int) < (s.size : Int) ∧ ¬ chr s r.pos = 32) : r.stop false = r.fail r.pos 8 := by
 subst hs; rw [qpx, if_pos ⟨by omega, h.2, fun k => by cases k.1⟩]
theorem qhd {r : Rd} {s : ByteArray} (hs : r.s = s) (h : (s.size : Int) ≤ (r.pos : Int) ∨ chr s r.pos = 32) : r.stop false = r := by
 subst hs; rw [qpx, if_neg]
 rintro ⟨a, b, c⟩
 rcases h with h | h
 ·omega
 ·exact b h
theorem qs9 (op : Nat) : ∀ (n : Nat) (r : Rd) (out : List CVal), (qb2 op n r out).1.s = r.s
 | 0, r, out => rfl
 | n + 1, r, out => by
   unfold qb2
   split
   ·split
    ·split
     ·split <;> rfl
     ·split
      ·rfl
      ·split
       ·rfl
       ·rw [qs9 op n, q04, qbh]; rfl
    ·rfl
   ·rfl
theorem qen {r : Rd} : r.rlist.1.s = r.s := qs9 _ _ _ _
theorem etaL (r : Rd) : (⟨r.s, r.rlist.1.pos, r.rlist.1.place, r.rlist.1.err⟩ : Rd) = r.rlist.1 := by conv => lhs; rw [← qen (r := r)]
theorem qif {r : Rd} : r.rpart.1.s = r.s := by
 unfold Rd.rpart
 split
 ·rfl
 ·split
  ·rw [q04, qen]
  ·split
   ·rw [q04, qba]
   ·split
    ·split
     ·rw [q04, qen]; rfl
     ·rfl
    ·rw [q04]; split <;> rfl
theorem quc (r : Rd) : (⟨r.s, r.rpart.1.pos, r.rpart.1.place, r.rpart.1.err⟩ : Rd) = r.rpart.1 := by conv => lhs; rw [← qif (r := r)]
theorem qo3 (op : Nat) : ∀ (n : Nat) (r : Rd) (out : List CVal), r.pos ≤ r.s.size → (qb2 op n r out).1.pos ≤ r.s.size
 | 0, r, out, h => h
 | n + 1, r, out, h => by
   have hb := qbk h
   unfold qb2
   split
   ·split
    ·rename_i k
     split
     ·exact k
     ·split
      ·exact hb.2
      ·split
       ·exact hb.2
       ·have hv := qff (r := r.blanks) hb.2
        have := qo3 op n (r.blanks.valR.stop true) (out ++ [r.blanks.valV]) (by rw [qbp, q04, qbh]; exact hv.2)
        rw [q04, qbh, q0n] at this
        exact this
    ·exact hb.2
   ·exact h
theorem qo4 {r : Rd} (h : r.pos < r.s.size) : r.rlist.1.pos ≤ r.s.size := qo3 _ _ (r.to (r.pos + 1)) _ h
theorem qwd {r : Rd} (h : r.pos < r.s.size) : r.rpart.1.pos ≤ r.s.size := by
 have w := qcz (r := r) (by omega)
 have q := qi7 h
 unfold Rd.rpart
 split
 ·show r.pos ≤ _; omega
 ·split
  ·rw [qbp]; exact qo4 h
  ·split
   ·rw [qbp]; exact q.2
   ·split
    ·rename_i k
     split
     ·rw [qbp]; exact qo4 (r := r.word) (qks (c := 40) k)
     ·exact w.2
    ·rw [qbp]; split <;> exact w.2
theorem q3x (s : ByteArray) : (⟨s, (rd0 s).blanks.pos, (rd0 s).blanks.place, (rd0 s).blanks.err⟩ : Rd) = (rd0 s).blanks := rfl
theorem q3y (s : ByteArray) : (⟨s, (rd0 s).blanks.word.pos, (rd0 s).blanks.word.place, (rd0 s).blanks.word.err⟩ : Rd) = (rd0 s).blanks.word := rfl
theorem beqZ (x : Int) : (x == 0) = true ∨ (x == 0) = false := by cases (x == 0) <;> simp
theorem qf7 {r : Rd} (h : qfc r.s) : r.wraw.size ≤ 400 ∧ ∀ b ∈ r.wraw.data.toList, b.toNat < 128 := by
 refine ⟨?_, (qgg (qj1 h) _ _).2⟩
 have := h.1
 unfold Rd.wraw
 rw [ByteArray.size_extract]; omega
section
variable {r : Rd}
theorem qsi (c : chr r.s r.pos = 41) : r.rpart = (r.fail r.pos 8, q09) := if_pos c
theorem qud (c : chr r.s r.pos = 40) : r.rpart = (r.rlist.1.stop false, ⟨⟨#[]⟩, r.rlist.2⟩) := by unfold Rd.rpart; rw [if_neg (by omega), if_pos c]
theorem q00q (c : chr r.s r.pos = 39) : r.rpart = (r.quoted.stop false, ⟨⟨#[]⟩, [r.qval]⟩) := by unfold Rd.rpart; rw [if_neg (by omega), if_neg (by omega), if_pos c]
theorem qta (c1 : ¬ chr r.s r.pos = 41) (c2 : ¬ chr r.s r.pos = 40) (c3 : ¬ chr r.s r.pos = 39) (k : (r.s.size : Int) ≤ (r.word.pos : Int) ∨ ¬ chr r.s r.word.pos = 40) :
 r.rpart = ((if 64 < r.wraw.size then r.word.fail r.pos 2 else r.word).stop false, ⟨⟨#[]⟩, [⟨0, r.wtxt⟩]⟩) := by
 unfold Rd.rpart; rw [if_neg c1, if_neg c2, if_neg c3, if_neg]
 unfold isAt
 rcases k with k | k
 ·rw [decide_eq_false (by omega)]; simp
 ·rw [decide_eq_false k]; simp
theorem q00r (c1 : ¬ chr r.s r.pos = 41) (c2 : ¬ chr r.s r.pos = 40) (c3 : ¬ chr r.s r.pos = 39) (k : (r.s.size : Int) ≤ (r.word.pos : Int) ∨ ¬ chr r.s r.word.pos = 40) (z : 64 < (r.wraw.size : Int)) :
 r.rpart = ((r.word.fail r.pos 2).stop false, ⟨⟨#[]⟩, [⟨0, r.wtxt⟩]⟩) := by rw [qta c1 c2 c3 k, if_pos (by omega)]
theorem qx3 (c1 : ¬ chr r.s r.pos = 41) (c2 : ¬ chr r.s r.pos = 40) (c3 : ¬ chr r.s r.pos = 39) (k : (r.s.size : Int) ≤ (r.word.pos : Int) ∨ ¬ chr r.s r.word.pos = 40) (z : (r.wraw.size : Int) ≤ 64) :
 r.rpart = (r.word.stop false, ⟨⟨#[]⟩, [⟨0, r.wtxt⟩]⟩) := by rw [qta c1 c2 c3 k, if_neg (by omega)]
theorem qx4 (c1 : ¬ chr r.s r.pos = 41) (c2 : ¬ chr r.s r.pos = 40) (c3 : ¬ chr r.s r.pos = 39) (k : (r.word.pos : Int) < (r.s.size : Int) ∧ chr r.s r.word.pos = 40) (nm : qbq (upS r.wraw) = true) : r.rpart = (r.word.rlist.1.stop false, ⟨r.wtxt, r.word.rlist.2⟩) := by
 unfold Rd.rpart; rw [if_neg c1, if_neg c2, if_neg c3, if_pos (by unfold isAt; rw [decide_eq_true (by omega), decide_eq_true k.2]; rfl), qex, if_pos nm]
theorem qx5 (c1 : ¬ chr r.s r.pos = 41) (c2 : ¬ chr r.s r.pos = 40) (c3 : ¬ chr r.s r.pos = 39) (k : (r.word.pos : Int) < (r.s.size : Int) ∧ chr r.s r.word.pos = 40) (nm : qbq (upS r.wraw) = false) : r.rpart = (r.word.fail r.pos 7, ⟨r.wtxt, []⟩) := by
 unfold Rd.rpart; rw [if_neg c1, if_neg c2, if_neg c3, if_pos (by unfold isAt; rw [decide_eq_true (by omega), decide_eq_true k.2]; rfl), qex, if_neg (by rw [nm]; decide)]
end
section
variable {s : ByteArray}
theorem qrh (h : 400 < (s.size : Int)) : qbs s = (qb8, 0, 2) := by unfold qbs; rw [if_pos (by omega)]
theorem que {i : Nat} (h : (s.size : Int) ≤ 400) (hi : (i : Int) < (s.size : Int)) (hb : ∀ j, j < i → badC (chr s j) = false) (k : chr s i < 32 ∨ 126 < chr s i) : qbs s = (qb8, (i : Int), 5) := by
 have e := qxy (s := s) (i := i) (by omega) (by unfold badC; simp; omega) hb
 unfold qbs; rw [if_neg (by omega), if_pos (by omega), e]
theorem qri {i : Nat} (h : s.size ≤ 400) (hi : (s.size : Int) ≤ (i : Int)) (hb : ∀ j, j < i → badC (chr s j) = false) : qcw s < 0 ∧ qfc s := by
 have e := qxz (s := s) fun j hj => hb j (by omega)
 exact ⟨by omega, h, qh3 (by omega)⟩
theorem qrj (h : (s.size : Int) ≤ 400) (b : qcw s < 0) (k : s.size ≤ (rd0 s).blanks.pos) : qbs s = (qb8, (s.size : Int), 1) := by
 unfold qbs; rw [if_neg (by omega), if_neg (by omega), if_pos (by omega)]
theorem qsj (h : (s.size : Int) ≤ 400) (b : qcw s < 0) (k : (rd0 s).blanks.pos < s.size) (k2 : ((rd0 s).blanks.word.pos : Int) < (s.size : Int) ∧ ¬ chr s (rd0 s).blanks.word.pos = 32) : qbs s = (qb8, ((rd0 s).blanks.word.pos : Int), 8) := by
 unfold qbs; rw [if_neg (by omega), if_neg (by omega), if_neg (fun z => z k), if_pos ⟨by omega, k2.2⟩]
theorem qwe (h : (s.size : Int) ≤ 400) (b : qcw s < 0) (k : (rd0 s).blanks.pos < s.size) (k2 : (s.size : Int) ≤ ((rd0 s).blanks.word.pos : Int) ∨ chr s (rd0 s).blanks.word.pos = 32) (nm : qbq (upS (rd0 s).blanks.wraw) = false) : qbs s = (qb8, ((rd0 s).blanks.pos : Int), 7) := by
 unfold qbs; rw [if_neg (by omega), if_neg (by omega), if_neg (fun z => z k), if_neg (by rintro ⟨a, c⟩; rcases k2 with k2 | k2; omega; exact c k2), qex, if_pos nm]
theorem qm2 {L : Rd × List CPart} (h : (s.size : Int) ≤ 400) (b : qcw s < 0) (k : (rd0 s).blanks.pos < s.size) (k2 : (s.size : Int) ≤ ((rd0 s).blanks.word.pos : Int) ∨ chr s (rd0 s).blanks.word.pos = 32) (nm : qbq (upS (rd0 s).blanks.wraw) = true)
 (e : qca 13 (rd0 s).blanks.word [] = L) (z : ¬ L.1.err = 0) : qbs s = (qb8, L.1.place, L.1.err) := by
 unfold qbs; rw [if_neg (by omega), if_neg (by omega), if_neg (fun z => z k), if_neg (by rintro ⟨a, c⟩; rcases k2 with k2 | k2; omega; exact c k2), qex, if_neg (by rw [nm]; decide), e, if_pos z]
theorem qwf {L : Rd × List CPart} (h : (s.size : Int) ≤ 400) (b : qcw s < 0) (k : (rd0 s).blanks.pos < s.size) (k2 : (s.size : Int) ≤ ((rd0 s).blanks.word.pos : Int) ∨ chr s (rd0 s).blanks.word.pos = 32) (nm : qbq (upS (rd0 s).blanks.wraw) = true)
 (e : qca 13 (rd0 s).blanks.word [] = L) (z : L.1.err = 0) : qbs s = (⟨upS (rd0 s).blanks.wraw, L.2⟩, 0, 0) := by
 unfold qbs; rw [if_neg (by omega), if_neg (by omega), if_neg (fun z => z k), if_neg (by rintro ⟨a, c⟩; rcases k2 with k2 | k2; omega; exact c k2), qex, if_neg (by rw [nm]; decide), e, if_neg (fun k => k z)]
end
def Rd.more (r : Rd) : Bool := decide (r.blanks.pos < r.s.size)
theorem qwg {r : Rd} : (r.more = true) = (r.blanks.pos < r.s.size) := by unfold Rd.more; rw [decide_eq_true_eq]
theorem qwh {r : Rd} : (r.more = false) = ¬ (r.blanks.pos < r.s.size) := by unfold Rd.more; rw [decide_eq_false_iff_not]
end Go.Ev
