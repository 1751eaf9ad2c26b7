/- Tools and contracts under the laws of this seat: DevSortP to DevTabs. -/
import Derived.Test.YtkgkgcojfocomaaGreatE04
import Derived.Test.YtkgkgcojfocomaaGreatE03
import Derived.WalkKit
set_option linter.unusedVariables false
set_option linter.unusedSimpArgs false
namespace Go.Ev
open Go.RowKit
def encU (u : AUnit) : List Value := [.int .i64 u.unit, .int .i64 u.first, .int .i64 u.last, .int .i64 u.state]
theorem qbkj {w : World} {X : Nat → Prop} {u : AUnit} {c : Nat} {x : D} (h : (qbr u).cells[c]? = some x) : RD w X (encU u)[c]! x := by
  match c, h with
  | 0, h => cases h; exact .i _ _
  | 1, h => cases h; exact .i _ _
  | 2, h => cases h; exact .i _ _
  | 3, h => cases h; exact .i _ _
theorem qbkk {w : World} {X : Nat → Prop} {u : AUnit} {c : Nat} {v : Value} {x : D} (h : (qbr u).cells[c]? = some x) (hr : RD w X v x) : v = (encU u)[c]! := by
  match c, h with
  | 0, h => cases h; cases hr; rfl
  | 1, h => cases h; cases hr; rfl
  | 2, h => cases h; cases hr; rfl
  | 3, h => cases h; cases hr; rfl
theorem qbpa (u : AUnit) : (qbr u).cells.length = 4 := rfl
theorem qbgu (us : List AUnit) (t : Nat) : (flat (us.map qbr))[t]? = (us[t / 4]?).bind fun u => (qbr u).cells[t % 4]? := by
  have hs : ∀ d ∈ us.map qbr, d.cells.length = 4 := fun d hd => by
    obtain ⟨u, _, rfl⟩ := List.mem_map.1 hd
    rfl
  have ht : t = t / 4 * 4 + t % 4 := by omega
  cases h : us[t / 4]? with
  | none =>
    rw [Option.bind_none]
    refine List.getElem?_eq_none ?_
    rw [qby (sz := 4) hs, List.length_map]
    have := List.getElem?_eq_none_iff.1 h
    omega
  | some u =>
    rw [Option.bind_some]
    have := qh3 (sz := 4) (l := us.map qbr) (j := t / 4) (c := t % 4) (d := qbr u) hs (by rw [List.getElem?_map, h]; rfl) (by omega)
    rwa [← ht] at this
theorem q2b {d : D} {x : AUnit} (h : qe2 d = some x) : d = qbr x := by
  unfold qe2 at h
  split at h
  · cases h; rfl
  · cases h
theorem q3e : ∀ {l : List D} {us : List AUnit}, decM qe2 l = some us → l = us.map qbr
  | [], us, h => by cases h; rfl
  | d :: l, us, h => by
    unfold decM at h
    split at h
    · rename_i x y h1 h2
      cases h
      rw [List.map_cons, q2b h1, q3e h2]
    · cases h
def leF (x y : AUnit) : Bool := decide (x.first ≤ y.first)
def qlx (us : List AUnit) : List AUnit := us.mergeSort leF
def okU (us : List AUnit) : Prop := (us.map (·.first)).Nodup ∧ (∀ u ∈ us, 0 ≤ u.first ∧ u.first ≤ 100000) ∧ us.length ≤ 1000000
def qtu (l : List D) : Option (Prop × List D) := match decM qe2 l with
  | some us => some (okU us, (qlx us).map qbr)
  | none => none
theorem qqm (us : List AUnit) : (qlx us).length = us.length := by simp [qlx]
theorem q2c {us : List AUnit} (h : (us.map (·.first)).Nodup) {x y : AUnit} (hx : x ∈ us) (hy : y ∈ us) (e : x.first = y.first) : x = y := by
  obtain ⟨i, hi, rfl⟩ := List.getElem_of_mem hx
  obtain ⟨j, hj, rfl⟩ := List.getElem_of_mem hy
  have key : ∀ (i j : Nat) (hi : i < us.length) (hj : j < us.length), i < j → us[i].first ≠ us[j].first := fun i j hi hj hl => by
    have := List.pairwise_iff_getElem.1 h i j (by simpa using hi) (by simpa using hj) hl
    simpa using this
  rcases Nat.lt_trichotomy i j with h1 | h1 | h1
  · exact absurd e (key i j hi hj h1)
  · subst h1; rfl
  · exact absurd e.symm (key j i hj hi h1)
end Go.Ev

namespace Go.Ev
theorem qsa : ∀ {a b : List AUnit}, a.Pairwise (fun x y => x.first < y.first) → b.Pairwise (fun x y => x.first < y.first) → (∀ u, u ∈ a ↔ u ∈ b) → a = b
  | [], [], _, _, _ => rfl
  | [], y :: b, _, _, h => absurd ((h y).2 (by simp)) (by simp)
  | x :: a, [], _, _, h => absurd ((h x).1 (by simp)) (by simp)
  | x :: a, y :: b, ha, hb, h => by
    rw [List.pairwise_cons] at ha hb
    have e : x = y := by
      have h1 := (h x).1 (by simp)
      have h2 := (h y).2 (by simp)
      rw [List.mem_cons] at h1 h2
      rcases h1 with h1 | h1
      · exact h1
      · rcases h2 with h2 | h2
        · exact h2.symm
        · have := ha.1 _ h2; have := hb.1 _ h1; omega
    subst e
    rw [qsa ha.2 hb.2 fun u => ?_]
    constructor
    · intro hu
      have := (h u).1 (List.mem_cons_of_mem _ hu)
      rw [List.mem_cons] at this
      rcases this with rfl | this
      · have := ha.1 _ hu; omega
      · exact this
    · intro hu
      have := (h u).2 (List.mem_cons_of_mem _ hu)
      rw [List.mem_cons] at this
      rcases this with rfl | this
      · have := hb.1 _ hu; omega
      · exact this
def qhj (us : List AUnit) (d : List Nat) : List AUnit := d.map fun j => us.getD j qje
theorem qqn {us : List AUnit} {d : List Nat} (hd : d.Perm (List.range us.length)) : (qhj us d).Perm us := by
  unfold qhj
  refine (hd.map _).trans ?_
  have : (List.range us.length).map (fun j => us.getD j qje) = us := by
    apply List.ext_getElem?
    intro j
    rw [List.getElem?_map]
    by_cases h : j < us.length
    · rw [List.getElem?_range h, Option.map_some, List.getD_eq_getElem?_getD, List.getElem?_eq_getElem h, Option.getD_some]
    · rw [List.getElem?_eq_none (by simpa using h), List.getElem?_eq_none (by omega)]; rfl
  rw [this]
theorem q8z {us : List AUnit} {d : List Nat} (hd : d.Perm (List.range us.length)) (hs : us.Pairwise (fun x y => x.first < y.first)) : qlx (qhj us d) = us := by
  have hp := qqn hd
  have h1 : (qlx (qhj us d)).Pairwise fun x y => leF x y = true := List.pairwise_mergeSort (fun a b c => by unfold leF; simp only [decide_eq_true_eq]; omega) (fun a b => by unfold leF; simp only [Bool.or_eq_true, decide_eq_true_eq]; omega) _
  have hp2 : (qlx (qhj us d)).Perm us := (List.mergeSort_perm _ _).trans hp
  have hn : (us.map (·.first)).Nodup := by
    unfold List.Nodup
    rw [List.pairwise_map]
    exact hs.imp fun h => by omega
  have h2 : ((qlx (qhj us d)).map (·.first)).Nodup := ((hp2.map _).nodup_iff).2 hn
  unfold List.Nodup at h2
  rw [List.pairwise_map] at h2
  refine qsa ((h1.and h2).imp fun {a b} q => ?_) hs fun u => hp2.mem_iff
  have q1 := q.1
  have q2 : a.first ≠ b.first := q.2
  unfold leF at q1
  simp only [decide_eq_true_eq] at q1
  omega
theorem qbkl {us : List AUnit} {d : List Nat} (hd : d.Perm (List.range us.length)) (hs : us.Pairwise (fun x y => x.first < y.first)) (hb : ∀ u ∈ us, 0 ≤ u.first ∧ u.first ≤ 100000) (hl : us.length ≤ 1000000) : okU (qhj us d) := by
  have hp := qqn hd
  refine ⟨((hp.map _).nodup_iff).2 ?_, fun u hu => hb u (hp.mem_iff.1 hu), by rw [hp.length_eq]; exact hl⟩
  unfold List.Nodup
  rw [List.pairwise_map]
  exact hs.imp fun h => by omega
theorem qpg {e : Entry} (h : qc3 e = 0) : 1 ≤ e.number ∧ e.number ≤ 9999 := by
  unfold qc3 at h
  split at h
  · cases h
  split at h
  · cases h
  omega
theorem q3f {l : List Entry} (h : ∀ j, j < l.length → chk l j) (i : Nat) : ∀ j, i < j → j < l.length → (l.getD i q0q).number < (l.getD j q0q).number
  | 0, h1, _ => by omega
  | j + 1, h1, h2 => by
    have q := (h (j + 1) h2).2.1
    have b := qpg (h j (by omega)).1
    rw [qjh, show j + 1 - 1 = j from rfl, w64 (by omega) (by omega)] at q
    have hq : (l.getD (j + 1) q0q).number = (l.getD j q0q).number + 1 := Decidable.byContradiction fun e => q ⟨by omega, e⟩
    by_cases e : i = j
    · subst e; omega
    · have := q3f h i j (by omega) (by omega); omega
theorem q4v {l : List Entry} (h : ∀ j, j < l.length → chk l j) : l.Pairwise fun x y => x.number < y.number := by
  rw [List.pairwise_iff_getElem]
  intro i j hi hj hl
  have := q3f h i j hl hj
  rwa [List.getD_eq_getElem?_getD, List.getElem?_eq_getElem hi, Option.getD_some, List.getD_eq_getElem?_getD, List.getElem?_eq_getElem hj, Option.getD_some] at this
theorem qwc {l : List Entry} (h : (qbc l).2 = 0) : (qek l).Pairwise (fun x y => x.first < y.first) := by
  have hc : ∀ j, j < l.length → chk l j := fun j hj => qji h hj
  have hf := (qmp h).f
  rw [← qko h] at hf
  have h2 : ((qek l).map (·.first)).Pairwise (· < ·) := by
    rw [hf, List.pairwise_map]
    exact (q4v hc).filter _
  rwa [List.pairwise_map] at h2
theorem qyx {l : List Entry} (h : (qbc l).2 = 0) : ∀ u ∈ qek l, 0 ≤ u.first ∧ u.first ≤ 100000 := by
  intro u hu
  have hc : ∀ j, j < l.length → chk l j := fun j hj => qji h hj
  have hf := (qmp h).f
  rw [← qko h] at hf
  have hm : u.first ∈ (qek l).map (·.first) := List.mem_map.2 ⟨u, hu, rfl⟩
  rw [hf] at hm
  obtain ⟨e, he, hn⟩ := List.mem_map.1 hm
  have he := (List.mem_filter.1 he).1
  obtain ⟨j, hj, rfl⟩ := List.getElem_of_mem he
  have := qpg (hc j hj).1
  rw [List.getD_eq_getElem?_getD, List.getElem?_eq_getElem hj, Option.getD_some] at this
  omega
theorem q2d (l : List Entry) : (qbs l).length ≤ l.length := by
  have key : ∀ (l : List Entry) (us : List AUnit), (l.foldl qh9 us).length ≤ us.length + l.length := fun l => by
    induction l with
    | nil => intro us; simp
    | cons e l ih =>
      intro us
      have h1 := ih (qh9 us e)
      have h2 : (qh9 us e).length ≤ us.length + 1 := by
        unfold qh9
        split
        · simp
        split
        · split <;> simp
        · simp
      simp only [List.foldl_cons, List.length_cons]
      omega
  have := key l []
  simpa [qbs] using this
theorem q80 {l : List Entry} (h : (qbc l).2 = 0) : l.length ≤ 80 := by
  unfold qbc at h
  split at h
  · cases h
  · omega
theorem qph {l : List Entry} : (qek l).length ≤ 80 := by
  by_cases h : (qbc l).2 = 0
  · rw [qko h]
    have := q2d l; have := q80 h
    omega
  · rw [qip h]; simp
theorem q4w {l : List Entry} (h : (qbc l).2 = 0) {d : List Nat} (hd : d.Perm (List.range (qek l).length)) : qtu ((qhj (qek l) d).map qbr) = some (okU (qhj (qek l) d), (qek l).map qbr) := by
  unfold qtu
  rw [qjg]
  simp only
  rw [q8z hd (qwc h)]
theorem q81 {l : List Entry} (h : (qbc l).2 = 0) {d : List Nat} (hd : d.Perm (List.range (qek l).length)) : okU (qhj (qek l) d) :=
  qbkl hd (qwc h) (qyx h) (by have := qph (l := l); omega)
theorem q82 (us : List AUnit) (d : List Nat) (j : Nat) : qhj us (d ++ [j]) = qhj us d ++ [us.getD j qje] := by simp [qhj]
theorem qbdb (us : List AUnit) (d : List Nat) : (qhj us d).length = d.length := by simp [qhj]
def qiz (file : ByteArray) (rrn : Int) (out : List ByteArray) (e : Entry) : List ByteArray :=
  if e.kind = 0 ∧ e.change.file = file ∧ e.change.rrn = rrn then (if out = [] then [e.change.before] else out) ++ [e.change.after] else out
def imgs (file : ByteArray) (rrn : Int) (l : List Entry) : List ByteArray := l.foldl (qiz file rrn) []
theorem qqo {l : List Entry} {file : ByteArray} {rrn : Int} {i : Nat} (h : i < l.length) : imgs file rrn (l.take (i + 1)) = qiz file rrn (imgs file rrn (l.take i)) (l.getD i q0q) := by
  rw [qdy q0q h]; simp [imgs]
theorem qbdc (file : ByteArray) (rrn : Int) (l : List Entry) : (imgs file rrn l).length ≤ l.length + 1 ∧ (imgs file rrn l = [] ∨ 1 ≤ (imgs file rrn l).length) := by
  have key : ∀ (l : List Entry) (o : List ByteArray), (l.foldl (qiz file rrn) o).length ≤ (if o = [] then 1 else o.length) + l.length := fun l => by
    induction l with
    | nil => intro o; simp; split <;> simp_all
    | cons e l ih =>
      intro o
      have h1 := ih (qiz file rrn o e)
      have h2 : (if qiz file rrn o e = [] then 1 else (qiz file rrn o e).length) ≤ (if o = [] then 1 else o.length) + 1 := by
        unfold qiz
        (repeat' split) <;> simp_all
      simp only [List.foldl_cons, List.length_cons]
      omega
  have := key l []
  simp at this
  refine ⟨by unfold imgs; omega, ?_⟩
  cases imgs file rrn l <;> simp
def qg9 (l : List Entry) (file : ByteArray) (rrn : Int) : List ByteArray × Int :=
  if (qbc l).2 ≠ 0 then ([], (qbc l).2) else if qbb file = false then ([], 7) else if rrn < 1 ∨ 60 < rrn then ([], 3) else (imgs file rrn l, 0)
end Go.Ev
namespace Go.Ev
theorem qbpb {us : List AUnit} {j : Nat} (h : j < (us.map fun u => D.cp (qdf u)).length) : (us.map fun u => D.cp (qdf u)).getD j .np = .cp [.i .i64 (us.getD j qje).unit, .i .i64 (us.getD j qje).first, .i .i64 (us.getD j qje).last, .i .i64 (us.getD j qje).state] := by
  rw [List.length_map] at h
  rw [List.getD_eq_getElem?_getD, List.getElem?_map, List.getElem?_eq_getElem h, List.getD_eq_getElem?_getD, List.getElem?_eq_getElem h]
  rfl
end Go.Ev
namespace Go.Ev
theorem q4x {us : List AUnit} {d : List Nat} (hd : d.Perm (List.range us.length)) : (qhj us d).length = us.length := (qqn hd).length_eq
theorem qqp : ∀ (n : Nat) (d : List Nat), d.Nodup → (∀ k ∈ d, k < n) → d.length ≤ n
  | 0, d, _, h => by
    cases d with
    | nil => simp
    | cons a d => have := h a (by simp); omega
  | n + 1, d, hn, h => by
    by_cases hm : n ∈ d
    · have := qqp n (d.erase n) (hn.erase n) fun k hk => by
        have h1 := h k (List.mem_of_mem_erase hk)
        have h2 : k ≠ n := fun e => by subst e; exact (hn.not_mem_erase) hk
        omega
      rw [List.length_erase_of_mem hm] at this
      omega
    · have := qqp n d hn fun k hk => by
        have h1 := h k hk
        have : k ≠ n := fun e => hm (e ▸ hk)
        omega
      omega
end Go.Ev

namespace Go.Ev
structure DType where
  kind : Int
  length : Int
  scale : Int
deriving DecidableEq
def qbe (x : DType) : D := .agg [.i .i64 x.kind, .i .i64 x.length, .i .i64 x.scale]
def qyy : DType := ⟨0, 0, 0⟩
theorem qcb (x : DType) : (⟨x.kind, x.length, x.scale⟩ : DType) = x := rfl
def qbg : D → Option DType
  | .agg [.i .i64 a0, .i .i64 a1, .i .i64 a2] => some ⟨a0, a1, a2⟩
  | _ => none
theorem qe9 {d : D} {x : DType} (h : qbg d = some x) : dle d (qbe x) := by
  unfold qbg at h
  split at h
  · cases h; exact q01 _
  · cases h
theorem qcy : (⟨0, 0, 0⟩ : DType) = qyy := rfl
structure Field where
  name : ByteArray
  type_ : DType
deriving DecidableEq
def q03 (x : Field) : D := .agg [.s x.name, .i .i64 x.type_.kind, .i .i64 x.type_.length, .i .i64 x.type_.scale]
def q02 : Field := ⟨⟨#[]⟩, qyy⟩
theorem qc4 (x : Field) : (⟨x.name, x.type_⟩ : Field) = x := rfl
def qb4 : D → Option Field
  | .agg [.s a0, .i .i64 a1, .i .i64 a2, .i .i64 a3] => some ⟨a0, ⟨a1, a2, a3⟩⟩
  | _ => none
theorem qnc (x : Field) : qb4 (q03 x) = some x := rfl
theorem qj2 {d : D} {x : Field} (h : qb4 d = some x) : dle d (q03 x) := by
  unfold qb4 at h
  split at h
  · cases h; exact q01 _
  · cases h
theorem qdr : (⟨⟨#[]⟩, qyy⟩ : Field) = q02 := rfl
theorem qc5 {a0 b0 : ByteArray} {a1 b1 : Int} {a2 b2 : Int} {a3 b3 : Int} : qdd [.s, .i, .i, .i] [.s a0, .i .i64 a1, .i .i64 a2, .i .i64 a3] [.s b0, .i .i64 b1, .i .i64 b2, .i .i64 b3] = some (eqB (⟨a0, ⟨a1, a2, a3⟩⟩ : Field) ⟨b0, ⟨b1, b2, b3⟩⟩) := by
  simp only [qdd, qic, qdq, ↓reduceIte, Option.some.injEq, Bool.and_true]; rw [Bool.eq_iff_iff]; simp [eqB]
theorem q4y (l : List Field) (k : Nat) : (l.map q03).getD k (q03 q02) = q03 (l.getD k q02) := by
  simp only [List.getD, List.getElem?_map]
  cases l[k]? <;> rfl
theorem qbz (l : List Field) (k : Nat) : (l.map q03).getD k (.agg [.s ⟨#[]⟩, .i .i64 0, .i .i64 0, .i .i64 0]) = q03 (l.getD k q02) := q4y l k
theorem qc6 (l : List Field) : decL 4 qb4 (.sl 4 (l.map q03)) = some l := qfr qnc l
theorem qc7 (l : List Field) : decM qb4 (l.map q03) = some l := qfq qnc l
structure KField where
  name : ByteArray
  descending : Bool
deriving DecidableEq
def q06 (x : KField) : D := .agg [.s x.name, .b x.descending]
def qdm : KField := ⟨⟨#[]⟩, false⟩
theorem qcl (x : KField) : (⟨x.name, x.descending⟩ : KField) = x := rfl
def qbv : D → Option KField
  | .agg [.s a0, .b a1] => some ⟨a0, a1⟩
  | _ => none
theorem qmg (x : KField) : qbv (q06 x) = some x := rfl
theorem qnd {d : D} {x : KField} (h : qbv d = some x) : dle d (q06 x) := by
  unfold qbv at h
  split at h
  · cases h; exact q01 _
  · cases h
theorem qc8 : (⟨⟨#[]⟩, false⟩ : KField) = qdm := rfl
theorem qcm {a0 b0 : ByteArray} {a1 b1 : Bool} : qdd [.s, .b] [.s a0, .b a1] [.s b0, .b b1] = some (eqB (⟨a0, a1⟩ : KField) ⟨b0, b1⟩) := by
  simp only [qdd, qic, qdq, ↓reduceIte, Option.some.injEq, Bool.and_true]; rw [Bool.eq_iff_iff]; simp [eqB]
theorem q2e (l : List KField) (k : Nat) : (l.map q06).getD k (q06 qdm) = q06 (l.getD k qdm) := by
  simp only [List.getD, List.getElem?_map]
  cases l[k]? <;> rfl
theorem qbp (l : List KField) (k : Nat) : (l.map q06).getD k (.agg [.s ⟨#[]⟩, .b false]) = q06 (l.getD k qdm) := q2e l k
theorem qcn (l : List KField) : decL 2 qbv (.sl 2 (l.map q06)) = some l := qfr qmg l
theorem qco (l : List KField) : decM qbv (l.map q06) = some l := qfq qmg l
structure Fmt where
  name : ByteArray
  fields : List Field
deriving DecidableEq
def qbt (x : Fmt) : D := .agg [.s x.name, .sl 4 (x.fields.map q03)]
def zFmt : Fmt := ⟨⟨#[]⟩, []⟩
theorem qd9 (x : Fmt) : (⟨x.name, x.fields⟩ : Fmt) = x := rfl
def qb1 : D → Option Fmt
  | .agg [.s a0, a1] => match (decL 4 qb4) a1 with
    | some b1 => some ⟨a0, b1⟩
    | _ => none
  | _ => none
theorem qdv {d : D} {x : Fmt} (h : qb1 d = some x) : dle d (qbt x) := by
  unfold qb1 at h
  split at h
  · split at h
    · rename_i h1
      cases h
      simp only [dle, dles, qbt, and_true, true_and]
      exact (q0y qj2) h1
    · cases h
  · cases h
theorem qe4 : (⟨⟨#[]⟩, []⟩ : Fmt) = zFmt := rfl
structure File where
  name : ByteArray
  format : Fmt
  keys : List KField
  unique : Bool
deriving DecidableEq
def qb5 (x : File) : D := .agg [.s x.name, .s x.format.name, .sl 4 (x.format.fields.map q03), .sl 2 (x.keys.map q06), .b x.unique]
def qxq : File := ⟨⟨#[]⟩, zFmt, [], false⟩
theorem qds (x : File) : (⟨x.name, x.format, x.keys, x.unique⟩ : File) = x := rfl
def qcd : D → Option File
  | .agg [.s a0, .s a1, a2, a3, .b a4] => match (decL 4 qb4) a2, (decL 2 qbv) a3 with
    | some b2, some b3 => some ⟨a0, ⟨a1, b2⟩, b3, a4⟩
    | _, _ => none
  | _ => none
theorem qg3 {d : D} {x : File} (h : qcd d = some x) : dle d (qb5 x) := by
  unfold qcd at h
  split at h
  · split at h
    · rename_i h2 h3
      cases h
      simp only [dle, dles, qb5, and_true, true_and]
      exact ⟨(q0y qj2) h2, (q0y qnd) h3⟩
    · cases h
  · cases h
theorem qea : (⟨⟨#[]⟩, zFmt, [], false⟩ : File) = qxq := rfl
structure Rec where
  deleted : Bool
  bytes : ByteArray
deriving DecidableEq
def qbo (x : Rec) : D := .agg [.b x.deleted, .s x.bytes]
def zRec : Rec := ⟨false, ⟨#[]⟩⟩
theorem qeb (x : Rec) : (⟨x.deleted, x.bytes⟩ : Rec) = x := rfl
def qc0 : D → Option Rec
  | .agg [.b a0, .s a1] => some ⟨a0, a1⟩
  | _ => none
theorem qpi (x : Rec) : qc0 (qbo x) = some x := rfl
theorem qkp {d : D} {x : Rec} (h : qc0 d = some x) : dle d (qbo x) := by
  unfold qc0 at h
  split at h
  · cases h; exact q01 _
  · cases h
theorem qe5 : (⟨false, ⟨#[]⟩⟩ : Rec) = zRec := rfl
theorem qec {a0 b0 : Bool} {a1 b1 : ByteArray} : qdd [.b, .s] [.b a0, .s a1] [.b b0, .s b1] = some (eqB (⟨a0, a1⟩ : Rec) ⟨b0, b1⟩) := by
  simp only [qdd, qic, qdq, ↓reduceIte, Option.some.injEq, Bool.and_true]; rw [Bool.eq_iff_iff]; simp [eqB]
theorem qbdd (l : List Rec) (k : Nat) : (l.map qbo).getD k (qbo zRec) = qbo (l.getD k zRec) := by
  simp only [List.getD, List.getElem?_map]
  cases l[k]? <;> rfl
theorem qcp (l : List Rec) (k : Nat) : (l.map qbo).getD k (.agg [.b false, .s ⟨#[]⟩]) = qbo (l.getD k zRec) := qbdd l k
theorem qed (l : List Rec) : decL 2 qc0 (.sl 2 (l.map qbo)) = some l := qfr qpi l
theorem qee (l : List Rec) : decM qc0 (l.map qbo) = some l := qfq qpi l
structure Table where
  file : File
  records : List Rec
deriving DecidableEq
def q0g (x : Table) : D := .agg [.s x.file.name, .s x.file.format.name, .sl 4 (x.file.format.fields.map q03), .sl 2 (x.file.keys.map q06), .b x.file.unique, .sl 2 (x.records.map qbo)]
def q05 : Table := ⟨qxq, []⟩
theorem qdb (x : Table) : (⟨x.file, x.records⟩ : Table) = x := rfl
def q0x : D → Option Table
  | .agg [.s a0, .s a1, a2, a3, .b a4, a5] => match (decL 4 qb4) a2, (decL 2 qbv) a3, (decL 2 qc0) a5 with
    | some b2, some b3, some b5 => some ⟨⟨a0, ⟨a1, b2⟩, b3, a4⟩, b5⟩
    | _, _, _ => none
  | _ => none
theorem qne (x : Table) : q0x (q0g x) = some x := by
  simp [q0x, q0g, (qfr qnc), (qfr qmg), (qfr qpi)]
theorem q00 {d : D} {x : Table} (h : q0x d = some x) : dle d (q0g x) := by
  unfold q0x at h
  split at h
  · split at h
    · rename_i h2 h3 h5
      cases h
      simp only [dle, dles, q0g, and_true, true_and]
      exact ⟨(q0y qj2) h2, (q0y qnd) h3, (q0y qkp) h5⟩
    · cases h
  · cases h
theorem qdw : (⟨qxq, []⟩ : Table) = q05 := rfl
theorem qcv (l : List Table) : decL 6 q0x (.sl 6 (l.map q0g)) = some l := qfr qne l
theorem qcg (l : List Table) : decM q0x (l.map q0g) = some l := qfq qne l
structure Val where
  n : Int
  s : ByteArray
deriving DecidableEq
def qb6 (x : Val) : D := .agg [.i .i64 x.n, .s x.s]
def zVal : Val := ⟨0, ⟨#[]⟩⟩
theorem qdn (x : Val) : (⟨x.n, x.s⟩ : Val) = x := rfl
def qda : D → Option Val
  | .agg [.i .i64 a0, .s a1] => some ⟨a0, a1⟩
  | _ => none
theorem q83 {d : D} {x : Val} (h : qda d = some x) : dle d (qb6 x) := by
  unfold qda at h
  split at h
  · cases h; exact q01 _
  · cases h
theorem qef : (⟨0, ⟨#[]⟩⟩ : Val) = zVal := rfl
end Go.Ev

namespace Go.Ev
theorem qcq (l : List Int) (k : Nat) : (l.map (D.i .i64)).getD k (.i .i64 0) = .i .i64 (l.getD k 0) := by
  simp only [List.getD, List.getElem?_map]
  cases l[k]? <;> rfl
theorem qbde (l : List Int) (k : Nat) : (l.map (D.i .u8)).getD k (.i .u8 0) = .i .u8 (l.getD k 0) := by
  simp only [List.getD, List.getElem?_map]
  cases l[k]? <;> rfl
theorem qd4 (l : List Int) : decL 1 (decI .i64) (.sl 1 (l.map (D.i .i64))) = some l := qfr (fun x => by simp [decI]) l
theorem qep (l : List Int) : decM (decI .i64) (l.map (D.i .i64)) = some l := qfq (fun x => by simp [decI]) l
end Go.Ev

namespace Go.Ev
structure Ans where
  tables : List Table
  n : Int
  units : List Int
  err : Int
deriving DecidableEq
def qd2 (x : Ans) : D := .agg [.sl 6 (x.tables.map q0g), .i .i64 x.n, .sl 1 (x.units.map (D.i .i64)), .i .i64 x.err]
def zAns : Ans := ⟨[], 0, [], 0⟩
theorem qjj (x : Ans) : (⟨x.tables, x.n, x.units, x.err⟩ : Ans) = x := rfl
def qgf : D → Option Ans
  | .agg [a0, .i .i64 a1, a2, .i .i64 a3] => match (decL 6 q0x) a0, (decL 1 (decI .i64)) a2 with
    | some b0, some b2 => some ⟨b0, a1, b2, a3⟩
    | _, _ => none
  | _ => none
theorem qtv (x : Ans) : qgf (qd2 x) = some x := by
  simp [qgf, qd2, (qfr qne), (qfr (qbc0 _))]
theorem q84 {d : D} {x : Ans} (h : qgf d = some x) : dle d (qd2 x) := by
  unfold qgf at h
  split at h
  · split at h
    · rename_i h0 h2
      cases h
      simp only [dle, dles, qd2, and_true, true_and]
      exact ⟨(q0y q00) h0, (q0y qho) h2⟩
    · cases h
  · cases h
theorem qk0 : (⟨[], 0, [], 0⟩ : Ans) = zAns := rfl
theorem qjk (l : List Ans) : decL 4 qgf (.sl 4 (l.map qd2)) = some l := qfr qtv l
theorem qjl (l : List Ans) : decM qgf (l.map qd2) = some l := qfq qtv l
end Go.Ev

namespace Go.Ev
open Go.Proofs Ty
set_option maxRecDepth 10000
set_option maxHeartbeats 4000000
set_option linter.unusedSimpArgs false
set_option linter.unusedVariables false
theorem isK3 (n : Int) : isK Tryz.prog 3 (.i .i64 n) = true := by unfold isK; rw [Tryz.underlying3]; simp
theorem qbgv (us : List AUnit) : ∀ d ∈ us.map keyU, isK Tryz.prog 3 d = true := fun d hd => by
  obtain ⟨u, _, rfl⟩ := List.mem_map.1 hd
  exact isK3 _
theorem q0a {P Q : Prop} (h : P) (e : P = Q := by simp only [Bool.or_eq_true, Bool.and_eq_true, Bool.or_eq_false_iff, Bool.and_eq_false_iff, Bool.not_eq_true', Bool.not_eq_false', Bool.not_eq_true, Bool.not_eq_false, decide_eq_true_eq, decide_eq_false_iff_not, beq_iff_eq, bne_iff_ne, beq_eq_false_iff_ne, bne_eq_false_iff_eq, ne_eq, Int.not_lt, Int.not_le, D.b.injEq, D.i.injEq, D.s.injEq, D.agg.injEq, D.sl.injEq, true_and, and_true, List.cons.injEq, gt_iff_lt, ge_iff_le,  Bool.cond_true_left, Bool.cond_false_right, Bool.cond_true_right, Bool.cond_false_left, qu2, qdq, qbgr, qbgs, qbgp, qbgq]; exact rfl) : Q := e.mp h
theorem q0v {P Q : Prop} (q : Q) (e : P = Q := by simp only [Bool.or_eq_true, Bool.and_eq_true, Bool.or_eq_false_iff, Bool.and_eq_false_iff, Bool.not_eq_true', Bool.not_eq_false', Bool.not_eq_true, Bool.not_eq_false, decide_eq_true_eq, decide_eq_false_iff_not, beq_iff_eq, bne_iff_ne, beq_eq_false_iff_ne, bne_eq_false_iff_eq, ne_eq, Int.not_lt, Int.not_le, D.b.injEq, D.i.injEq, D.s.injEq, D.agg.injEq, D.sl.injEq, true_and, and_true, List.cons.injEq, gt_iff_lt, ge_iff_le,  Bool.cond_true_left, Bool.cond_false_right, Bool.cond_true_right, Bool.cond_false_left, qu2, qdq, qbgr, qbgs, qbgp, qbgq]; exact rfl) : P := e.mpr q
theorem siQ {P Q : Prop} (q : Q) (e : P = Q := by simp (maxSteps := 1000000) only [go_sem, ↓reduceIte, reduceCtorEq, Nat.reduceEqDiff, Nat.reduceLT, Nat.reduceLeDiff, Nat.reduceMul, Nat.reduceAdd, Nat.reduceSub, reduceDIte, Nat.reduceBEq, Nat.reduceBNe]; exact rfl) : P := e.mpr q
theorem subQ {P Q : Prop} (q : Q) (e : P = Q := by simp (maxSteps := 1000000) only [forall_eq, V.ptr.injEq, V.row.injEq, V.rp.injEq, V.mref.injEq, exists_eq_left', and_assoc, rhoV, qjs, qxo, rhoO, qxp, qrh, rho1, HS.obj?, forall_eq', qio, qo6, qqf, nfL, vs, vss, vds, vd1, os, aget, go_sem, ↓reduceIte, reduceCtorEq, Nat.reduceEqDiff, Nat.reduceLT, Nat.reduceLeDiff, Nat.reduceMul, Nat.reduceAdd, Nat.reduceSub, reduceDIte, Nat.reduceBEq, Nat.reduceBNe]; exact rfl) : P := e.mpr q
theorem inQ {P Q : Prop} (q : Q) (e : P = Q := by simp only [qlc, qgs, inO, inO2, inO1, inOs, List.append_nil, List.nil_append, Nat.mul_zero, List.cons_append, Nat.zero_add, Nat.reduceAdd, Nat.reduceMul, List.length_map, q0u, q0r, qbr, qbe, q03, qbt, q06, qb5, qbo, q0g, qb6, qd2]; exact rfl) : P := e.mpr q
theorem follows : Tryz.prog.follows .mixedOrders = true := by kernel_rfl
noncomputable def e41 : List O → Option (Prop × O)
  | [.d (.i .i64 n), .d (.i .i64 least), .d (.i .i64 most)] => some (True, .d (.b (decide (least ≤ n) && decide (n ≤ most))))
  | _ => none
noncomputable def q4z : FuncId → List O → Option (Prop × O) := addT (fun _ _ => none) 41 e41
noncomputable def e100 : List O → Option (Prop × O)
  | [.d (.i .i64 n), .d (.i .i64 least), .d (.i .i64 most)] => some (True, .d (.b (decide (least ≤ n) && decide (n ≤ most))))
  | _ => none
noncomputable def qyz : FuncId → List O → Option (Prop × O) := addT q4z 100 e100
noncomputable def e76 : List O → Option (Prop × O)
  | [.d (.b b)] => some (True, .d (.i .i64 (if b = true then 1 else 0)))
  | _ => none
noncomputable def q40 : FuncId → List O → Option (Prop × O) := addT qyz 76 e76
noncomputable def e81 : List O → Option (Prop × O)
  | [.d (.i .u8 c)] => some (True, .d (.b (decide (65 ≤ c) && decide (c ≤ 90))))
  | _ => none
noncomputable def q41 : FuncId → List O → Option (Prop × O) := addT q40 81 e81
noncomputable def e82 : List O → Option (Prop × O)
  | [.d (.i .u8 c)] => some (True, .d (.b (decide (48 ≤ c) && decide (c ≤ 57))))
  | _ => none
noncomputable def q42 : FuncId → List O → Option (Prop × O) := addT q41 82 e82
noncomputable def e51 : List O → Option (Prop × O)
  | [.d (.s s)] => some (True, .d (.b (qbb s)))
  | _ => none
noncomputable def q43 : FuncId → List O → Option (Prop × O) := addT q42 51 e51
noncomputable def e101 : List O → Option (Prop × O)
  | [.d (.s s)] => some (True, .d (.b (qbb s)))
  | _ => none
noncomputable def qy0 : FuncId → List O → Option (Prop × O) := addT q43 101 e101
noncomputable def e128 : List O → Option (Prop × O)
  | [.d x_c] => match q0z x_c with
    | some c => some (True, .d (.i .i64 (qkn c)))
    | _ => none
  | _ => none
noncomputable def qy1 : FuncId → List O → Option (Prop × O) := addT qy0 128 e128
noncomputable def e127 : List O → Option (Prop × O)
  | [.d x_e] => match q0w x_e with
    | some e => some (True, .d (.i .i64 (qri e)))
    | _ => none
  | _ => none
noncomputable def qy2 : FuncId → List O → Option (Prop × O) := addT qy1 127 e127
noncomputable def e102 : List O → Option (Prop × O)
  | [.d x_e] => match q0w x_e with
    | some e => some (True, .d (.i .i64 (qc3 e)))
    | _ => none
  | _ => none
noncomputable def qy3 : FuncId → List O → Option (Prop × O) := addT qy2 102 e102
noncomputable def e79 : List O → Option (Prop × O)
  | [.d x_e] => match q0w x_e with
    | some e => some (True, .d (.i .i64 (qc3 e)))
    | _ => none
  | _ => none
noncomputable def q44 : FuncId → List O → Option (Prop × O) := addT qy3 79 e79
noncomputable def e33 : List O → Option (Prop × O)
  | [.d x_l] => match decL 8 q0w x_l with
    | some l => some (True, .d (.b (qlw l)))
    | _ => none
  | _ => none
noncomputable def q45 : FuncId → List O → Option (Prop × O) := addT q44 33 e33
noncomputable def e86 : List O → Option (Prop × O)
  | [.d x_l, .d (.i .i64 unit)] => match decL 8 q0w x_l with
    | some l => some (l.length ≤ 1000000, .d (.b (begins l unit)))
    | _ => none
  | _ => none
noncomputable def q46 : FuncId → List O → Option (Prop × O) := addT q45 86 e86
noncomputable def e87 : List O → Option (Prop × O)
  | [.d x_l, .d (.i .i64 unit)] => match decL 8 q0w x_l with
    | some l => some (l.length ≤ 1000000, .d (.i .i64 (ends l unit)))
    | _ => none
  | _ => none
noncomputable def q47 : FuncId → List O → Option (Prop × O) := addT q46 87 e87
noncomputable def e57 : List O → Option (Prop × O)
  | [.d x_l, .d (.i .i64 unit)] => match decL 8 q0w x_l with
    | some l => some (l.length ≤ 1000000, .d (.b (isOpen l unit)))
    | _ => none
  | _ => none
noncomputable def q48 : FuncId → List O → Option (Prop × O) := addT q47 57 e57
noncomputable def e103 : List O → Option (Prop × O)
  | [.d x_l, .d x_e] => match decL 8 q0w x_l, q0w x_e with
    | some l, some e => some (l.length ≤ 1000000, .d (.i .i64 (qen l e)))
    | _, _ => none
  | _ => none
noncomputable def qy4 : FuncId → List O → Option (Prop × O) := addT q48 103 e103
noncomputable def e80 : List O → Option (Prop × O)
  | [.d x_l] => match decL 8 q0w x_l with
    | some l => some (l.length ≤ 1000000, .tup [.d (.i .i64 (qbc l).1), .d (.i .i64 (qbc l).2)])
    | _ => none
  | _ => none
noncomputable def q49 : FuncId → List O → Option (Prop × O) := addT qy4 80 e80
noncomputable def e50 : List O → Option (Prop × O)
  | [.d x_l] => match decL 8 q0w x_l with
    | some l => some (l.length ≤ 1000000, .d (.i .i64 (qbc l).2))
    | _ => none
  | _ => none
noncomputable def q5a : FuncId → List O → Option (Prop × O) := addT q49 50 e50
noncomputable def e61 : List O → Option (Prop × O)
  | [.d x_l] => match decL 8 q0w x_l with
    | some l => some (l.length ≤ 1000000, .tup [.d (.mp ((qek l).map keyU) ((qek l).map fun u => .cp (qdf u))), .d (.i .i64 (qbc l).1), .d (.i .i64 (qbc l).2)])
    | _ => none
  | _ => none
noncomputable def q5b : FuncId → List O → Option (Prop × O) := addT q5a 61 e61
noncomputable def e46 : List O → Option (Prop × O)
  | [.d x_l] => match decL 8 q0w x_l with
    | some l => some (l.length ≤ 1000000, .tup [.d (.i .i64 (qbc l).1), .d (.i .i64 (qbc l).2)])
    | _ => none
  | _ => none
noncomputable def q5c : FuncId → List O → Option (Prop × O) := addT q5b 46 e46
noncomputable def e12 : List O → Option (Prop × O)
  | [.d x_l] => match decL 8 q0w x_l with
    | some l => some (l.length ≤ 1000000, .own 50 8 (l.map q0r))
    | _ => none
  | _ => none
noncomputable def q5d : FuncId → List O → Option (Prop × O) := addT q5c 12 e12
noncomputable def e28 : List O → Option (Prop × O)
  | [.d x_l] => match decL 8 q0w x_l with
    | some l => some (l.length ≤ 1000000, .tup [.d (.sl 4 ((qek l).map qbr)), .d (.i .i64 (qbc l).2)])
    | _ => none
  | _ => none
noncomputable def q5e : FuncId → List O → Option (Prop × O) := addT q5d 28 e28
attribute [go_sem] qbck q8j qbcl q8k q4f e1_n e1_g qyg q8m q8l q10 q4g qbjp q8n qbcm aget q8o q8p q4h qbr5 q8q q11 qbjq q8r qbjr qbcn qbnu qbjs qbco q12 qbcp qbjt qyh qbcq qyi qbcr qbcs qxh qbct q4k q13 q4l qbju qbcv V.cells V.one D.one D.cells newObj nm HS.isFree HS.isLive q4d q4c List.map_cons List.map_nil Option.bind_some Option.bind_none putL List.cons_append List.nil_append qyl q8t q4m qtm qym qme true_and and_true qdp qgi cval Option.map_some Option.map_none loadAt storeAt ldV ldD mkAgg V.asD qcj List.take_succ_cons List.take_zero List.drop_succ_cons List.drop_zero List.getElem?_cons_zero List.getElem?_cons_succ List.getElem?_nil List.all_cons List.all_nil Bool.and_true Bool.true_and Bool.and_self List.length_cons List.length_nil vals qfg qgd argO toD3 toD2 toD1 toDs O.ok O.ok2 O.ok1 O.flat O.flat1 D.flat D.flatA inO inO2 inO1 inOs List.filterMap_nil List.filterMap_cons List.filter_nil List.filter_cons List.nodup_nil decide_true decide_false Bool.not_true Bool.not_false not_true_eq_false not_false_eq_true or_false false_or and_false false_and ne_eq List.append_nil optB qom qgu beq_self_eq_true List.mapM_cons List.mapM_nil Option.pure_def Option.bind_eq_bind true_or or_true or_self qei ite_self not_true not_false_iff ite_true ite_false if_true if_false Bool.false_eq_true Bool.true_eq_false List.any_nil List.any_cons List.contains_nil List.contains_cons eq_self qi5 qi7 qkt ql0 qku qm4 qj9 qgr qq4 lenOf binD qsu unD qpy q4j q4i qyj qkg qkh q20 qsv q8s qyk qbcu List.range_zero Nat.zero_le Nat.zero_mul Nat.zero_add Nat.add_zero List.length_append List.take_length List.isEmpty_nil List.isEmpty_cons V.neg List.flatMap_nil and_self List.range_succ forall_const implies_true Nat.not_lt_zero qyn q8u qbcw qxn qre qbcy q8v qgq qfp mvAt qm8 ql8 qbcx ole oles dle dles List.nodup_cons List.mem_cons List.not_mem_nil List.drop_length Nat.le_refl Nat.lt_irrefl id_eq Option.some.injEq Bool.or_false Bool.false_or Bool.or_self Bool.or_true Bool.true_or false_implies Bool.and_false Bool.false_and List.reverse_cons List.reverse_nil sh1 qq5 mget qij qgn qno qnm qnn Option.isSome_some Option.isSome_none Bool.cond_true_left Bool.cond_false_right Bool.cond_true_right Bool.cond_false_left beq_true beq_false Bool.not_not imp_self qk6 notB qsw qi4 qi8 qrc D.splice kEq Option.toList_some Option.toList_none adel List.getD_cons_zero List.getD_cons_succ qj4 bxId qi6 hget one1 qgg qhn
attribute [go_sem] sz3 ag3 zr3 zo3 zd3 by3 sl3 st3 bo3 pt3 ck3 sz5 ag5 zr5 zo5 zd5 by5 sl5 st5 bo5 pt5 ck5 sz4 ag4 zr4 zo4 zd4 by4 sl4 st4 bo4 pt4 sz9 ag9 zr9 zo9 zd9 by9 sl9 un9 st9 bo9 pt9 ck9 sz48 ag48 zr48 zd48 by48 sl48 st48 bo48 pt48 qbn3 qbn4 qbn5 qbn6 qbn7 qbn8 qbn9 qboa qbob qboc pl48 ek48 sz50 ag50 zr50 zd50 by50 sl50 st50 bo50 pt50 qbod qboe qbof qbog qboh qboi qboj qbok pl50 ek50 sz23 ag23 zr23 zo23 zd23 by23 el23 sl23 un23 st23 bo23 pt23 sz26 ag26 zr26 zo26 zd26 by26 sl26 st26 bo26 pt26 ck26 sz61 ag61 zr61 zd61 by61 sl61 st61 bo61 pt61 qbol qbom qbon qboo qbop qboq qbor qbos pl61 ek61 sz65 ag65 by65 sl65 st65 bo65 pt65 mt65 sz99 ag99 zr99 zo99 zd99 by99 sl99 st99 bo99 pt99 sz53 ag53 zr53 zo53 zd53 by53 el53 sl53 un53 st53 bo53 pt53 sz56 ag56 zr56 zo56 zd56 by56 el56 sl56 un56 st56 bo56 pt56 nc0 nc1 nc2 qbta qbtb qbtc qbtd qbte qbtf qbtg qbth qbti qbtj qbtk qbtl qbt6 qbt7 qbt8 qbt9 qbua qbub qbuc qbud qbue qbuf qbug qbuh qbui sz108 qbsg qbsh qbsi qbsj qbsk qbsl qbsm qbsn qbjz qbj0 qbj1 qbj2 qbj3 qbj4 qbso qbsp qbuj qbuk qbul qbum qbun qbuo qbup qbuq qbur qbkd qbke qbkf qbkg qbus qbut qbuu qbuv qbuw qbux qbuy qbuz qbu0 qbu1 qbu2 qbu3 qbu4 sz31 ag31 zr31 zo31 zd31 by31 el31 sl31 un31 st31 bo31 pt31 sz110 qbsq qbsr qbss qbst qbsu qbsv qbsw qbsx qbj5 qbj6 qbj7 qbj8 qbsy qbsz sz72 ag72 zr72 zo72 zd72 by72 el72 sl72 un72 st72 bo72 pt72 sz74 ag74 zr74 zd74 by74 sl74 st74 bo74 pt74 qbot qbou qbov qbow pl74 sz75 ag75 zr75 zo75 zd75 by75 el75 sl75 un75 st75 bo75 pt75 sz77 ag77 zr77 zd77 by77 sl77 st77 bo77 pt77 qbox qboy qboz qbo0 qbo1 qbo2 qbo3 qbo4 pl77 sz113 qbs0 qbs1 qbs2 qbs3 qbs4 qbs5 qbs6 qbs7 qbj9 qbka qbkb qbkc qbs8 qbs9 qbtm qbtn qbto qbtp qbtq qbtr qbts qbtt qbtu qbtv qbtw qbtx qbty qbtz qbt0 qbt1 qbt2 qbt3 qbt4 qbt5 sz78 ag78 zr78 zo78 zd78 by78 el78 sl78 un78 st78 bo78 pt78 sz80 ag80 zr80 zd80 by80 sl80 st80 bo80 pt80 qbo5 qbo6 qbo7 qbo8 pl80 sz104 qbr6 qbr7 qbr8 qbr9 qbsa qbsb qbsc qbsd qbjv qbjw qbjx qbjy qbse qbsf sz22 ag22 zr22 zo22 zd22 by22 el22 sl22 un22 st22 bo22 pt22 sz69 ag69 zr69 zo69 zd69 by69 el69 sl69 un69 st69 bo69 pt69 sz33 ag33 zr33 zd33 by33 sl33 st33 bo33 pt33 qbnv qbnw qbnx qbny qbnz qbn0 qbn1 qbn2 pl33
end Go.Ev

namespace Go.Ev
theorem q3g {l : List Entry} {file : ByteArray} {rrn : Int} (h : ¬(qbc l).2 = 0) : qg9 l file rrn = ([], (qbc l).2) := by rw [qg9, if_pos h]
theorem qso {l : List Entry} {file : ByteArray} {rrn : Int} (h : (qbc l).2 = 0) (h2 : qbb file = false) : qg9 l file rrn = ([], 7) := by rw [qg9, if_neg (fun e => e h), if_pos h2]
theorem q3h {l : List Entry} {file : ByteArray} {rrn : Int} (h : (qbc l).2 = 0) (h2 : qbb file = true) (h3 : rrn < 1 ∨ 60 < rrn) : qg9 l file rrn = ([], 3) := by rw [qg9, if_neg (fun e => e h), if_neg (by simp [h2]), if_pos h3]
theorem q85 {l : List Entry} {file : ByteArray} {rrn : Int} (h : (qbc l).2 = 0) (h2 : qbb file = true) (h3 : ¬(rrn < 1 ∨ 60 < rrn)) : qg9 l file rrn = (imgs file rrn l, 0) := by rw [qg9, if_neg (fun e => e h), if_neg (by simp [h2]), if_neg h3]
theorem qwd {l : List Entry} {file : ByteArray} {rrn : Int} {i : Nat} (h : i < l.length) (h1 : ¬((l.getD i q0q).kind = 0 ∧ (l.getD i q0q).change.file = file ∧ (l.getD i q0q).change.rrn = rrn)) : imgs file rrn (l.take (i + 1)) = imgs file rrn (l.take i) := by
  rw [qqo h, qiz, if_neg h1]
theorem qtw {l : List Entry} {file : ByteArray} {rrn : Int} {i : Nat} (h : i < l.length) (h1 : (l.getD i q0q).kind = 0 ∧ (l.getD i q0q).change.file = file ∧ (l.getD i q0q).change.rrn = rrn) (h2 : (imgs file rrn (l.take i)).length = 0) : imgs file rrn (l.take (i + 1)) = imgs file rrn (l.take i) ++ [(l.getD i q0q).change.before] ++ [(l.getD i q0q).change.after] := by
  have := List.eq_nil_of_length_eq_zero h2
  rw [qqo h, qiz, if_pos h1, this, if_pos rfl]; rfl
theorem qwe {l : List Entry} {file : ByteArray} {rrn : Int} {i : Nat} (h : i < l.length) (h1 : (l.getD i q0q).kind = 0 ∧ (l.getD i q0q).change.file = file ∧ (l.getD i q0q).change.rrn = rrn) (h2 : ¬(imgs file rrn (l.take i)).length = 0) : imgs file rrn (l.take (i + 1)) = imgs file rrn (l.take i) ++ [(l.getD i q0q).change.after] := by
  rw [qqo h, qiz, if_pos h1, if_neg (fun e => h2 (by rw [e]; rfl))]
theorem q5f (l : List Entry) (file : ByteArray) (rrn : Int) (i : Nat) : (imgs file rrn (l.take i)).length ≤ l.length + 1 := by
  have h := (qbdc file rrn (l.take i)).1
  have := List.length_take_le i l
  have : (l.take i).length ≤ l.length := by rw [List.length_take]; omega
  omega
theorem qma (l : List ByteArray) (k : Nat) : (l.map D.s).getD k (.s ⟨#[]⟩) = .s (l.getD k ⟨#[]⟩) := by
  simp only [List.getD, List.getElem?_map]
  cases l[k]? <;> rfl
theorem qwf (x : ByteArray) : decS (D.s x) = some x := rfl
theorem qqq (l : List ByteArray) : decL 1 decS (.sl 1 (l.map D.s)) = some l := qfr qwf l
theorem qqr (l : List ByteArray) : decM decS (l.map D.s) = some l := qfq qwf l
theorem q5g : qbc [⟨1, 1, 1, qba⟩, ⟨2, 0, 1, ⟨⟨#[70]⟩, 1, 1, ⟨#[65]⟩, ⟨#[66]⟩⟩⟩, ⟨3, 2, 1, qba⟩] = (0, 0) := by decide +kernel
theorem q2f : qek [⟨1, 1, 1, qba⟩, ⟨2, 0, 1, ⟨⟨#[70]⟩, 1, 1, ⟨#[65]⟩, ⟨#[66]⟩⟩⟩, ⟨3, 2, 1, qba⟩] = [⟨1, 1, 3, 0⟩] := by decide +kernel
theorem q2g : qg9 [⟨1, 1, 1, qba⟩, ⟨2, 0, 1, ⟨⟨#[70]⟩, 1, 1, ⟨#[65]⟩, ⟨#[66]⟩⟩⟩, ⟨3, 2, 1, qba⟩] ⟨#[70]⟩ 1 = ([⟨#[65]⟩, ⟨#[66]⟩], 0) := by decide +kernel
end Go.Ev
namespace Go.Ev
theorem qu5 {f : ByteArray} (h : (if qbb f = false then (7 : Int) else 0) = 0) : qbb f = true := by
  split at h
  · cases h
  · simpa using ‹¬qbb f = false›
theorem qrj {f : ByteArray} (h : ¬(if qbb f = false then (7 : Int) else 0) = 0) : qbb f = false := by
  split at h
  · assumption
  · exact absurd rfl h
theorem qbgw {α β : Type} {f : α → β} {l : List α} (h : (l.map f).isEmpty = true) : l.length = 0 := by
  rw [List.isEmpty_iff] at h
  have := congrArg List.length h
  simpa using this
theorem qbgx {α β : Type} {f : α → β} {l : List α} (h : (l.map f).isEmpty = false) : ¬l.length = 0 := by
  intro e
  have := List.eq_nil_of_length_eq_zero e
  subst this
  cases h
end Go.Ev

namespace Go.Ev
open Go.Proofs Ty
set_option maxRecDepth 10000
set_option maxHeartbeats 4000000
set_option linter.unusedSimpArgs false
set_option linter.unusedVariables false
noncomputable def e30 : List O → Option (Prop × O)
  | [.d x_a, .d x_b] => match decL 4 qe2 x_a, decL 4 qe2 x_b with
    | some a, some b => some (a.length ≤ 1000000, .d (.b (decide (a = b))))
    | _, _ => none
  | _ => none
noncomputable def q5h : FuncId → List O → Option (Prop × O) := addT q5e 30 e30
noncomputable def e31 : List O → Option (Prop × O)
  | [.d x_a, .d x_b] => match decL 1 decS x_a, decL 1 decS x_b with
    | some a, some b => some (a.length ≤ 1000000, .d (.b (decide (a = b))))
    | _, _ => none
  | _ => none
noncomputable def q5i : FuncId → List O → Option (Prop × O) := addT q5h 31 e31
noncomputable def e47 : List O → Option (Prop × O)
  | [.d (.s file)] => some (True, .d (.i .i64 (if qbb file = false then 7 else 0)))
  | _ => none
noncomputable def q5j : FuncId → List O → Option (Prop × O) := addT q5i 47 e47
noncomputable def e29 : List O → Option (Prop × O)
  | [.d x_l, .d (.s file), .d (.i .i64 rrn)] => match decL 8 q0w x_l with
    | some l => some (l.length ≤ 1000000, .tup [.d (.sl 1 ((qg9 l file rrn).1.map D.s)), .d (.i .i64 (qg9 l file rrn).2)])
    | _ => none
  | _ => none
noncomputable def q5k : FuncId → List O → Option (Prop × O) := addT q5j 29 e29
noncomputable def e8 : List O → Option (Prop × O)
  | [] => some (True, .d (.b true))
  | _ => none
noncomputable def tab8 : FuncId → List O → Option (Prop × O) := addT q5k 8 e8
end Go.Ev

namespace Go.Ev
def qbu : List Int → Int
  | [] => 0
  | e :: r => if e ≠ 0 then e else qbu r
theorem qtx {l : List Int} {i : Nat} (h : qbu (l.drop i) = qbu l) (hi : i < l.length) (h1 : ¬l.getD i 0 = 0) : qbu l = l.getD i 0 := by
  rw [← h, qe0 0 hi, qbu, if_pos h1]
theorem qwg {l : List Int} {i : Nat} (h : qbu (l.drop i) = qbu l) (hi : i < l.length) (h1 : l.getD i 0 = 0) : qbu (l.drop (i + 1)) = qbu l := by
  rw [qe0 0 hi, qbu, if_neg (fun e => e h1)] at h; exact h
theorem qty {l : List Int} {i : Nat} (h : qbu (l.drop i) = qbu l) (hi : l.length ≤ i) : qbu l = 0 := by
  rw [← h, List.drop_of_length_le hi]; rfl
def qbi (t : DType) : Int :=
  if t.kind = 0 then (if ¬(1 ≤ t.length ∧ t.length ≤ 256) then 18 else if t.scale ≠ 0 then 3 else 0)
  else if t.kind = 1 ∨ t.kind = 2 then (if ¬(1 ≤ t.length ∧ t.length ≤ 15) then 18 else if ¬(0 ≤ t.scale ∧ t.scale ≤ t.length) then 3 else 0)
  else if t.kind = 3 then (if ¬(t.length = 4 ∨ t.length = 9) then 18 else if ¬(0 ≤ t.scale ∧ t.scale ≤ t.length) then 3 else 0)
  else if t.kind = 4 then (if t.length ≠ 0 then 18 else if t.scale ≠ 0 then 3 else 0)
  else 4
def qet (t : DType) : Int := if t.kind = 1 then t.length / 2 + 1 else if t.kind = 3 then 2 + t.length / 9 * 2 else if t.kind = 4 then 16 else t.length
theorem qju {t : DType} (h : qbi t = 0) : 0 ≤ t.kind ∧ t.kind ≤ 4 ∧ 0 ≤ t.length ∧ t.length ≤ 256 ∧ (t.kind ≠ 0 → t.length ≤ 15) ∧ (t.kind ≠ 4 → 1 ≤ t.length) ∧ (t.kind = 3 → t.length = 4 ∨ t.length = 9) := by
  unfold qbi at h
  split at h
  · split at h
    · cases h
    · omega
  split at h
  · split at h
    · cases h
    · omega
  split at h
  · split at h
    · cases h
    · omega
  split at h
  · split at h
    · cases h
    · omega
  · cases h
theorem qlh {t : DType} (h : qbi t = 0) : 1 ≤ qet t ∧ qet t ≤ 256 := by
  have := qju h
  unfold qet
  split
  · omega
  split
  · omega
  split
  · omega
  · omega
def p10 (n : Int) : Int := 10 ^ (min n 18).toNat
theorem qtz (n : Int) : 1 ≤ p10 n ∧ p10 n ≤ 1000000000000000000 := by
  unfold p10
  have h : (min n 18).toNat ≤ 18 := by omega
  generalize (min n 18).toNat = k at h
  have h1 : (1 : Int) ≤ 10 ^ k := by
    have : 0 < (10 : Int) ^ k := Int.pow_pos (by decide)
    omega
  have h2 : (10 : Int) ^ k ≤ 10 ^ 18 := by
    have : (10 : Nat) ^ k ≤ 10 ^ 18 := Nat.pow_le_pow_right (by decide) h
    exact_mod_cast this
  omega
theorem qbdf {k : Nat} (h : k ≤ 18) : (1 : Int) ≤ 10 ^ k ∧ (10 : Int) ^ k ≤ 1000000000000000000 := by
  have := qtz (k : Int)
  unfold p10 at this
  have e : (min (k : Int) 18).toNat = k := by omega
  rwa [e] at this
def qiq (t : DType) (v : Val) : Int :=
  if qbi t ≠ 0 then qbi t else if t.kind = 4 then 17
  else if t.kind = 0 then (if v.n ≠ 0 then 5 else if (v.s.size : Int) ≠ t.length then 18 else 0)
  else if v.s ≠ ⟨#[]⟩ then 5 else if ¬(-(p10 t.length - 1) ≤ v.n ∧ v.n ≤ p10 t.length - 1) then 19 else 0
def binN (b : ByteArray) : Int := (b.data.toList.tail).foldl (fun n c => ior .i64 (IntKind.i64.wrap (n * 2 ^ 8)) (c.toNat : Int)) (IntKind.i8.wrap (chr b 0))
def hiB (c : Int) : Int := c.fdiv (2 ^ 4)
def loB (c : Int) : Int := iand .u8 c 15
def qfy (t : DType) (b : ByteArray) : Nat → List Int
  | 0 => []
  | i + 1 => qfy t b i ++ (if t.kind = 1 then [hiB (chr b i), loB (chr b i)] else [loB (chr b i)])
def qgk (t : DType) : Nat → List Int
  | 0 => []
  | i + 1 => qgk t i ++ (if t.kind = 1 then [(i : Int), (i : Int)] else [(i : Int)])
def qbq (t : DType) (b : ByteArray) : List Int × List Int :=
  if t.kind = 2 then (qfy t b b.size ++ [hiB (chr b (b.size - 1))], qgk t b.size ++ [(b.size : Int) - 1]) else (qfy t b b.size, qgk t b.size)
theorem qfw (t : DType) (b : ByteArray) : ∀ i, (qfy t b i).length = if t.kind = 1 then 2 * i else i
  | 0 => by simp [qfy]
  | i + 1 => by
    unfold qfy
    rw [List.length_append, qfw t b i]
    split <;> simp <;> omega
theorem qhw (t : DType) : ∀ i, (qgk t i).length = if t.kind = 1 then 2 * i else i
  | 0 => by simp [qgk]
  | i + 1 => by
    unfold qgk
    rw [List.length_append, qhw t i]
    split <;> simp <;> omega
theorem qpj (t : DType) (b : ByteArray) : (qbq t b).1.length = (if t.kind = 1 then 2 * b.size else if t.kind = 2 then b.size + 1 else b.size) ∧ (qbq t b).2.length = (qbq t b).1.length := by
  unfold qbq
  by_cases h2 : t.kind = 2
  · have h1 : ¬t.kind = 1 := by omega
    simp [qfw, qhw, h2]
  · by_cases h1 : t.kind = 1
    · simp [qfw, qhw, h1]
    · simp [qfw, qhw, h1, h2]
def qg4 (len : Int) (l at_ : List Int) (last : Int) : List Int → Nat → Int → Int × Int × Int
  | [], _, n => if l.getD last.toNat 0 < 10 then (0, at_.getD last.toNat 0, 21) else (if l.getD last.toNat 0 = 11 ∨ l.getD last.toNat 0 = 13 then IntKind.i64.wrap (0 - n) else n, 0, 0)
  | d :: r, i, n => if 9 < d ∨ (0 < d ∧ (i : Int) < last - len) then (0, at_.getD i 0, 21) else qg4 len l at_ last r (i + 1) (IntKind.i64.wrap (IntKind.i64.wrap (n * 10) + IntKind.i64.wrap d))
def decN (t : DType) (b : ByteArray) : Int × Int × Int :=
  qg4 t.length (qbq t b).1 (qbq t b).2 ((qbq t b).1.length - 1) ((qbq t b).1.take ((qbq t b).1.length - 1)) 0 0
def qdg (t : DType) (b : ByteArray) : Val × Int × Int :=
  if qbi t ≠ 0 then (zVal, 0, qbi t) else if t.kind = 4 then (zVal, 0, 17) else if (b.size : Int) ≠ qet t then (zVal, 0, 18)
  else if t.kind = 0 then (⟨0, b⟩, 0, 0)
  else if t.kind = 3 then (if qiq t ⟨binN b, ⟨#[]⟩⟩ ≠ 0 then (zVal, 0, qiq t ⟨binN b, ⟨#[]⟩⟩) else (⟨binN b, ⟨#[]⟩⟩, 0, 0))
  else (⟨(decN t b).1, ⟨#[]⟩⟩, (decN t b).2.1, (decN t b).2.2)
def qmq (b : ByteArray) (i : Nat) : Int := ((b.data.toList.tail).take i).foldl (fun n c => ior .i64 (IntKind.i64.wrap (n * 2 ^ 8)) (c.toNat : Int)) (IntKind.i8.wrap (chr b 0))
theorem qsp (b : ByteArray) : (b.extract 1 b.size).size = b.size - 1 := by rw [ByteArray.size_extract]; omega
theorem qbkm (b : ByteArray) (i : Nat) (h : i < b.size - 1) : chr (b.extract 1 b.size) i = chr b (i + 1) := by
  unfold chr
  congr 2
  have : (b.extract 1 b.size).data = b.data.extract 1 b.size := by simp
  rw [this]
  simp only [List.getD_eq_getElem?_getD, Array.getElem?_toList]
  congr 1
  have hs : b.data.size = b.size := rfl
  rw [Array.getElem?_extract]
  rw [if_pos (by omega), Nat.add_comm]
theorem qk1 (b : ByteArray) (i : Nat) (h : i < b.size - 1) : qmq b (i + 1) = ior .i64 (IntKind.i64.wrap (qmq b i * 2 ^ 8)) (chr b (i + 1)) := by
  unfold qmq
  have hs : b.data.toList.tail.length = b.size - 1 := by rw [List.length_tail, Array.length_toList]; rfl
  rw [qdy 0 (by omega), List.foldl_append]
  simp only [List.foldl_cons, List.foldl_nil]
  congr 1
  unfold chr
  simp [List.getD, List.getElem?_tail]
theorem qqs (b : ByteArray) (i : Nat) (h : b.size - 1 ≤ i) : qmq b i = binN b := by
  unfold qmq binN
  have hs : b.data.toList.tail.length = b.size - 1 := by rw [List.length_tail, Array.length_toList]; rfl
  rw [List.take_of_length_le (by omega)]
theorem q3i {n : Int} {i : Nat} (h1 : (i : Int) ≤ max 0 (min n 18)) (h2 : min n 18 ≤ (i : Int)) : p10 n = 10 ^ i := by
  unfold p10; congr 1; omega
theorem qy5 {i : Nat} (h : i < 18) : (10 : Int) ^ (i + 1) = IntKind.i64.wrap (10 ^ i * 10) := by
  have := qbdf (k := i + 1) (by omega)
  rw [Int.pow_succ] at this ⊢
  rw [w64 (by omega) (by omega)]
theorem qsb {n : Int} (h0 : 0 ≤ n) (h : n ≤ 256) : IntKind.i64.wrap (IntKind.i64.wrap (n.tdiv 2) + 1) = n / 2 + 1 := by
  rw [Int.tdiv_eq_ediv_of_nonneg h0, w64 (n := n / 2) (by omega) (by omega), w64 (by omega) (by omega)]
theorem q2h {n : Int} (h0 : 0 ≤ n) (h : n ≤ 256) : IntKind.i64.wrap (2 + IntKind.i64.wrap (IntKind.i64.wrap (n.tdiv 9) * 2)) = 2 + n / 9 * 2 := by
  rw [Int.tdiv_eq_ediv_of_nonneg h0, w64 (n := n / 9) (by omega) (by omega), w64 (n := n / 9 * 2) (by omega) (by omega), w64 (by omega) (by omega)]
theorem qu6 {t : DType} {b : ByteArray} {i : Nat} (h : t.kind = 1) : qfy t b (i + 1) = qfy t b i ++ [hiB (chr b i), loB (chr b i)] := by rw [qfy, if_pos h]
theorem qu7 {t : DType} {b : ByteArray} {i : Nat} (h : ¬t.kind = 1) : qfy t b (i + 1) = qfy t b i ++ [loB (chr b i)] := by rw [qfy, if_neg h]
theorem qu8 {t : DType} {i : Nat} (h : t.kind = 1) : qgk t (i + 1) = qgk t i ++ [(i : Int), (i : Int)] := by rw [qgk, if_pos h]
theorem qu9 {t : DType} {i : Nat} (h : ¬t.kind = 1) : qgk t (i + 1) = qgk t i ++ [(i : Int)] := by rw [qgk, if_neg h]
theorem qli {t : DType} {b : ByteArray} (h : t.kind = 2) : qbq t b = (qfy t b b.size ++ [hiB (chr b (b.size - 1))], qgk t b.size ++ [(b.size : Int) - 1]) := by rw [qbq, if_pos h]
theorem qnf {t : DType} {b : ByteArray} (h : ¬t.kind = 2) : qbq t b = (qfy t b b.size, qgk t b.size) := by rw [qbq, if_neg h]
end Go.Ev
namespace Go.Ev
theorem q3j (n : Int) : -128 ≤ IntKind.i8.wrap n ∧ IntKind.i8.wrap n ≤ 127 := by
  unfold IntKind.wrap
  simp only [IntKind.bits, IntKind.signed, Bool.true_and]
  split <;> rename_i h <;> simp only [decide_eq_true_eq, ge_iff_le] at h <;> omega
end Go.Ev
namespace Go.Ev
section
variable {len last n : Int} {l a r : List Int} {i : Nat} {c : Int × Int × Int}
theorem q86 (h : qg4 len l a last (r.drop i) i n = c) (hi : i < r.length) (h1 : 9 < r.getD i 0 ∨ (0 < r.getD i 0 ∧ (i : Int) < last - len)) : c = (0, a.getD i 0, 21) := by
  rw [← h, qe0 0 hi, qg4, if_pos h1]
theorem q5l (h : qg4 len l a last (r.drop i) i n = c) (hi : i < r.length) (h1 : ¬(9 < r.getD i 0 ∨ (0 < r.getD i 0 ∧ (i : Int) < last - len))) : qg4 len l a last (r.drop (i + 1)) (i + 1) (IntKind.i64.wrap (IntKind.i64.wrap (n * 10) + IntKind.i64.wrap (r.getD i 0))) = c := by
  rw [qe0 0 hi, qg4, if_neg h1] at h; exact h
theorem q5m (h : qg4 len l a last (r.drop i) i n = c) (hi : r.length ≤ i) (h1 : l.getD last.toNat 0 < 10) : c = (0, a.getD last.toNat 0, 21) := by
  rw [← h, List.drop_of_length_le hi, qg4, if_pos h1]
theorem q5n (h : qg4 len l a last (r.drop i) i n = c) (hi : r.length ≤ i) (h1 : ¬l.getD last.toNat 0 < 10) (h2 : l.getD last.toNat 0 = 11 ∨ l.getD last.toNat 0 = 13) : c = (IntKind.i64.wrap (0 - n), 0, 0) := by
  rw [← h, List.drop_of_length_le hi, qg4, if_neg h1, if_pos h2]
theorem q5o (h : qg4 len l a last (r.drop i) i n = c) (hi : r.length ≤ i) (h1 : ¬l.getD last.toNat 0 < 10) (h2 : ¬(l.getD last.toNat 0 = 11 ∨ l.getD last.toNat 0 = 13)) : c = (n, 0, 0) := by
  rw [← h, List.drop_of_length_le hi, qg4, if_neg h1, if_neg h2]
end
end Go.Ev

namespace Go.Ev
open Go.Proofs Ty
set_option maxRecDepth 10000
set_option maxHeartbeats 4000000
set_option linter.unusedSimpArgs false
set_option linter.unusedVariables false
noncomputable def e185 : List O → Option (Prop × O)
  | [.d (.i .i64 n), .d (.i .i64 lo), .d (.i .i64 hi)] => some (True, .d (.b (decide (lo ≤ n) && decide (n ≤ hi))))
  | _ => none
noncomputable def qy6 : FuncId → List O → Option (Prop × O) := addT tab8 185 e185
noncomputable def e187 : List O → Option (Prop × O)
  | [.d (.b b), .d (.i .i64 e)] => some (True, .d (.i .i64 (if b = true then e else 0)))
  | _ => none
noncomputable def qy7 : FuncId → List O → Option (Prop × O) := addT qy6 187 e187
noncomputable def e186 : List O → Option (Prop × O)
  | [.d x_l] => match decL 1 (decI .i64) x_l with
    | some l => some (l.length ≤ 1000000, .d (.i .i64 (qbu l)))
    | _ => none
  | _ => none
noncomputable def qy8 : FuncId → List O → Option (Prop × O) := addT qy7 186 e186
noncomputable def e119 : List O → Option (Prop × O)
  | [.d (.b b), .d (.i .i64 e)] => some (True, .d (.i .i64 (if b = true then e else 0)))
  | _ => none
noncomputable def qy9 : FuncId → List O → Option (Prop × O) := addT qy8 119 e119
noncomputable def e117 : List O → Option (Prop × O)
  | [.d x_l] => match decL 1 (decI .i64) x_l with
    | some l => some (l.length ≤ 1000000, .d (.i .i64 (qbu l)))
    | _ => none
  | _ => none
noncomputable def qza : FuncId → List O → Option (Prop × O) := addT qy9 117 e117
noncomputable def e152 : List O → Option (Prop × O)
  | [.d (.s s)] => some (True, .d (.b (qbb s)))
  | _ => none
noncomputable def qzb : FuncId → List O → Option (Prop × O) := addT qza 152 e152
noncomputable def e172 : List O → Option (Prop × O)
  | [.d x_t] => match qbg x_t with
    | some t => some (True, .d (.i .i64 (qbi t)))
    | _ => none
  | _ => none
noncomputable def qzc : FuncId → List O → Option (Prop × O) := addT qzb 172 e172
noncomputable def e188 : List O → Option (Prop × O)
  | [.d x_t] => match qbg x_t with
    | some t => some (qbi t = 0, .d (.i .i64 (qet t)))
    | _ => none
  | _ => none
noncomputable def qzd : FuncId → List O → Option (Prop × O) := addT qzc 188 e188
noncomputable def e173 : List O → Option (Prop × O)
  | [.d x_t] => match qbg x_t with
    | some t => some (True, .tup [.d (.i .i64 (if qbi t = 0 then qet t else 0)), .d (.i .i64 (qbi t))])
    | _ => none
  | _ => none
noncomputable def qze : FuncId → List O → Option (Prop × O) := addT qzd 173 e173
noncomputable def e197 : List O → Option (Prop × O)
  | [.d (.i .i64 n)] => some (True, .d (.i .i64 (p10 n)))
  | _ => none
noncomputable def qzf : FuncId → List O → Option (Prop × O) := addT qze 197 e197
noncomputable def e190 : List O → Option (Prop × O)
  | [.d x_t, .d x_v] => match qbg x_t, qda x_v with
    | some t, some v => some (True, .d (.i .i64 (qiq t v)))
    | _, _ => none
  | _ => none
noncomputable def qzg : FuncId → List O → Option (Prop × O) := addT qzf 190 e190
noncomputable def e189 : List O → Option (Prop × O)
  | [.d (.s b)] => some (0 < b.size ∧ b.size ≤ 1000, .d (.i .i64 (binN b)))
  | _ => none
noncomputable def qzh : FuncId → List O → Option (Prop × O) := addT qzg 189 e189
noncomputable def e198 : List O → Option (Prop × O)
  | [.d x_t, .d (.s b)] => match qbg x_t with
    | some t => some (0 < b.size ∧ b.size ≤ 1000, .tup [.d (.sl 1 ((qbq t b).1.map (D.i .u8))), .d (.sl 1 ((qbq t b).2.map (D.i .i64)))])
    | _ => none
  | _ => none
noncomputable def qzi : FuncId → List O → Option (Prop × O) := addT qzh 198 e198
noncomputable def e191 : List O → Option (Prop × O)
  | [.d x_t, .d (.s b)] => match qbg x_t with
    | some t => some (0 < b.size ∧ b.size ≤ 1000 ∧ 0 ≤ t.length ∧ t.length ≤ 1000, .tup [.d (.i .i64 (decN t b).1), .d (.i .i64 (decN t b).2.1), .d (.i .i64 (decN t b).2.2)])
    | _ => none
  | _ => none
noncomputable def qzj : FuncId → List O → Option (Prop × O) := addT qzi 191 e191
noncomputable def e174 : List O → Option (Prop × O)
  | [.d x_t, .d (.s b)] => match qbg x_t with
    | some t => some (True, .tup [.d (qb6 (qdg t b).1), .d (.i .i64 (qdg t b).2.1), .d (.i .i64 (qdg t b).2.2)])
    | _ => none
  | _ => none
noncomputable def qzk : FuncId → List O → Option (Prop × O) := addT qzj 174 e174
end Go.Ev

namespace Go.Ev
def qdc (g : Nat → Int) (n : Nat) : Option Nat := (List.range n).find? fun i => decide (g i ≠ 0)
theorem qel {g : Nat → Int} {n i : Nat} (h : ∀ j, j < i → g j = 0) (hi : i < n) (hg : ¬g i = 0) : qdc g n = some i := by
  unfold qdc
  rw [List.find?_eq_some_iff_getElem]
  refine ⟨by simpa using hg, i, by simpa using hi, by simp, fun j hj => ?_⟩
  simp [h j hj]
theorem qd5 {g : Nat → Int} {n : Nat} (h : ∀ j, j < n → g j = 0) : qdc g n = none := by
  unfold qdc
  rw [List.find?_eq_none]
  intro j hj
  simp [h j (List.mem_range.1 hj)]
theorem qe3 {g : Nat → Int} {i : Nat} (h : ∀ j, j < i → g j = 0) (hg : g i = 0) : ∀ j, j < i + 1 → g j = 0 := fun j hj => by
  by_cases e : j = i
  · subst e; exact hg
  · exact h j (by omega)
def qfl (x : Field) : Int := if qbi x.type_ = 0 then qet x.type_ else 0
theorem qik (x : Field) : 0 ≤ qfl x ∧ qfl x ≤ 256 := by
  unfold qfl
  split
  · have := qlh (t := x.type_) (by assumption); omega
  · omega
def qb8 (l : List Field) : Nat → Int
  | 0 => 0
  | i + 1 => qb8 l i + qfl (l.getD i q02)
theorem qgh (l : List Field) : ∀ i, 0 ≤ qb8 l i ∧ qb8 l i ≤ 256 * (i : Int)
  | 0 => by simp [qb8]
  | i + 1 => by
    have h1 := qgh l i
    have h2 := qik (l.getD i q02)
    simp only [qb8]
    omega
def idxF (l : List Field) (name : ByteArray) : Option Nat := l.findIdx? fun x => decide (x.name = name)
def atF (l : List Field) (name : ByteArray) : Int × Int × Bool := match idxF l name with
  | some i => (i, qb8 l i, true)
  | none => (0, 0, false)
theorem qbkn {l : List Field} {name : ByteArray} {i : Nat} (h : idxF (l.take i) name = none) (hi : i < l.length) (e : (l.getD i q02).name = name) : atF l name = ((i : Int), qb8 l i, true) := by
  unfold atF
  have : idxF l name = some i := by
    unfold idxF at h ⊢
    rw [← List.take_append_drop i l, List.findIdx?_append, h, qe0 q02 hi, List.findIdx?_cons]
    have hl : (l.take i).length = i := by rw [List.length_take]; omega
    have e' : decide ((l.getD i q02).name = name) = true := by simpa using e
    rw [e', hl, if_pos rfl]
    simp
  rw [this]
theorem qwh {l : List Field} {name : ByteArray} {i : Nat} (h : idxF (l.take i) name = none) (hi : i < l.length) (e : ¬(l.getD i q02).name = name) : idxF (l.take (i + 1)) name = none := by
  unfold idxF at h ⊢
  rw [qdy q02 hi, List.findIdx?_append, h]
  simp [List.findIdx?_cons, e] at e ⊢
  exact e
theorem qbpc {l : List Field} {name : ByteArray} {i : Nat} (h : idxF (l.take i) name = none) (hi : l.length ≤ i) : atF l name = (0, 0, false) := by
  rw [List.take_of_length_le hi] at h
  unfold atF; rw [h]
def qeg (l : List Field) (i : Nat) : Int :=
  if qbb (l.getD i q02).name = false then 7 else if (atF (l.take i) (l.getD i q02).name).2.2 = true then 13
  else if qbi (l.getD i q02).type_ ≠ 0 then qbi (l.getD i q02).type_ else if (l.getD i q02).type_.kind = 4 then 17 else 0
def qca (f : Fmt) : Int × Int :=
  if qbb f.name = false then (0, 7) else if f.fields.length = 0 then (0, 1) else if 20 < f.fields.length then (0, 2)
  else match qdc (qeg f.fields) f.fields.length with
    | some i => (i, qeg f.fields i)
    | none => (0, if 200 < qb8 f.fields f.fields.length then 18 else 0)
theorem qbko {f : Fmt} {i : Nat} (h0 : qbb f.name = true ∧ 1 ≤ f.fields.length ∧ f.fields.length ≤ 20) (h : ∀ j, j < i → qeg f.fields j = 0) (hi : i < f.fields.length) (hg : ¬qeg f.fields i = 0) : qca f = ((i : Int), qeg f.fields i) := by
  unfold qca
  rw [if_neg (by simp [h0.1]), if_neg (by omega), if_neg (by omega), qel h hi hg]
theorem q3k {f : Fmt} {i : Nat} (h0 : qbb f.name = true ∧ 1 ≤ f.fields.length ∧ f.fields.length ≤ 20) (h : ∀ j, j < i → qeg f.fields j = 0) (hi : f.fields.length ≤ i) : qca f = (0, if 200 < qb8 f.fields f.fields.length then 18 else 0) := by
  unfold qca
  rw [if_neg (by simp [h0.1]), if_neg (by omega), if_neg (by omega), qd5 fun j hj => h j (by omega)]
theorem q87 {f : Fmt} (h : (qca f).2 = 0) : qbb f.name = true ∧ 1 ≤ f.fields.length ∧ f.fields.length ≤ 20 ∧ (∀ j, j < f.fields.length → qeg f.fields j = 0) ∧ qb8 f.fields f.fields.length ≤ 200 ∧ (qca f).1 = 0 := by
  have hd := h
  unfold qca at h
  split at h
  · cases h
  split at h
  · cases h
  split at h
  · cases h
  rename_i h1 h2 h3
  split at h
  · rename_i i hi
    unfold qdc at hi
    have := List.find?_some hi
    simp at this
    exact absurd h this
  · rename_i hn
    split at h
    · cases h
    · rename_i h4
      unfold qdc at hn
      rw [List.find?_eq_none] at hn
      refine ⟨by simpa using h1, by omega, by omega, fun j hj => ?_, by omega, ?_⟩
      · have := hn j (List.mem_range.2 hj)
        simpa using this
      · unfold qca
        rw [if_neg h1, if_neg h2, if_neg h3, qd5 fun j hj => by have := hn j (List.mem_range.2 hj); simpa using this]
theorem qwi {l : List Field} {i : Nat} (h : qeg l i = 0) : qbi (l.getD i q02).type_ = 0 ∧ (l.getD i q02).type_.kind ≠ 4 := by
  unfold qeg at h
  split at h
  · cases h
  split at h
  · cases h
  split at h
  · rename_i h3; exact absurd h h3
  split at h
  · cases h
  · rename_i h3 h4; exact ⟨by omega, h4⟩
def qlj (f : Fmt) : Int := if qbb f.name = false then 7 else if f.fields.length = 0 then 1 else if 20 < f.fields.length then 2 else 0
theorem qbkp (f : Fmt) : qbu [if qbb f.name = false then 7 else 0, if (f.fields.length : Int) = 0 then 1 else 0, if 20 < (f.fields.length : Int) then 2 else 0] = qlj f := by
  simp only [qbu, qlj]
  (repeat' split) <;> first | rfl | omega | (exfalso; omega) | simp_all
theorem qzl {f : Fmt} (h : ¬qlj f = 0) : qca f = (0, qlj f) := by
  unfold qlj at h ⊢
  unfold qca
  split
  · rfl
  split
  · rfl
  split
  · rfl
  · simp_all
theorem qva {f : Fmt} (h : qlj f = 0) : qbb f.name = true ∧ 1 ≤ f.fields.length ∧ f.fields.length ≤ 20 := by
  unfold qlj at h
  split at h
  · cases h
  split at h
  · cases h
  split at h
  · cases h
  · exact ⟨by simpa using ‹¬qbb f.name = false›, by omega, by omega⟩
theorem qbpd (l : List Field) (i : Nat) : qbu [if qbb (l.getD i q02).name = false then 7 else 0, if (atF (l.take i) (l.getD i q02).name).2.2 = true then 13 else 0, qbi (l.getD i q02).type_, if (l.getD i q02).type_.kind = 4 then 17 else 0] = qeg l i := by
  simp only [qbu, qeg]
  (repeat' split) <;> first | rfl | omega | (exfalso; omega) | simp_all
def qkd (f : File) : Int := if qbb f.name = false then 7 else if (qca f.format).2 ≠ 0 then (qca f.format).2 else if 4 < f.keys.length then 2 else 0
theorem qbdg (f : File) : qbu [if qbb f.name = false then 7 else 0, (qca f.format).2, if 4 < (f.keys.length : Int) then 2 else 0] = qkd f := by
  simp only [qbu, qkd]
  (repeat' split) <;> first | rfl | omega | (exfalso; omega) | simp_all
def keyE (f : File) (i : Nat) : Int :=
  if (atF f.format.fields (f.keys.getD i qdm).name).2.2 = false then 11 else if (f.keys.take i).any (fun k => decide (k.name = (f.keys.getD i qdm).name)) = true then 13 else 0
def qch (f : File) : Int × Int :=
  if qbb f.name = false then (0, 7) else if (qca f.format).2 ≠ 0 then (0, (qca f.format).2) else if 4 < f.keys.length then (0, 2)
  else match qdc (keyE f) f.keys.length with
    | some i => (i, keyE f i)
    | none => (0, 0)
theorem qbdh {f : File} {i : Nat} (h0 : qbb f.name = true ∧ (qca f.format).2 = 0 ∧ f.keys.length ≤ 4) (h : ∀ j, j < i → keyE f j = 0) (hi : i < f.keys.length) (hg : ¬keyE f i = 0) : qch f = ((i : Int), keyE f i) := by
  unfold qch
  rw [if_neg (by simp [h0.1]), if_neg (fun e => e h0.2.1), if_neg (by omega), qel h hi hg]
theorem qbdi {f : File} {i : Nat} (h0 : qbb f.name = true ∧ (qca f.format).2 = 0 ∧ f.keys.length ≤ 4) (h : ∀ j, j < i → keyE f j = 0) (hi : f.keys.length ≤ i) : qch f = (0, 0) := by
  unfold qch
  rw [if_neg (by simp [h0.1]), if_neg (fun e => e h0.2.1), if_neg (by omega), qd5 fun j hj => h j (by omega)]
def qpk (f : Fmt) (b : ByteArray) (i : Nat) : ByteArray := b.extract (qb8 f.fields i).toNat (qb8 f.fields (i + 1)).toNat
def q5p (f : Fmt) (b : ByteArray) (i : Nat) : Val × Int × Int := qdg (f.fields.getD i q02).type_ (qpk f b i)
def qj5 (f : Fmt) (b : ByteArray) (i : Nat) : Int := (q5p f b i).2.2
def qj3 (f : Fmt) (b : ByteArray) : Nat → List Val
  | 0 => []
  | i + 1 => qj3 f b i ++ [(q5p f b i).1]
theorem qt0 (f : Fmt) (b : ByteArray) : ∀ i, (qj3 f b i).length = i
  | 0 => rfl
  | i + 1 => by simp [qj3, qt0 f b i]
def qgx (f : Fmt) (b : ByteArray) : List Val × Int × Int := match qdc (qj5 f b) f.fields.length with
  | some i => ([], i, qj5 f b i)
  | none => (qj3 f b f.fields.length, 0, 0)
theorem qvb {f : Fmt} {b : ByteArray} {i : Nat} (h : ∀ j, j < i → qj5 f b j = 0) (hi : i < f.fields.length) (hg : ¬qj5 f b i = 0) : qgx f b = ([], (i : Int), qj5 f b i) := by
  unfold qgx
  rw [qel h hi hg]
theorem qvc {f : Fmt} {b : ByteArray} {i : Nat} (h : ∀ j, j < i → qj5 f b j = 0) (hi : f.fields.length ≤ i) : qgx f b = (qj3 f b f.fields.length, 0, 0) := by
  unfold qgx
  rw [qd5 fun j hj => h j (by omega)]
def qfc (f : Fmt) : Int := qb8 f.fields f.fields.length
def qdh (f : Fmt) (b : ByteArray) : List Val × Int × Int :=
  if (qca f).2 ≠ 0 then ([], 0, (qca f).2) else if (b.size : Int) ≠ qfc f then ([], 0, 18) else qgx f b
def recE (t : Table) (i : Nat) : Int :=
  if (t.records.getD i zRec).deleted = true then (if (t.records.getD i zRec).bytes ≠ ⟨#[]⟩ then 5 else 0) else (qdh t.file.format (t.records.getD i zRec).bytes).2.2
def q09 (t : Table) : Int × Int :=
  if (qch t.file).2 ≠ 0 then (0, (qch t.file).2) else if 60 < t.records.length then (0, 2)
  else match qdc (recE t) t.records.length with
    | some i => (i, recE t i)
    | none => (0, 0)
theorem qn0 {t : Table} {i : Nat} (h0 : (qch t.file).2 = 0 ∧ t.records.length ≤ 60) (h : ∀ j, j < i → recE t j = 0) (hi : i < t.records.length) (hg : ¬recE t i = 0) : q09 t = ((i : Int), recE t i) := by
  unfold q09
  rw [if_neg (fun e => e h0.1), if_neg (by omega), qel h hi hg]
theorem qwj {t : Table} {i : Nat} (h0 : (qch t.file).2 = 0 ∧ t.records.length ≤ 60) (h : ∀ j, j < i → recE t j = 0) (hi : t.records.length ≤ i) : q09 t = (0, 0) := by
  unfold q09
  rw [if_neg (fun e => e h0.1), if_neg (by omega), qd5 fun j hj => h j (by omega)]
theorem qwk {f : File} (h : ¬qkd f = 0) : qch f = (0, qkd f) := by
  unfold qkd at h ⊢
  unfold qch
  split
  · rfl
  split
  · rfl
  split
  · rfl
  · simp_all
theorem qsq {f : File} (h : qkd f = 0) : qbb f.name = true ∧ (qca f.format).2 = 0 ∧ f.keys.length ≤ 4 := by
  unfold qkd at h
  split at h
  · cases h
  split at h
  · rename_i h2; exact absurd h h2
  split at h
  · cases h
  · exact ⟨by simpa using ‹¬qbb f.name = false›, by omega, by omega⟩
theorem q88 (f : File) (i : Nat) : qbu [if (atF f.format.fields (f.keys.getD i qdm).name).2.2 = false then 11 else 0, if (f.keys.take i).any (fun k => decide (k.name = (f.keys.getD i qdm).name)) = true then 13 else 0] = keyE f i := by
  simp only [qbu, keyE]
  (repeat' split) <;> first | rfl | omega | (exfalso; omega) | simp_all
def qlk (t : Table) : Int := if (qch t.file).2 ≠ 0 then (qch t.file).2 else if 60 < t.records.length then 2 else 0
theorem qbdj (t : Table) : qbu [(qch t.file).2, if 60 < (t.records.length : Int) then 2 else 0] = qlk t := by
  simp only [qbu, qlk]
  (repeat' split) <;> first | rfl | omega | (exfalso; omega) | simp_all
theorem qzm {t : Table} (h : ¬qlk t = 0) : q09 t = (0, qlk t) := by
  unfold qlk at h ⊢
  unfold q09
  split
  · rfl
  split
  · rfl
  · simp_all
theorem qzn {t : Table} (h : qlk t = 0) : (qch t.file).2 = 0 ∧ t.records.length ≤ 60 := by
  unfold qlk at h
  split at h
  · rename_i h2; exact absurd h h2
  split at h
  · cases h
  · exact ⟨by omega, by omega⟩
end Go.Ev
namespace Go.Ev
def keyD (k : KField) : D := .s k.name
def qhk (l : List KField) : List V := (l.map fun _ => D.b true).map V.d
theorem qt1 (l : List KField) (n : ByteArray) : (qer (l.map keyD) (.s n)).isSome = l.any (fun k => decide (k.name = n)) := by
  induction l with
  | nil => rfl
  | cons k l ih =>
    have hk : kEq (keyD k) (.s n) = decide (k.name = n) := qdq _ _
    rw [List.map_cons, List.any_cons]
    unfold qer
    by_cases e : k.name = n
    · rw [if_pos (by rw [hk]; simpa using e)]; simp [e]
    · have e' : decide (k.name = n) = false := by simpa using e
      rw [if_neg (by rw [hk, e']; simp), Option.isSome_map, e', Bool.false_or]
      exact ih
theorem qwl : ∀ {l : List KField} {n : ByteArray} {i : Nat}, qer (l.map keyD) (.s n) = some i → i < l.length
  | [], _, _, h => by cases h
  | k :: l, n, i, h => by
    simp only [List.map_cons, qer] at h
    split at h
    · cases h; simp
    · rw [Option.map_eq_some_iff] at h
      obtain ⟨j, hj, rfl⟩ := h
      have := qwl hj
      simp only [List.length_cons]; omega
theorem qbdk (l : List KField) (n : ByteArray) : qq5 (.b false) (l.map keyD) (qhk l) (.s n) = some (.b (l.any fun k => decide (k.name = n))) := by
  unfold qq5
  rw [← qt1]
  cases h : qer (l.map keyD) (.s n) with
  | none => rfl
  | some i =>
    have hl := qwl h
    have : (qhk l).getD i (.d .np) = .d (.b true) := by
      unfold qhk
      simp [List.getD, hl]
    simp only [this, Option.isSome_some]
theorem qt2 (l : List KField) (k : KField) : qhk (l ++ [k]) = qhk l ++ [V.d (.b true)] := by simp [qhk]
theorem qbdl (l : List KField) : ∀ v ∈ qhk l, sh1 (.b false) v = true := by
  intro v hv
  unfold qhk at hv
  simp only [List.map_map, List.mem_map] at hv
  obtain ⟨_, _, rfl⟩ := hv
  rfl
theorem qod {l : List KField} {n : ByteArray} (h : ¬l.any (fun k => decide (k.name = n)) = true) : qer (l.map keyD) (.s n) = none := by
  rw [← qt1] at h
  cases hx : qer (l.map keyD) (.s n) with
  | none => rfl
  | some i => rw [hx] at h; exact absurd rfl h
theorem qvd {f : File} {i : Nat} (h : keyE f i = 0) : ¬(f.keys.take i).any (fun k => decide (k.name = (f.keys.getD i qdm).name)) = true := by
  intro hc
  unfold keyE at h
  rw [if_pos hc] at h
  split at h <;> cases h
theorem qwm {f : File} {i : Nat} (hi : i < f.keys.length) (h : keyE f i = 0) : qnm ((f.keys.take i).map keyD) (.s (f.keys.getD i qdm).name) = (f.keys.take (i + 1)).map keyD := by
  unfold qnm
  rw [qod (qvd h), qdy qdm hi, List.map_append]
  rfl
theorem q5q {f : File} {i : Nat} (hi : i < f.keys.length) (h : keyE f i = 0) : qnn ((f.keys.take i).map keyD) (qhk (f.keys.take i)) (.s (f.keys.getD i qdm).name) (.d (.b true)) = qhk (f.keys.take (i + 1)) := by
  unfold qnn
  rw [qod (qvd h), qdy qdm hi, qt2]
theorem q2i {f : File} {i : Nat} (hi : i < f.keys.length) : qhk (f.keys.take i) ++ [V.d (.b true)] = qhk (f.keys.take (i + 1)) := by rw [qdy qdm hi, qt2]
theorem q2j {f : File} {i : Nat} (hi : i < f.keys.length) : (f.keys.take i).map keyD ++ [.s (f.keys.getD i qdm).name] = (f.keys.take (i + 1)).map keyD := by rw [qdy qdm hi, List.map_append]; rfl
end Go.Ev
namespace Go.Ev
theorem q3l : ∀ (l m : List D), qjs (l.map V.d) (m.map V.d) = []
  | [], m => by cases m <;> simp [qjs]
  | a :: l, [] => by simp [qjs]
  | a :: l, b :: m => by
    simp only [List.map_cons, qjs, rhoV, List.nil_append]
    exact q3l l m
theorem q5r (l m : List KField) : qjs (qhk l) (qhk m) = [] := q3l _ _
theorem qbdm {ρ : Nat → Option Nat} {nf : Nat → Prop} (l : List KField) : vss ρ nf (qhk l) (qhk l) = True := eq_true (by
  unfold qhk
  generalize (l.map fun _ => D.b true) = m
  induction m with
  | nil => trivial
  | cons d m ih =>
    simp only [List.map_cons, vss, vs]
    exact ⟨q01 d, ih⟩)
theorem qt3 (l : List Field) (i : Nat) : ∀ j, i ≤ j → qb8 l i ≤ qb8 l j
  | 0, h => by rw [show i = 0 by omega]; exact Int.le_refl _
  | j + 1, h => by
    by_cases e : i = j + 1
    · rw [e]; exact Int.le_refl _
    · have := qt3 l i j (by omega)
      have := (qik (l.getD j q02)).1
      simp only [qb8]; omega
section
variable {f : Fmt} {b : ByteArray} {i : Nat}
theorem qbkq (b : ByteArray) : b.extract 0 b.size = b := by simp
theorem qrk (hs : (b.size : Int) = qfc f) (hi : i < f.fields.length) : qb8 f.fields i + qfl (f.fields.getD i q02) ≤ (b.size : Int) := by
  have h1 := qt3 f.fields (i + 1) f.fields.length (by omega)
  have h2 : qb8 f.fields (i + 1) = qb8 f.fields i + qfl (f.fields.getD i q02) := rfl
  rw [hs, ← h2]
  exact h1
theorem q89 (hs : (b.size : Int) = qfc f) (hi : i < f.fields.length) : qfl (f.fields.getD i q02) ≤ ((b.extract (qb8 f.fields i).toNat b.size).size : Int) := by
  have h1 := qrk hs hi
  have h2 := qgh f.fields i
  rw [ByteArray.size_extract]
  omega
theorem qbkr (hs : (b.size : Int) = qfc f) (hi : i < f.fields.length) : (b.extract (qb8 f.fields i).toNat b.size).extract 0 (qfl (f.fields.getD i q02)).toNat = qpk f b i := by
  have h1 := qrk hs hi
  have h2 := qgh f.fields i
  have h3 := qik (f.fields.getD i q02)
  have h4 : qb8 f.fields (i + 1) = qb8 f.fields i + qfl (f.fields.getD i q02) := rfl
  unfold qpk
  rw [ByteArray.extract_extract, h4, Nat.add_zero, show min ((qb8 f.fields i).toNat + (qfl (f.fields.getD i q02)).toNat) b.size = (qb8 f.fields i + qfl (f.fields.getD i q02)).toNat by omega]
theorem q3m (hs : (b.size : Int) = qfc f) (hi : i < f.fields.length) : b.extract (qb8 f.fields (i + 1)).toNat b.size = (b.extract (qb8 f.fields i).toNat b.size).extract (qfl (f.fields.getD i q02)).toNat (b.extract (qb8 f.fields i).toNat b.size).size := by
  have h1 := qrk hs hi
  have h2 := qgh f.fields i
  have h3 := qik (f.fields.getD i q02)
  have h4 : qb8 f.fields (i + 1) = qb8 f.fields i + qfl (f.fields.getD i q02) := rfl
  rw [ByteArray.extract_extract, ByteArray.size_extract, h4, show (qb8 f.fields i).toNat + (qfl (f.fields.getD i q02)).toNat = (qb8 f.fields i + qfl (f.fields.getD i q02)).toNat by omega, show min ((qb8 f.fields i).toNat + (min b.size b.size - (qb8 f.fields i).toNat)) b.size = b.size by omega]
theorem qbdn (hs : (b.size : Int) = qfc f) (hi : i < f.fields.length) : (qdg (f.fields.getD i q02).type_ ((b.extract (qb8 f.fields i).toNat b.size).extract 0 (qfl (f.fields.getD i q02)).toNat)) = q5p f b i := by
  rw [qbkr hs hi]; rfl
end
end Go.Ev
namespace Go.Ev
theorem qve {f : Fmt} {b : ByteArray} (h : ¬(qca f).2 = 0) : qdh f b = ([], 0, (qca f).2) := by rw [qdh, if_pos h]
theorem qvf {f : Fmt} {b : ByteArray} (h : (qca f).2 = 0) (h2 : ¬(b.size : Int) = qfc f) : qdh f b = ([], 0, 18) := by rw [qdh, if_neg (fun e => e h), if_pos h2]
theorem qrl {f : Fmt} {b : ByteArray} (h : (qca f).2 = 0) (h2 : (b.size : Int) = qfc f) : qdh f b = qgx f b := by rw [qdh, if_neg (fun e => e h), if_neg (fun e => e h2)]
end Go.Ev

namespace Go.Ev
open Go.Proofs Ty
set_option maxRecDepth 10000
set_option maxHeartbeats 4000000
set_option linter.unusedSimpArgs false
set_option linter.unusedVariables false
noncomputable def e163 : List O → Option (Prop × O)
  | [.d x_x] => match qb4 x_x with
    | some x => some (True, .d (.i .i64 (qfl x)))
    | _ => none
  | _ => none
noncomputable def qzo : FuncId → List O → Option (Prop × O) := addT qzk 163 e163
noncomputable def e154 : List O → Option (Prop × O)
  | [.d x_f, .d (.s name)] => match qb1 x_f with
    | some f => some (f.fields.length ≤ 1000000, .tup [.d (.i .i64 (atF f.fields name).1), .d (.i .i64 (atF f.fields name).2.1), .d (.b (atF f.fields name).2.2)])
    | _ => none
  | _ => none
noncomputable def qzp : FuncId → List O → Option (Prop × O) := addT qzo 154 e154
noncomputable def e164 : List O → Option (Prop × O)
  | [.d x_f] => match qb1 x_f with
    | some f => some (f.fields.length ≤ 1000000, .d (.i .i64 (qfc f)))
    | _ => none
  | _ => none
noncomputable def qzq : FuncId → List O → Option (Prop × O) := addT qzp 164 e164
noncomputable def e162 : List O → Option (Prop × O)
  | [.d x_f] => match qb1 x_f with
    | some f => some (f.fields.length ≤ 1000000, .tup [.d (.i .i64 (qca f).1), .d (.i .i64 (qca f).2)])
    | _ => none
  | _ => none
noncomputable def qzr : FuncId → List O → Option (Prop × O) := addT qzq 162 e162
noncomputable def e153 : List O → Option (Prop × O)
  | [.d x_f] => match qb1 x_f with
    | some f => some (f.fields.length ≤ 1000000, .d (.i .i64 (qca f).2))
    | _ => none
  | _ => none
noncomputable def qzs : FuncId → List O → Option (Prop × O) := addT qzr 153 e153
theorem isKs (n : ByteArray) : isK Tryz.prog 9 (.s n) = true := by unfold isK; rw [Tryz.underlying9]
theorem qbu5 (l : List KField) : ∀ d ∈ l.map keyD, isK Tryz.prog 9 d = true := fun d hd => by
  obtain ⟨k, _, rfl⟩ := List.mem_map.1 hd
  exact isKs _
noncomputable def e136 : List O → Option (Prop × O)
  | [.d x_f] => match qcd x_f with
    | some f => some (f.format.fields.length ≤ 1000000 ∧ f.keys.length ≤ 1000000, .tup [.d (.i .i64 (qch f).1), .d (.i .i64 (qch f).2)])
    | _ => none
  | _ => none
noncomputable def qzt : FuncId → List O → Option (Prop × O) := addT qzs 136 e136
noncomputable def e118 : List O → Option (Prop × O)
  | [.d x_f] => match qcd x_f with
    | some f => some (f.format.fields.length ≤ 1000000 ∧ f.keys.length ≤ 1000000, .d (.i .i64 (qch f).2))
    | _ => none
  | _ => none
noncomputable def qzu : FuncId → List O → Option (Prop × O) := addT qzt 118 e118
noncomputable def e165 : List O → Option (Prop × O)
  | [.d x_f, .d (.s b)] => match qb1 x_f with
    | some f => some (f.fields.length ≤ 1000 ∧ (b.size : Int) = qfc f, .tup [.d (.sl 2 ((qgx f b).1.map qb6)), .d (.i .i64 (qgx f b).2.1), .d (.i .i64 (qgx f b).2.2)])
    | _ => none
  | _ => none
noncomputable def qzv : FuncId → List O → Option (Prop × O) := addT qzu 165 e165
noncomputable def e155 : List O → Option (Prop × O)
  | [.d x_f, .d (.s b)] => match qb1 x_f with
    | some f => some (f.fields.length ≤ 1000000, .tup [.d (.sl 2 ((qdh f b).1.map qb6)), .d (.i .i64 (qdh f b).2.1), .d (.i .i64 (qdh f b).2.2)])
    | _ => none
  | _ => none
noncomputable def qzw : FuncId → List O → Option (Prop × O) := addT qzv 155 e155
noncomputable def e137 : List O → Option (Prop × O)
  | [.d x_f, .d (.s b)] => match qb1 x_f with
    | some f => some (f.fields.length ≤ 1000000, .tup [.d (.i .i64 (qdh f b).2.1), .d (.i .i64 (qdh f b).2.2)])
    | _ => none
  | _ => none
noncomputable def qzx : FuncId → List O → Option (Prop × O) := addT qzw 137 e137
noncomputable def e120 : List O → Option (Prop × O)
  | [.d x_f, .d (.s b)] => match qb1 x_f with
    | some f => some (f.fields.length ≤ 1000000, .d (.i .i64 (qdh f b).2.2))
    | _ => none
  | _ => none
noncomputable def qzy : FuncId → List O → Option (Prop × O) := addT qzx 120 e120
noncomputable def e90 : List O → Option (Prop × O)
  | [.d x_t] => match q0x x_t with
    | some t => some ((t.file.format.fields.length ≤ 1000000 ∧ t.file.keys.length ≤ 1000000 ∧ t.records.length ≤ 1000000), .tup [.d (.i .i64 (q09 t).1), .d (.i .i64 (q09 t).2)])
    | _ => none
  | _ => none
noncomputable def q5s : FuncId → List O → Option (Prop × O) := addT qzy 90 e90
noncomputable def e121 : List O → Option (Prop × O)
  | [.d x_t] => match q0x x_t with
    | some t => some ((t.file.format.fields.length ≤ 1000000 ∧ t.file.keys.length ≤ 1000000 ∧ t.records.length ≤ 1000000), .d (.i .i64 (q09 t).2))
    | _ => none
  | _ => none
noncomputable def qzz : FuncId → List O → Option (Prop × O) := addT q5s 121 e121
end Go.Ev

namespace Go.Ev
def qt4 (t : Table) (c : Change) : Rec := t.records.getD (c.rrn - 1).toNat zRec
def qng (t : Table) (c : Change) : Bool := decide (c.rrn = (t.records.length : Int) + 1) || (qt4 t c).deleted
def qir (t : Table) (c : Change) : Int :=
  if c.kind = 0 then qbu [if (!qng t c) = true then 12 else 0, if 60 < c.rrn then 30 else 0]
  else if qng t c = true then 11
  else if (qt4 t c).bytes ≠ c.before then 15 else 0
def qor (t : Table) (c : Change) : Int := if c.kind = 0 then (t.records.length : Int) + 1 else t.records.length
def qhp (c : Change) : Bool := (decide (c.kind = 0) && !decide (c.before = ⟨#[]⟩)) || (decide (c.kind = 2) && !decide (c.after = ⟨#[]⟩))
def qg0 (t : Table) (c : Change) : Int :=
  if (q09 t).2 ≠ 0 then (q09 t).2
  else if c.file ≠ t.file.name then 11
  else if c.kind < 0 ∨ 3 ≤ c.kind then 4
  else if c.rrn < 1 ∨ qor t c < c.rrn then 3
  else if qhp c = true then 5 else 0
def qc1 (t : Table) (c : Change) : Int :=
  if qg0 t c ≠ 0 then qg0 t c
  else if qir t c ≠ 0 ∨ c.kind = 2 then qir t c
  else (qdh t.file.format c.after).2.2
def qhl (t : Table) (n : Int) (r : Rec) : Table := ⟨t.file, if (t.records.length : Int) < n then t.records ++ [r] else t.records.set (n - 1).toNat r⟩
def qn1 (c : Change) : Rec := ⟨c.kind == 2, c.after⟩
def qf4 (t : Table) (c : Change) : Table × Int := if qc1 t c ≠ 0 then (q05, qc1 t c) else (qhl t c.rrn (qn1 c), 0)
def qll (k : Int) : Int := if k = 0 then 2 else if k = 2 then 0 else k
def qg7 (c : Change) : Change × Int := if c.kind = 0 ∨ c.kind = 2 ∨ c.kind = 1 then (⟨c.file, qll c.kind, c.rrn, c.after, c.before⟩, 0) else (qba, 4)
theorem qwn {t : Table} {c : Change} (h : qg0 t c = 0) : (q09 t).2 = 0 ∧ c.file = t.file.name ∧ 0 ≤ c.kind ∧ c.kind < 3 ∧ 1 ≤ c.rrn ∧ c.rrn ≤ qor t c ∧ qhp c = false := by
  unfold qg0 at h
  split at h
  · contradiction
  split at h
  · cases h
  split at h
  · cases h
  split at h
  · cases h
  split at h
  · cases h
  · refine ⟨?_, ?_, ?_, ?_, ?_, ?_, ?_⟩
    · simpa using ‹¬¬(q09 t).2 = 0›
    · simpa using ‹¬c.file ≠ t.file.name›
    · omega
    · omega
    · omega
    · omega
    · simpa using ‹¬qhp c = true›
theorem qpl {t : Table} {c : Change} (h : qg0 t c = 0) : 1 ≤ c.rrn ∧ c.rrn ≤ (t.records.length : Int) + 1 := by
  have H := qwn h
  have := H.2.2.2.2.2.1
  unfold qor at this
  split at this <;> omega
theorem qi0 {t : Table} {c : Change} (h : ¬qg0 t c = 0) : qc1 t c = qg0 t c := by unfold qc1; rw [if_pos h]
theorem qz0 {t : Table} {c : Change} (h : qg0 t c = 0) (h2 : ¬qir t c = 0 ∨ c.kind = 2) : qc1 t c = qir t c := by unfold qc1; rw [if_neg (fun e => e h), if_pos h2]
theorem qz1 {t : Table} {c : Change} (h : qg0 t c = 0) (h2 : qir t c = 0 ∧ ¬c.kind = 2) : qc1 t c = (qdh t.file.format c.after).2.2 := by
  unfold qc1
  rw [if_neg (fun e => e h), if_neg (by rintro (e | e); exact e h2.1; exact h2.2 e)]
theorem qwo {t : Table} {c : Change} (h : qc1 t c = 0) : qg0 t c = 0 := by
  unfold qc1 at h
  split at h
  · contradiction
  · rename_i h2; simpa using h2
theorem qmr {t : Table} {c : Change} (h : qc1 t c = 0) : 1 ≤ c.rrn ∧ c.rrn ≤ (t.records.length : Int) + 1 := qpl (qwo h)
theorem qbdo (t : Table) (c : Change) (h : c.kind = 0) : qbu [(q09 t).2, if ¬c.file = t.file.name then 11 else 0, if c.kind < 0 ∨ 3 ≤ c.kind then 4 else 0, if c.rrn < 1 ∨ (t.records.length : Int) + 1 < c.rrn then 3 else 0, if c.kind = 0 ∧ ¬c.before = ⟨#[]⟩ ∨ c.kind = 2 ∧ ¬c.after = ⟨#[]⟩ then 5 else 0] = qg0 t c := by
  have hf : (qhp c = true) = (c.kind = 0 ∧ ¬c.before = ⟨#[]⟩ ∨ c.kind = 2 ∧ ¬c.after = ⟨#[]⟩) := by simp [qhp]
  simp only [qbu, qg0, qor, if_pos h, hf]
  (repeat' split) <;> first | rfl | omega | (exfalso; omega) | simp_all
theorem qbdp (t : Table) (c : Change) (h : ¬c.kind = 0) : qbu [(q09 t).2, if ¬c.file = t.file.name then 11 else 0, if c.kind < 0 ∨ 3 ≤ c.kind then 4 else 0, if c.rrn < 1 ∨ (t.records.length : Int) < c.rrn then 3 else 0, if c.kind = 0 ∧ ¬c.before = ⟨#[]⟩ ∨ c.kind = 2 ∧ ¬c.after = ⟨#[]⟩ then 5 else 0] = qg0 t c := by
  have hf : (qhp c = true) = (c.kind = 0 ∧ ¬c.before = ⟨#[]⟩ ∨ c.kind = 2 ∧ ¬c.after = ⟨#[]⟩) := by simp [qhp]
  simp only [qbu, qg0, qor, if_neg h, hf]
  (repeat' split) <;> first | rfl | omega | (exfalso; omega) | simp_all
theorem qwp {t : Table} {n : Int} {r : Rec} (h : (t.records.length : Int) < n) : List.take (t.records.length + 1) (t.records.map qbo ++ [D.agg [.b r.deleted, .s r.bytes]]) = (qhl t n r).records.map qbo := by
  unfold qhl
  simp only [if_pos h]
  rw [List.take_of_length_le (by simp), List.map_append]
  rfl
theorem qwq {t : Table} {n : Int} {r : Rec} (h : n ≤ (t.records.length : Int)) : List.take t.records.length ((t.records.map qbo).set (n - 1).toNat (D.agg [.b r.deleted, .s r.bytes])) = (qhl t n r).records.map qbo := by
  unfold qhl
  simp only [if_neg (show ¬(t.records.length : Int) < n by omega)]
  rw [List.take_of_length_le (by simp), List.map_set]
  rfl
theorem qly {t : Table} {c : Change} (h : ¬qc1 t c = 0) : qf4 t c = (q05, qc1 t c) := by unfold qf4; rw [if_pos h]
theorem qhx {t : Table} {c : Change} (h : qc1 t c = 0) : qf4 t c = (qhl t c.rrn (qn1 c), 0) := by unfold qf4; rw [if_neg (fun e => e h)]
end Go.Ev

namespace Go.Ev
open Go.Proofs Ty
set_option maxRecDepth 10000
set_option maxHeartbeats 4000000
set_option linter.unusedSimpArgs false
set_option linter.unusedVariables false
noncomputable def e66 : List O → Option (Prop × O)
  | [.d x_l] => match decL 4 qb4 x_l with
    | some l => some (l.length ≤ 1000000, .own 110 4 (l.map q03))
    | _ => none
  | _ => none
noncomputable def q5t : FuncId → List O → Option (Prop × O) := addT qzz 66 e66
noncomputable def e67 : List O → Option (Prop × O)
  | [.d x_l] => match decL 2 qbv x_l with
    | some l => some (l.length ≤ 1000000, .own 113 2 (l.map q06))
    | _ => none
  | _ => none
noncomputable def q5u : FuncId → List O → Option (Prop × O) := addT q5t 67 e67
noncomputable def e68 : List O → Option (Prop × O)
  | [.d x_l] => match decL 2 qc0 x_l with
    | some l => some (l.length ≤ 1000000, .own 104 2 (l.map qbo))
    | _ => none
  | _ => none
noncomputable def q5v : FuncId → List O → Option (Prop × O) := addT q5u 68 e68
noncomputable def e122 : List O → Option (Prop × O)
  | [.d x_t, .d x_c] => match q0x x_t, q0z x_c with
    | some t, some c => some (1 ≤ c.rrn ∧ c.rrn ≤ (t.records.length : Int) + 1 ∧ t.records.length ≤ 1000000, .d (.i .i64 (qir t c)))
    | _, _ => none
  | _ => none
noncomputable def qz2 : FuncId → List O → Option (Prop × O) := addT q5v 122 e122
noncomputable def e93 : List O → Option (Prop × O)
  | [.d x_t, .d x_c] => match q0x x_t, q0z x_c with
    | some t, some c => some ((t.file.format.fields.length ≤ 1000000 ∧ t.file.keys.length ≤ 1000000 ∧ t.records.length ≤ 1000000), .d (.i .i64 (qc1 t c)))
    | _, _ => none
  | _ => none
noncomputable def q5w : FuncId → List O → Option (Prop × O) := addT qz2 93 e93
noncomputable def e94 : List O → Option (Prop × O)
  | [.d x_t, .d (.i .i64 n), .d x_r] => match q0x x_t, qc0 x_r with
    | some t, some r => some (1 ≤ n ∧ n ≤ (t.records.length : Int) + 1 ∧ t.records.length ≤ 1000000, .d (q0g (qhl t n r)))
    | _, _ => none
  | _ => none
noncomputable def q5x : FuncId → List O → Option (Prop × O) := addT q5w 94 e94
noncomputable def e70 : List O → Option (Prop × O)
  | [.d x_t, .d x_c] => match q0x x_t, q0z x_c with
    | some t, some c => some ((t.file.format.fields.length ≤ 1000000 ∧ t.file.keys.length ≤ 1000000 ∧ t.records.length ≤ 1000000), .tup [.d (q0g (qf4 t c).1), .d (.i .i64 (qf4 t c).2)])
    | _, _ => none
  | _ => none
noncomputable def q5y : FuncId → List O → Option (Prop × O) := addT q5x 70 e70
noncomputable def e71 : List O → Option (Prop × O)
  | [.d x_c] => match q0z x_c with
    | some c => some (True, .tup [.d (q0u (qg7 c).1), .d (.i .i64 (qg7 c).2)])
    | _ => none
  | _ => none
noncomputable def q5z : FuncId → List O → Option (Prop × O) := addT q5y 71 e71
end Go.Ev

namespace Go.Ev
def okT (t : Table) : Prop := t.file.format.fields.length ≤ 1000000 ∧ t.file.keys.length ≤ 1000000 ∧ t.records.length ≤ 1000000
def okTs (l : List Table) : Prop := l.length ≤ 1000000 ∧ ∀ i, okT (l.getD i q05)
theorem qgc {l : List Table} {i : Nat} (h : i < l.length) (z : D) : (l.map q0g).getD i z = q0g (l.getD i q05) := by
  simp [List.getD, List.getElem?_map, List.getElem?_eq_getElem h]
def qhq (l : List Table) (n : ByteArray) (i : Nat) : Int := if (l.getD i q05).file.name = n then 1 else 0
def qcw (l : List Table) (n : ByteArray) : Int := match qdc (qhq l n) l.length with
  | some i => i
  | none => -1
theorem qz3 {l : List Table} {n : ByteArray} {i : Nat} (h : ∀ j, j < i → qhq l n j = 0) (hi : i < l.length) (hg : (l.getD i q05).file.name = n) : qcw l n = i := by
  unfold qcw
  rw [qel h hi (by unfold qhq; rw [if_pos hg]; decide)]
theorem qz4 {l : List Table} {n : ByteArray} {i : Nat} (h : ∀ j, j < i → qhq l n j = 0) (hi : l.length ≤ i) : qcw l n = -1 := by
  unfold qcw
  rw [qd5 fun j hj => h j (by omega)]
theorem q9a {l : List Table} {n : ByteArray} {i : Nat} (hg : ¬(l.getD i q05).file.name = n) : qhq l n i = 0 := by unfold qhq; rw [if_neg hg]
def tabE (l : List Table) (i : Nat) : Int := if (q09 (l.getD i q05)).2 ≠ 0 then (q09 (l.getD i q05)).2 else if qcw l (l.getD i q05).file.name < i then 13 else 0
def qes (l : List Table) : Int := if 8 < l.length then 2 else match qdc (tabE l) l.length with
  | some i => tabE l i
  | none => 0
theorem q9b {l : List Table} (h : 8 < (l.length : Int)) : qes l = 2 := by unfold qes; rw [if_pos (by omega)]
theorem qz5 {l : List Table} {i : Nat} (h8 : l.length ≤ 8) (h : ∀ j, j < i → tabE l j = 0) (hi : i < l.length) (hg : ¬tabE l i = 0) : qes l = tabE l i := by
  unfold qes
  rw [if_neg (by omega), qel h hi hg]
theorem qbdq {l : List Table} {i : Nat} (h8 : l.length ≤ 8) (h : ∀ j, j < i → tabE l j = 0) (hi : l.length ≤ i) : qes l = 0 := by
  unfold qes
  rw [if_neg (by omega), qd5 fun j hj => h j (by omega)]
theorem qpm {l : List Table} {i : Nat} (h : ¬(q09 (l.getD i q05)).2 = 0) : tabE l i = (q09 (l.getD i q05)).2 := by unfold tabE; rw [if_pos h]
theorem qpn {l : List Table} {i : Nat} (h : (q09 (l.getD i q05)).2 = 0) (h2 : qcw l (l.getD i q05).file.name < i) : tabE l i = 13 := by unfold tabE; rw [if_neg (fun e => e h), if_pos h2]
theorem q3n {l : List Table} {i : Nat} (h : (q09 (l.getD i q05)).2 = 0) (h2 : (i : Int) ≤ qcw l (l.getD i q05).file.name) : tabE l i = 0 := by unfold tabE; rw [if_neg (fun e => e h), if_neg (by omega)]
def chkL (ts : List Table) (l : List Entry) : List AUnit := if qes ts ≠ 0 then [] else qek l
def chkE (ts : List Table) (l : List Entry) : Int := if qes ts ≠ 0 then qes ts else (qbc l).2
theorem qrm {ts : List Table} {l : List Entry} (h : ¬qes ts = 0) : chkL ts l = [] ∧ chkE ts l = qes ts := ⟨by unfold chkL; rw [if_pos h], by unfold chkE; rw [if_pos h]⟩
theorem qlm {ts : List Table} {l : List Entry} (h : qes ts = 0) : chkL ts l = qek l ∧ chkE ts l = (qbc l).2 := ⟨by unfold chkL; rw [if_neg (fun e => e h)], by unfold chkE; rw [if_neg (fun e => e h)]⟩
structure Want where
  up : Bool
  n : Int
def Want.has (w : Want) (x : Entry) : Bool := if w.up then decide (x.number ≤ w.n) else decide (w.n ≤ x.number)
def qg1 (w : Want) (x : Entry) : Bool := decide (x.kind = 0) && w.has x
def qn2 (back : Bool) (x : Entry) : Change := if back then (qg7 x.change).1 else x.change
def qe8 (w : Want) (back : Bool) (l : List Entry) : List Change := (l.filter (qg1 w)).map (qn2 back)
def qff (w : Want) (back : Bool) (l : List Entry) : List Change := if back then (qe8 w back l).reverse else qe8 w back l
theorem qwr {w : Want} {back : Bool} {l : List Entry} {i : Nat} (hi : i < l.length) : qe8 w back (l.take (i + 1)) = if qg1 w (l.getD i q0q) = true then qe8 w back (l.take i) ++ [qn2 back (l.getD i q0q)] else qe8 w back (l.take i) := by
  unfold qe8
  rw [qdy q0q hi, List.filter_append, List.map_append]
  generalize l.getD i q0q = x
  cases h : qg1 w x <;> simp [List.filter_cons, h]
theorem qnh {w : Want} {back : Bool} {l : List Entry} {i : Nat} : (qe8 w back (l.take i)).length ≤ i := by
  unfold qe8
  rw [List.length_map]
  have := List.length_filter_le (qg1 w) (l.take i)
  rw [List.length_take] at this
  omega
theorem qbdr (w : Want) (back : Bool) (l : List Entry) : (qe8 w back l).length ≤ l.length := by
  have := qnh (w := w) (back := back) (l := l) (i := l.length)
  rwa [List.take_length] at this
theorem qke {n : Int} {x : Entry} : qg1 ⟨false, n⟩ x = true ↔ x.kind = 0 ∧ n ≤ x.number := by simp [qg1, Want.has]
theorem qkf {n : Int} {x : Entry} : qg1 ⟨true, n⟩ x = true ↔ x.kind = 0 ∧ x.number ≤ n := by simp [qg1, Want.has]
theorem qos {w : Want} {back : Bool} {l : List Entry} {i : Nat} (hi : i < l.length) (h : ¬qg1 w (l.getD i q0q) = true) : qe8 w back (l.take (i + 1)) = qe8 w back (l.take i) := by rw [qwr hi, if_neg h]
theorem qln {w : Want} {back : Bool} {l : List Entry} {i : Nat} (hi : i < l.length) (h : qg1 w (l.getD i q0q) = true) : qe8 w back (l.take (i + 1)) = qe8 w back (l.take i) ++ [qn2 back (l.getD i q0q)] := by rw [qwr hi, if_pos h]
theorem qws {w : Want} {l : List Entry} {i : Nat} (h : l.length ≤ i) : (qe8 w true (l.take i)).reverse = qff w true l := by rw [List.take_of_length_le h]; rfl
theorem qwt {w : Want} {l : List Entry} {i : Nat} (h : l.length ≤ i) : qe8 w false (l.take i) = qff w false l := by rw [List.take_of_length_le h]; rfl
theorem q50 {w : Want} {l : List Entry} {i : Nat} (h : l.length ≤ i) : List.take (qe8 w true (l.take i)).length (qe8 w true (l.take i)).reverse = qff w true l := by
  rw [List.take_of_length_le (l := (qe8 w true (l.take i)).reverse) (by simp), qws h]
def qia (s : List Table × Int) (c : Change) : List Table × Int :=
  if qcw s.1 c.file < 0 then s else (s.1.set (qcw s.1 c.file).toNat (qhl (s.1.getD (qcw s.1 c.file).toNat q05) c.rrn (qn1 c)), s.2 + 1)
def mTo (ts : List Table) (cs : List Change) : Nat → List Table × Int
  | 0 => (ts, 0)
  | k + 1 => qia (mTo ts cs k) (cs.getD k qba)
def mErr (ts : List Table) (cs : List Change) (k : Nat) : Int :=
  if qcw (mTo ts cs k).1 (cs.getD k qba).file < 0 then 0 else qc1 ((mTo ts cs k).1.getD (qcw (mTo ts cs k).1 (cs.getD k qba).file).toNat q05) (cs.getD k qba)
def qcu (ts : List Table) (cs : List Change) : List Table × Int × Int := match qdc (mErr ts cs) cs.length with
  | some k => ([], 0, mErr ts cs k)
  | none => ((mTo ts cs cs.length).1, (mTo ts cs cs.length).2, 0)
theorem q9c {α : Type} (l : List α) (a i : Nat) (x z : α) : (l.set a x).getD i z = if a = i ∧ a < l.length then x else l.getD i z := by
  simp only [List.getD, List.getElem?_set]
  by_cases e : a = i
  · subst e
    by_cases h : a < l.length
    · simp [h]
    · simp [h]
  · simp [e]
theorem q2k {g : Nat → Int} {n i : Nat} (h : qdc g n = some i) : i < n := by
  unfold qdc at h
  have := List.mem_of_find?_eq_some h
  simpa using this
theorem q9d {t : Table} (h : (q09 t).2 = 0) : t.records.length ≤ 60 := by
  unfold q09 at h
  split at h
  · rename_i h2; exact absurd h h2
  split at h
  · cases h
  · omega
theorem qsc (t : Table) (c : Change) : (qf4 t c).2 = qc1 t c := by
  unfold qf4
  split
  · rfl
  · rename_i h; simp only; exact (Decidable.not_not.1 h).symm
theorem qlo (l : List Table) (n : ByteArray) : -1 ≤ qcw l n ∧ qcw l n < l.length := by
  unfold qcw
  cases h : qdc (qhq l n) l.length with
  | none => simp only; omega
  | some i => have := q2k h; simp only; omega
theorem qlp (ts : List Table) (cs : List Change) : ∀ k, (mTo ts cs k).1.length = ts.length
  | 0 => rfl
  | k + 1 => by
    have ih := qlp ts cs k
    simp only [mTo, qia]
    split
    · exact ih
    · simpa using ih
theorem qrn (ts : List Table) (cs : List Change) : ∀ k, 0 ≤ (mTo ts cs k).2 ∧ (mTo ts cs k).2 ≤ k
  | 0 => by simp [mTo]
  | k + 1 => by
    have ih := qrn ts cs k
    simp only [mTo, qia]
    split
    · omega
    · simp only; omega
theorem qbds {t : Table} {c : Change} (h : okT t) (hc : qc1 t c = 0) : okT (qhl t c.rrn (qn1 c)) := by
  have h1 := (qwn (qwo hc)).1
  have h2 : t.records.length ≤ 60 := q9d h1
  refine ⟨h.1, h.2.1, ?_⟩
  unfold qhl
  simp only
  split
  · simp; omega
  · simp; omega
theorem qt5 {ts : List Table} {cs : List Change} (h : okTs ts) : ∀ {k : Nat}, (∀ j, j < k → mErr ts cs j = 0) → okTs (mTo ts cs k).1
  | 0, _ => h
  | k + 1, he => by
    have ih := qt5 h (k := k) fun j hj => he j (by omega)
    have hk := he k (by omega)
    have hl := qlp ts cs (k + 1)
    refine ⟨by rw [hl]; exact h.1, ?_⟩
    intro i
    simp only [mTo, qia]
    unfold mErr at hk
    split
    · exact ih.2 i
    · rename_i hf
      rw [if_neg hf] at hk
      simp only
      have hb := qlo (mTo ts cs k).1 (cs.getD k qba).file
      rw [q9c]
      split
      · exact qbds (ih.2 _) hk
      · exact ih.2 i
theorem qpo {ts : List Table} {cs : List Change} {k : Nat} (h : ∀ j, j < k → mErr ts cs j = 0) (hk : k < cs.length) (hg : ¬mErr ts cs k = 0) : qcu ts cs = ([], 0, mErr ts cs k) := by
  unfold qcu
  rw [qel h hk hg]
theorem qsr {ts : List Table} {cs : List Change} {k : Nat} (h : ∀ j, j < k → mErr ts cs j = 0) (hk : k = cs.length) : qcu ts cs = ((mTo ts cs k).1, (mTo ts cs k).2, 0) := by
  subst hk
  unfold qcu
  rw [qd5 fun j hj => h j hj]
theorem q9e {ts : List Table} {cs : List Change} {k : Nat} (h : qcw (mTo ts cs k).1 (cs.getD k qba).file < 0) : mErr ts cs k = 0 := by unfold mErr; rw [if_pos h]
theorem qot {ts : List Table} {cs : List Change} {k : Nat} (h : 0 ≤ qcw (mTo ts cs k).1 (cs.getD k qba).file) : mErr ts cs k = qc1 ((mTo ts cs k).1.getD (qcw (mTo ts cs k).1 (cs.getD k qba).file).toNat q05) (cs.getD k qba) := by unfold mErr; rw [if_neg (by omega)]
theorem qz6 {ts : List Table} {cs : List Change} {k : Nat} (h : qcw (mTo ts cs k).1 (cs.getD k qba).file < 0) : mTo ts cs (k + 1) = mTo ts cs k := by simp only [mTo, qia]; rw [if_pos h]
theorem qqt {ts : List Table} {cs : List Change} {k : Nat} (h : 0 ≤ qcw (mTo ts cs k).1 (cs.getD k qba).file) : mTo ts cs (k + 1) = ((mTo ts cs k).1.set (qcw (mTo ts cs k).1 (cs.getD k qba).file).toNat (qhl ((mTo ts cs k).1.getD (qcw (mTo ts cs k).1 (cs.getD k qba).file).toNat q05) (cs.getD k qba).rrn (qn1 (cs.getD k qba))), (mTo ts cs k).2 + 1) := by simp only [mTo, qia]; rw [if_neg (by omega)]
end Go.Ev
namespace Go.Ev
def swpL {α : Type} (l : List α) (z : α) (i j : Nat) : List α := (l.set i (l.getD j z)).set j (l.getD i z)
def qis {α : Type} (l : List α) (z : α) : Nat → List α
  | 0 => l
  | i + 1 => swpL (qis l z i) z i (l.length - 1 - i)
theorem qkq {α : Type} (l : List α) (z : α) : ∀ i, (qis l z i).length = l.length
  | 0 => rfl
  | i + 1 => by simp [qis, swpL, qkq l z i]
theorem qwu {α : Type} (l : List α) (z : α) : ∀ i, 2 * i ≤ l.length → ∀ k, k < l.length → (qis l z i)[k]? = if k < i ∨ l.length - i ≤ k then l[l.length - 1 - k]? else l[k]?
  | 0, _, k, hk => by rw [if_neg (by omega)]; rfl
  | i + 1, hi, k, hk => by
    have ih := qwu l z i (by omega)
    have hl := qkq l z i
    have g : ∀ q, q < l.length → (qis l z i).getD q z = l.getD (if q < i ∨ l.length - i ≤ q then l.length - 1 - q else q) z := fun q hq => by
      simp only [List.getD]
      rw [ih q hq]
      split <;> rfl
    simp only [qis, swpL]
    rw [List.getElem?_set, List.getElem?_set, List.length_set, hl]
    by_cases e1 : l.length - 1 - i = k
    · rw [if_pos e1, if_pos (by omega), if_pos (by omega), g i (by omega), if_neg (by omega)]
      have : i = l.length - 1 - k := by omega
      rw [← this]
      simp [List.getD, List.getElem?_eq_getElem (show i < l.length by omega)]
    · rw [if_neg e1]
      by_cases e2 : i = k
      · subst e2
        rw [if_pos rfl, if_pos (by omega), if_pos (by omega), g _ (by omega), if_neg (by omega)]
        simp [List.getD, List.getElem?_eq_getElem (show l.length - 1 - i < l.length by omega)]
      · rw [if_neg e2, ih k hk]
        by_cases e3 : k < i ∨ l.length - i ≤ k
        · rw [if_pos e3, if_pos (by omega)]
        · rw [if_neg e3, if_neg (by omega)]
theorem q9f {α : Type} (l : List α) (z : α) {i : Nat} (h : 2 * i ≤ l.length) (h2 : l.length ≤ 2 * i + 1) : qis l z i = l.reverse := by
  apply List.ext_getElem?
  intro k
  by_cases hk : k < l.length
  · rw [qwu l z i h k hk, List.getElem?_reverse hk]
    split
    · rfl
    · rw [show l.length - 1 - k = k by omega]
  · rw [List.getElem?_eq_none (by rw [qkq]; omega), List.getElem?_eq_none (by simp; omega)]
theorem q51 {l : List Change} {i : Nat} : (((qis l qba i).map q0u).set i (q0u ((qis l qba i).getD (l.length - 1 - i) qba))).set (l.length - 1 - i) (q0u ((qis l qba i).getD i qba)) = (qis l qba (i + 1)).map q0u := by
  simp [qis, swpL, List.map_set]
theorem qbdt {l : List Change} {i : Nat} (h : 2 * i ≤ l.length) (h2 : (i : Int) < (l.length : Int) - 1 - i) (d z : D) : (((qis l qba i).map q0u).set i d).getD (l.length - 1 - i) z = q0u ((qis l qba i).getD (l.length - 1 - i) qba) := by
  have hl := qkq l qba i
  simp only [List.getD]
  rw [List.getElem?_set_ne (by omega), List.getElem?_map, List.getElem?_eq_getElem (by omega)]
  rfl
theorem qou (l : List Change) : (l.map q0u).all D.flatA = true := by
  rw [List.all_map, List.all_eq_true]
  intro x _; rfl
end Go.Ev
