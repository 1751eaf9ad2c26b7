/- Tools and contracts under the laws of this seat: DevSortP to DevTabs. -/
import Derived.Test.YtkgkgcojfocomaaGreatE04
import Derived.Test.YtkgkgcojfocomaaGreatE03
import Derived.WalkKit
set_option linter.unusedVariables false
set_option linter.unusedSimpArgs false
namespace Go.Ev
open Go.RowKit
def encU (u : AUnit) : List Value := [.int .i64 u.unit, .int .i64 u.first, .int .i64 u.last, .int .i64 u.state]
theorem qbmi {w : World} {X : Nat → Prop} {u : AUnit} {c : Nat} {x : D} (h : (qbu u).cells[c]? = some x) : RD w X (encU u)[c]! x := by
  match c, h with
  | 0, h => cases h; exact .i _ _
  | 1, h => cases h; exact .i _ _
  | 2, h => cases h; exact .i _ _
  | 3, h => cases h; exact .i _ _
theorem qbmj {w : World} {X : Nat → Prop} {u : AUnit} {c : Nat} {v : Value} {x : D} (h : (qbu u).cells[c]? = some x) (hr : RD w X v x) : v = (encU u)[c]! := by
  match c, h with
  | 0, h => cases h; cases hr; rfl
  | 1, h => cases h; cases hr; rfl
  | 2, h => cases h; cases hr; rfl
  | 3, h => cases h; cases hr; rfl
theorem qbrf (u : AUnit) : (qbu u).cells.length = 4 := rfl
theorem qbit (us : List AUnit) (t : Nat) : (flat (us.map qbu))[t]? = (us[t / 4]?).bind fun u => (qbu u).cells[t % 4]? := by
  have hs : ∀ d ∈ us.map qbu, d.cells.length = 4 := fun d hd => by
    obtain ⟨u, _, rfl⟩ := List.mem_map.1 hd
    rfl
  have ht : t = t / 4 * 4 + t % 4 := by omega
  cases h : us[t / 4]? with
  | none =>
    rw [Option.bind_none]
    refine List.getElem?_eq_none ?_
    rw [qb0 (sz := 4) hs, List.length_map]
    have := List.getElem?_eq_none_iff.1 h
    omega
  | some u =>
    rw [Option.bind_some]
    have := qic (sz := 4) (l := us.map qbu) (j := t / 4) (c := t % 4) (d := qbu u) hs (by rw [List.getElem?_map, h]; rfl) (by omega)
    rwa [← ht] at this
theorem q3v {d : D} {x : AUnit} (h : qe8 d = some x) : d = qbu x := by
  unfold qe8 at h
  split at h
  · cases h; rfl
  · cases h
theorem q40 : ∀ {l : List D} {us : List AUnit}, decM qe8 l = some us → l = us.map qbu
  | [], us, h => by cases h; rfl
  | d :: l, us, h => by
    unfold decM at h
    split at h
    · rename_i x y h1 h2
      cases h
      rw [List.map_cons, q3v h1, q40 h2]
    · cases h
def leF (x y : AUnit) : Bool := decide (x.first ≤ y.first)
def qmb (us : List AUnit) : List AUnit := us.mergeSort leF
def okU (us : List AUnit) : Prop := (us.map (·.first)).Nodup ∧ (∀ u ∈ us, 0 ≤ u.first ∧ u.first ≤ 100000) ∧ us.length ≤ 1000000
def quu (l : List D) : Option (Prop × List D) := match decM qe8 l with
  | some us => some (okU us, (qmb us).map qbu)
  | none => none
theorem qrc (us : List AUnit) : (qmb us).length = us.length := by simp [qmb]
theorem q3w {us : List AUnit} (h : (us.map (·.first)).Nodup) {x y : AUnit} (hx : x ∈ us) (hy : y ∈ us) (e : x.first = y.first) : x = y := by
  obtain ⟨i, hi, rfl⟩ := List.getElem_of_mem hx
  obtain ⟨j, hj, rfl⟩ := List.getElem_of_mem hy
  have key : ∀ (i j : Nat) (hi : i < us.length) (hj : j < us.length), i < j → us[i].first ≠ us[j].first := fun i j hi hj hl => by
    have := List.pairwise_iff_getElem.1 h i j (by simpa using hi) (by simpa using hj) hl
    simpa using this
  rcases Nat.lt_trichotomy i j with h1 | h1 | h1
  · exact absurd e (key i j hi hj h1)
  · subst h1; rfl
  · exact absurd e.symm (key j i hj hi h1)
end Go.Ev

namespace Go.Ev
theorem qs6 : ∀ {a b : List AUnit}, a.Pairwise (fun x y => x.first < y.first) → b.Pairwise (fun x y => x.first < y.first) → (∀ u, u ∈ a ↔ u ∈ b) → a = b
  | [], [], _, _, _ => rfl
  | [], y :: b, _, _, h => absurd ((h y).2 (by simp)) (by simp)
  | x :: a, [], _, _, h => absurd ((h x).1 (by simp)) (by simp)
  | x :: a, y :: b, ha, hb, h => by
    rw [List.pairwise_cons] at ha hb
    have e : x = y := by
      have h1 := (h x).1 (by simp)
      have h2 := (h y).2 (by simp)
      rw [List.mem_cons] at h1 h2
      rcases h1 with h1 | h1
      · exact h1
      · rcases h2 with h2 | h2
        · exact h2.symm
        · have := ha.1 _ h2; have := hb.1 _ h1; omega
    subst e
    rw [qs6 ha.2 hb.2 fun u => ?_]
    constructor
    · intro hu
      have := (h u).1 (List.mem_cons_of_mem _ hu)
      rw [List.mem_cons] at this
      rcases this with rfl | this
      · have := ha.1 _ hu; omega
      · exact this
    · intro hu
      have := (h u).2 (List.mem_cons_of_mem _ hu)
      rw [List.mem_cons] at this
      rcases this with rfl | this
      · have := hb.1 _ hu; omega
      · exact this
def qht (us : List AUnit) (d : List Nat) : List AUnit := d.map fun j => us.getD j qjo
theorem qrd {us : List AUnit} {d : List Nat} (hd : d.Perm (List.range us.length)) : (qht us d).Perm us := by
  unfold qht
  refine (hd.map _).trans ?_
  have : (List.range us.length).map (fun j => us.getD j qjo) = us := by
    apply List.ext_getElem?
    intro j
    rw [List.getElem?_map]
    by_cases h : j < us.length
    · rw [List.getElem?_range h, Option.map_some, List.getD_eq_getElem?_getD, List.getElem?_eq_getElem h, Option.getD_some]
    · rw [List.getElem?_eq_none (by simpa using h), List.getElem?_eq_none (by omega)]; rfl
  rw [this]
theorem qbar {us : List AUnit} {d : List Nat} (hd : d.Perm (List.range us.length)) (hs : us.Pairwise (fun x y => x.first < y.first)) : qmb (qht us d) = us := by
  have hp := qrd hd
  have h1 : (qmb (qht us d)).Pairwise fun x y => leF x y = true := List.pairwise_mergeSort (fun a b c => by unfold leF; simp only [decide_eq_true_eq]; omega) (fun a b => by unfold leF; simp only [Bool.or_eq_true, decide_eq_true_eq]; omega) _
  have hp2 : (qmb (qht us d)).Perm us := (List.mergeSort_perm _ _).trans hp
  have hn : (us.map (·.first)).Nodup := by
    unfold List.Nodup
    rw [List.pairwise_map]
    exact hs.imp fun h => by omega
  have h2 : ((qmb (qht us d)).map (·.first)).Nodup := ((hp2.map _).nodup_iff).2 hn
  unfold List.Nodup at h2
  rw [List.pairwise_map] at h2
  refine qs6 ((h1.and h2).imp fun {a b} q => ?_) hs fun u => hp2.mem_iff
  have q1 := q.1
  have q2 : a.first ≠ b.first := q.2
  unfold leF at q1
  simp only [decide_eq_true_eq] at q1
  omega
theorem qbmk {us : List AUnit} {d : List Nat} (hd : d.Perm (List.range us.length)) (hs : us.Pairwise (fun x y => x.first < y.first)) (hb : ∀ u ∈ us, 0 ≤ u.first ∧ u.first ≤ 100000) (hl : us.length ≤ 1000000) : okU (qht us d) := by
  have hp := qrd hd
  refine ⟨((hp.map _).nodup_iff).2 ?_, fun u hu => hb u (hp.mem_iff.1 hu), by rw [hp.length_eq]; exact hl⟩
  unfold List.Nodup
  rw [List.pairwise_map]
  exact hs.imp fun h => by omega
theorem qpz {e : Entry} (h : qc7 e = 0) : 1 ≤ e.number ∧ e.number ≤ 9999 := by
  unfold qc7 at h
  split at h
  · cases h
  split at h
  · cases h
  omega
theorem qwb {l : List Entry} (h : ∀ j, j < l.length → chk l j) (i : Nat) : ∀ j, i < j → j < l.length → (l.getD i q0i).number < (l.getD j q0i).number
  | 0, h1, _ => by omega
  | j + 1, h1, h2 => by
    have q := (h (j + 1) h2).2.1
    have b := qpz (h j (by omega)).1
    rw [qjr, show j + 1 - 1 = j from rfl, w64 (by omega) (by omega)] at q
    have hq : (l.getD (j + 1) q0i).number = (l.getD j q0i).number + 1 := Decidable.byContradiction fun e => q ⟨by omega, e⟩
    by_cases e : i = j
    · subst e; omega
    · have := qwb h i j (by omega) (by omega); omega
theorem q6h {l : List Entry} (h : ∀ j, j < l.length → chk l j) : l.Pairwise fun x y => x.number < y.number := by
  rw [List.pairwise_iff_getElem]
  intro i j hi hj hl
  have := qwb h i j hl hj
  rwa [List.getD_eq_getElem?_getD, List.getElem?_eq_getElem hi, Option.getD_some, List.getD_eq_getElem?_getD, List.getElem?_eq_getElem hj, Option.getD_some] at this
theorem qxl {l : List Entry} (h : (qbc l).2 = 0) : (qen l).Pairwise (fun x y => x.first < y.first) := by
  have hc : ∀ j, j < l.length → chk l j := fun j hj => qh3 h hj
  have hf := (qm9 h).f
  rw [← qk2 h] at hf
  have h2 : ((qen l).map (·.first)).Pairwise (· < ·) := by
    rw [hf, List.pairwise_map]
    exact (q6h hc).filter _
  rwa [List.pairwise_map] at h2
theorem qz9 {l : List Entry} (h : (qbc l).2 = 0) : ∀ u ∈ qen l, 0 ≤ u.first ∧ u.first ≤ 100000 := by
  intro u hu
  have hc : ∀ j, j < l.length → chk l j := fun j hj => qh3 h hj
  have hf := (qm9 h).f
  rw [← qk2 h] at hf
  have hm : u.first ∈ (qen l).map (·.first) := List.mem_map.2 ⟨u, hu, rfl⟩
  rw [hf] at hm
  obtain ⟨e, he, hn⟩ := List.mem_map.1 hm
  have he := (List.mem_filter.1 he).1
  obtain ⟨j, hj, rfl⟩ := List.getElem_of_mem he
  have := qpz (hc j hj).1
  rw [List.getD_eq_getElem?_getD, List.getElem?_eq_getElem hj, Option.getD_some] at this
  omega
theorem q3x (l : List Entry) : (qbv l).length ≤ l.length := by
  have key : ∀ (l : List Entry) (us : List AUnit), (l.foldl qij us).length ≤ us.length + l.length := fun l => by
    induction l with
    | nil => intro us; simp
    | cons e l ih =>
      intro us
      have h1 := ih (qij us e)
      have h2 : (qij us e).length ≤ us.length + 1 := by
        unfold qij
        split
        · simp
        split
        · split <;> simp
        · simp
      simp only [List.foldl_cons, List.length_cons]
      omega
  have := key l []
  simpa [qbv] using this
theorem qbas {l : List Entry} (h : (qbc l).2 = 0) : l.length ≤ 80 := by
  unfold qbc at h
  split at h
  · cases h
  · omega
theorem qp0 {l : List Entry} : (qen l).length ≤ 80 := by
  by_cases h : (qbc l).2 = 0
  · rw [qk2 h]
    have := q3x l; have := qbas h
    omega
  · rw [qi1 h]; simp
theorem q6i {l : List Entry} (h : (qbc l).2 = 0) {d : List Nat} (hd : d.Perm (List.range (qen l).length)) : quu ((qht (qen l) d).map qbu) = some (okU (qht (qen l) d), (qen l).map qbu) := by
  unfold quu
  rw [qjq]
  simp only
  rw [qbar hd (qxl h)]
theorem qbat {l : List Entry} (h : (qbc l).2 = 0) {d : List Nat} (hd : d.Perm (List.range (qen l).length)) : okU (qht (qen l) d) :=
  qbmk hd (qxl h) (qz9 h) (by have := qp0 (l := l); omega)
theorem qbau (us : List AUnit) (d : List Nat) (j : Nat) : qht us (d ++ [j]) = qht us d ++ [us.getD j qjo] := by simp [qht]
theorem qbe1 (us : List AUnit) (d : List Nat) : (qht us d).length = d.length := by simp [qht]
def qja (file : ByteArray) (rrn : Int) (out : List ByteArray) (e : Entry) : List ByteArray :=
  if e.kind = 0 ∧ e.change.file = file ∧ e.change.rrn = rrn then (if out = [] then [e.change.before] else out) ++ [e.change.after] else out
def imgs (file : ByteArray) (rrn : Int) (l : List Entry) : List ByteArray := l.foldl (qja file rrn) []
theorem qre {l : List Entry} {file : ByteArray} {rrn : Int} {i : Nat} (h : i < l.length) : imgs file rrn (l.take (i + 1)) = qja file rrn (imgs file rrn (l.take i)) (l.getD i q0i) := by
  rw [qdw q0i h]; simp [imgs]
theorem qbe2 (file : ByteArray) (rrn : Int) (l : List Entry) : (imgs file rrn l).length ≤ l.length + 1 ∧ (imgs file rrn l = [] ∨ 1 ≤ (imgs file rrn l).length) := by
  have key : ∀ (l : List Entry) (o : List ByteArray), (l.foldl (qja file rrn) o).length ≤ (if o = [] then 1 else o.length) + l.length := fun l => by
    induction l with
    | nil => intro o; simp; split <;> simp_all
    | cons e l ih =>
      intro o
      have h1 := ih (qja file rrn o e)
      have h2 : (if qja file rrn o e = [] then 1 else (qja file rrn o e).length) ≤ (if o = [] then 1 else o.length) + 1 := by
        unfold qja
        (repeat' split) <;> simp_all
      simp only [List.foldl_cons, List.length_cons]
      omega
  have := key l []
  simp at this
  refine ⟨by unfold imgs; omega, ?_⟩
  cases imgs file rrn l <;> simp
def qhj (l : List Entry) (file : ByteArray) (rrn : Int) : List ByteArray × Int :=
  if (qbc l).2 ≠ 0 then ([], (qbc l).2) else if qbb file = false then ([], 7) else if rrn < 1 ∨ 60 < rrn then ([], 3) else (imgs file rrn l, 0)
end Go.Ev
namespace Go.Ev
theorem qbrg {us : List AUnit} {j : Nat} (h : j < (us.map fun u => D.cp (qdi u)).length) : (us.map fun u => D.cp (qdi u)).getD j .np = .cp [.i .i64 (us.getD j qjo).unit, .i .i64 (us.getD j qjo).first, .i .i64 (us.getD j qjo).last, .i .i64 (us.getD j qjo).state] := by
  rw [List.length_map] at h
  rw [List.getD_eq_getElem?_getD, List.getElem?_map, List.getElem?_eq_getElem h, List.getD_eq_getElem?_getD, List.getElem?_eq_getElem h]
  rfl
end Go.Ev
namespace Go.Ev
theorem q6j {us : List AUnit} {d : List Nat} (hd : d.Perm (List.range us.length)) : (qht us d).length = us.length := (qrd hd).length_eq
theorem qrf : ∀ (n : Nat) (d : List Nat), d.Nodup → (∀ k ∈ d, k < n) → d.length ≤ n
  | 0, d, _, h => by
    cases d with
    | nil => simp
    | cons a d => have := h a (by simp); omega
  | n + 1, d, hn, h => by
    by_cases hm : n ∈ d
    · have := qrf n (d.erase n) (hn.erase n) fun k hk => by
        have h1 := h k (List.mem_of_mem_erase hk)
        have h2 : k ≠ n := fun e => by subst e; exact (hn.not_mem_erase) hk
        omega
      rw [List.length_erase_of_mem hm] at this
      omega
    · have := qrf n d hn fun k hk => by
        have h1 := h k hk
        have : k ≠ n := fun e => hm (e ▸ hk)
        omega
      omega
end Go.Ev

namespace Go.Ev
structure DType where
  kind : Int
  length : Int
  scale : Int
deriving DecidableEq
def qbe (x : DType) : D := .agg [.i .i64 x.kind, .i .i64 x.length, .i .i64 x.scale]
def q00a : DType := ⟨0, 0, 0⟩
theorem qcg (x : DType) : (⟨x.kind, x.length, x.scale⟩ : DType) = x := rfl
def qbg : D → Option DType
  | .agg [.i .i64 a0, .i .i64 a1, .i .i64 a2] => some ⟨a0, a1, a2⟩
  | _ => none
theorem qfg {d : D} {x : DType} (h : qbg d = some x) : dle d (qbe x) := by
  unfold qbg at h
  split at h
  · cases h; exact q02 _
  · cases h
theorem qc2 : (⟨0, 0, 0⟩ : DType) = q00a := rfl
structure Field where
  name : ByteArray
  type_ : DType
deriving DecidableEq
def q05 (x : Field) : D := .agg [.s x.name, .i .i64 x.type_.kind, .i .i64 x.type_.length, .i .i64 x.type_.scale]
def q04 : Field := ⟨⟨#[]⟩, q00a⟩
theorem qc8 (x : Field) : (⟨x.name, x.type_⟩ : Field) = x := rfl
def qb5 : D → Option Field
  | .agg [.s a0, .i .i64 a1, .i .i64 a2, .i .i64 a3] => some ⟨a0, ⟨a1, a2, a3⟩⟩
  | _ => none
theorem qnx (x : Field) : qb5 (q05 x) = some x := rfl
theorem qkc {d : D} {x : Field} (h : qb5 d = some x) : dle d (q05 x) := by
  unfold qb5 at h
  split at h
  · cases h; exact q02 _
  · cases h
theorem qds : (⟨⟨#[]⟩, q00a⟩ : Field) = q04 := rfl
theorem qc9 {a0 b0 : ByteArray} {a1 b1 : Int} {a2 b2 : Int} {a3 b3 : Int} : qdg [.s, .i, .i, .i] [.s a0, .i .i64 a1, .i .i64 a2, .i .i64 a3] [.s b0, .i .i64 b1, .i .i64 b2, .i .i64 b3] = some (eqB (⟨a0, ⟨a1, a2, a3⟩⟩ : Field) ⟨b0, ⟨b1, b2, b3⟩⟩) := by
  simp only [qdg, qil, qdr, ↓reduceIte, Option.some.injEq, Bool.and_true]; rw [Bool.eq_iff_iff]; simp [eqB]
theorem q6k (l : List Field) (k : Nat) : (l.map q05).getD k (q05 q04) = q05 (l.getD k q04) := by
  simp only [List.getD, List.getElem?_map]
  cases l[k]? <;> rfl
theorem qb1 (l : List Field) (k : Nat) : (l.map q05).getD k (.agg [.s ⟨#[]⟩, .i .i64 0, .i .i64 0, .i .i64 0]) = q05 (l.getD k q04) := q6k l k
theorem qda (l : List Field) : decL 4 qb5 (.sl 4 (l.map q05)) = some l := qfx qnx l
theorem qdb (l : List Field) : decM qb5 (l.map q05) = some l := qfw qnx l
structure KField where
  name : ByteArray
  descending : Bool
deriving DecidableEq
def q06 (x : KField) : D := .agg [.s x.name, .b x.descending]
def qdn : KField := ⟨⟨#[]⟩, false⟩
theorem qcq (x : KField) : (⟨x.name, x.descending⟩ : KField) = x := rfl
def qbx : D → Option KField
  | .agg [.s a0, .b a1] => some ⟨a0, a1⟩
  | _ => none
theorem qm0 (x : KField) : qbx (q06 x) = some x := rfl
theorem qny {d : D} {x : KField} (h : qbx d = some x) : dle d (q06 x) := by
  unfold qbx at h
  split at h
  · cases h; exact q02 _
  · cases h
theorem qdc : (⟨⟨#[]⟩, false⟩ : KField) = qdn := rfl
theorem qcr {a0 b0 : ByteArray} {a1 b1 : Bool} : qdg [.s, .b] [.s a0, .b a1] [.s b0, .b b1] = some (eqB (⟨a0, a1⟩ : KField) ⟨b0, b1⟩) := by
  simp only [qdg, qil, qdr, ↓reduceIte, Option.some.injEq, Bool.and_true]; rw [Bool.eq_iff_iff]; simp [eqB]
theorem q3y (l : List KField) (k : Nat) : (l.map q06).getD k (q06 qdn) = q06 (l.getD k qdn) := by
  simp only [List.getD, List.getElem?_map]
  cases l[k]? <;> rfl
theorem qbr (l : List KField) (k : Nat) : (l.map q06).getD k (.agg [.s ⟨#[]⟩, .b false]) = q06 (l.getD k qdn) := q3y l k
theorem qcs (l : List KField) : decL 2 qbx (.sl 2 (l.map q06)) = some l := qfx qm0 l
theorem qct (l : List KField) : decM qbx (l.map q06) = some l := qfw qm0 l
structure Fmt where
  name : ByteArray
  fields : List Field
deriving DecidableEq
def qbw (x : Fmt) : D := .agg [.s x.name, .sl 4 (x.fields.map q05)]
def zFmt : Fmt := ⟨⟨#[]⟩, []⟩
theorem qec (x : Fmt) : (⟨x.name, x.fields⟩ : Fmt) = x := rfl
def qb3 : D → Option Fmt
  | .agg [.s a0, a1] => match (decL 4 qb5) a1 with
    | some b1 => some ⟨a0, b1⟩
    | _ => none
  | _ => none
theorem qdx {d : D} {x : Fmt} (h : qb3 d = some x) : dle d (qbw x) := by
  unfold qb3 at h
  split at h
  · split at h
    · rename_i h1
      cases h
      simp only [dle, dles, qbw, and_true, true_and]
      exact (q0x qkc) h1
    · cases h
  · cases h
theorem qe9 : (⟨⟨#[]⟩, []⟩ : Fmt) = zFmt := rfl
structure File where
  name : ByteArray
  format : Fmt
  keys : List KField
  unique : Bool
deriving DecidableEq
def qb6 (x : File) : D := .agg [.s x.name, .s x.format.name, .sl 4 (x.format.fields.map q05), .sl 2 (x.keys.map q06), .b x.unique]
def quv : File := ⟨⟨#[]⟩, zFmt, [], false⟩
theorem qdt (x : File) : (⟨x.name, x.format, x.keys, x.unique⟩ : File) = x := rfl
def qci : D → Option File
  | .agg [.s a0, .s a1, a2, a3, .b a4] => match (decL 4 qb5) a2, (decL 2 qbx) a3 with
    | some b2, some b3 => some ⟨a0, ⟨a1, b2⟩, b3, a4⟩
    | _, _ => none
  | _ => none
theorem qhc {d : D} {x : File} (h : qci d = some x) : dle d (qb6 x) := by
  unfold qci at h
  split at h
  · split at h
    · rename_i h2 h3
      cases h
      simp only [dle, dles, qb6, and_true, true_and]
      exact ⟨(q0x qkc) h2, (q0x qny) h3⟩
    · cases h
  · cases h
theorem qed : (⟨⟨#[]⟩, zFmt, [], false⟩ : File) = quv := rfl
structure Rec where
  deleted : Bool
  bytes : ByteArray
deriving DecidableEq
def qbp (x : Rec) : D := .agg [.b x.deleted, .s x.bytes]
def zRec : Rec := ⟨false, ⟨#[]⟩⟩
theorem qee (x : Rec) : (⟨x.deleted, x.bytes⟩ : Rec) = x := rfl
def qc5 : D → Option Rec
  | .agg [.b a0, .s a1] => some ⟨a0, a1⟩
  | _ => none
theorem qp1 (x : Rec) : qc5 (qbp x) = some x := rfl
theorem qk3 {d : D} {x : Rec} (h : qc5 d = some x) : dle d (qbp x) := by
  unfold qc5 at h
  split at h
  · cases h; exact q02 _
  · cases h
theorem qfa : (⟨false, ⟨#[]⟩⟩ : Rec) = zRec := rfl
theorem qef {a0 b0 : Bool} {a1 b1 : ByteArray} : qdg [.b, .s] [.b a0, .s a1] [.b b0, .s b1] = some (eqB (⟨a0, a1⟩ : Rec) ⟨b0, b1⟩) := by
  simp only [qdg, qil, qdr, ↓reduceIte, Option.some.injEq, Bool.and_true]; rw [Bool.eq_iff_iff]; simp [eqB]
theorem qbe3 (l : List Rec) (k : Nat) : (l.map qbp).getD k (qbp zRec) = qbp (l.getD k zRec) := by
  simp only [List.getD, List.getElem?_map]
  cases l[k]? <;> rfl
theorem qcu (l : List Rec) (k : Nat) : (l.map qbp).getD k (.agg [.b false, .s ⟨#[]⟩]) = qbp (l.getD k zRec) := qbe3 l k
theorem qeg (l : List Rec) : decL 2 qc5 (.sl 2 (l.map qbp)) = some l := qfx qp1 l
theorem qeh (l : List Rec) : decM qc5 (l.map qbp) = some l := qfw qp1 l
structure Table where
  file : File
  records : List Rec
deriving DecidableEq
def q0g (x : Table) : D := .agg [.s x.file.name, .s x.file.format.name, .sl 4 (x.file.format.fields.map q05), .sl 2 (x.file.keys.map q06), .b x.file.unique, .sl 2 (x.records.map qbp)]
def q0z : Table := ⟨quv, []⟩
theorem qdf (x : Table) : (⟨x.file, x.records⟩ : Table) = x := rfl
def q0y : D → Option Table
  | .agg [.s a0, .s a1, a2, a3, .b a4, a5] => match (decL 4 qb5) a2, (decL 2 qbx) a3, (decL 2 qc5) a5 with
    | some b2, some b3, some b5 => some ⟨⟨a0, ⟨a1, b2⟩, b3, a4⟩, b5⟩
    | _, _, _ => none
  | _ => none
theorem qnz (x : Table) : q0y (q0g x) = some x := by
  simp [q0y, q0g, (qfx qnx), (qfx qm0), (qfx qp1)]
theorem q01 {d : D} {x : Table} (h : q0y d = some x) : dle d (q0g x) := by
  unfold q0y at h
  split at h
  · split at h
    · rename_i h2 h3 h5
      cases h
      simp only [dle, dles, q0g, and_true, true_and]
      exact ⟨(q0x qkc) h2, (q0x qny) h3, (q0x qk3) h5⟩
    · cases h
  · cases h
theorem qdy : (⟨quv, []⟩ : Table) = q0z := rfl
theorem qc0 (l : List Table) : decL 6 q0y (.sl 6 (l.map q0g)) = some l := qfx qnz l
theorem qcm (l : List Table) : decM q0y (l.map q0g) = some l := qfw qnz l
structure Val where
  n : Int
  s : ByteArray
deriving DecidableEq
def qb7 (x : Val) : D := .agg [.i .i64 x.n, .s x.s]
def zVal : Val := ⟨0, ⟨#[]⟩⟩
theorem qdo (x : Val) : (⟨x.n, x.s⟩ : Val) = x := rfl
def qde : D → Option Val
  | .agg [.i .i64 a0, .s a1] => some ⟨a0, a1⟩
  | _ => none
theorem qbav {d : D} {x : Val} (h : qde d = some x) : dle d (qb7 x) := by
  unfold qde at h
  split at h
  · cases h; exact q02 _
  · cases h
theorem qei : (⟨0, ⟨#[]⟩⟩ : Val) = zVal := rfl
end Go.Ev

namespace Go.Ev
theorem qcv (l : List Int) (k : Nat) : (l.map (D.i .i64)).getD k (.i .i64 0) = .i .i64 (l.getD k 0) := by
  simp only [List.getD, List.getElem?_map]
  cases l[k]? <;> rfl
theorem qbe4 (l : List Int) (k : Nat) : (l.map (D.i .u8)).getD k (.i .u8 0) = .i .u8 (l.getD k 0) := by
  simp only [List.getD, List.getElem?_map]
  cases l[k]? <;> rfl
theorem qd7 (l : List Int) : decL 1 (decI .i64) (.sl 1 (l.map (D.i .i64))) = some l := qfx (fun x => by simp [decI]) l
theorem qer (l : List Int) : decM (decI .i64) (l.map (D.i .i64)) = some l := qfw (fun x => by simp [decI]) l
end Go.Ev

namespace Go.Ev
structure Ans where
  tables : List Table
  n : Int
  units : List Int
  err : Int
deriving DecidableEq
def qd4 (x : Ans) : D := .agg [.sl 6 (x.tables.map q0g), .i .i64 x.n, .sl 1 (x.units.map (D.i .i64)), .i .i64 x.err]
def zAns : Ans := ⟨[], 0, [], 0⟩
theorem qjs (x : Ans) : (⟨x.tables, x.n, x.units, x.err⟩ : Ans) = x := rfl
def qgm : D → Option Ans
  | .agg [a0, .i .i64 a1, a2, .i .i64 a3] => match (decL 6 q0y) a0, (decL 1 (decI .i64)) a2 with
    | some b0, some b2 => some ⟨b0, a1, b2, a3⟩
    | _, _ => none
  | _ => none
theorem quw (x : Ans) : qgm (qd4 x) = some x := by
  simp [qgm, qd4, (qfx qnz), (qfx (qbeq _))]
theorem qbaw {d : D} {x : Ans} (h : qgm d = some x) : dle d (qd4 x) := by
  unfold qgm at h
  split at h
  · split at h
    · rename_i h0 h2
      cases h
      simp only [dle, dles, qd4, and_true, true_and]
      exact ⟨(q0x q01) h0, (q0x qg0) h2⟩
    · cases h
  · cases h
theorem qlh : (⟨[], 0, [], 0⟩ : Ans) = zAns := rfl
theorem qjt (l : List Ans) : decL 4 qgm (.sl 4 (l.map qd4)) = some l := qfx quw l
theorem qju (l : List Ans) : decM qgm (l.map qd4) = some l := qfw quw l
end Go.Ev

namespace Go.Ev
open Go.Proofs Ty
set_option maxRecDepth 10000
set_option maxHeartbeats 4000000
theorem isK3 (n : Int) : isK Tryz.prog 3 (.i .i64 n) = true := by unfold isK; rw [Tryz.underlying3]; simp
theorem qbiu (us : List AUnit) : ∀ d ∈ us.map keyU, isK Tryz.prog 3 d = true := fun d hd => by
  obtain ⟨u, _, rfl⟩ := List.mem_map.1 hd
  exact isK3 _
theorem q0a {P Q : Prop} (h : P) (e : P = Q := by simp only [Bool.or_eq_true, Bool.and_eq_true, Bool.or_eq_false_iff, Bool.and_eq_false_iff, Bool.not_eq_true', Bool.not_eq_false', Bool.not_eq_true, Bool.not_eq_false, decide_eq_true_eq, decide_eq_false_iff_not, beq_iff_eq, bne_iff_ne, beq_eq_false_iff_ne, bne_eq_false_iff_eq, ne_eq, Int.not_lt, Int.not_le, D.b.injEq, D.i.injEq, D.s.injEq, D.agg.injEq, D.sl.injEq, true_and, and_true, List.cons.injEq, gt_iff_lt, ge_iff_le,  Bool.cond_true_left, Bool.cond_false_right, Bool.cond_true_right, Bool.cond_false_left, qv8, qdr, qbiq, qbir, qbio, qbip]; exact rfl) : Q := e.mp h
theorem q0v {P Q : Prop} (q : Q) (e : P = Q := by simp only [Bool.or_eq_true, Bool.and_eq_true, Bool.or_eq_false_iff, Bool.and_eq_false_iff, Bool.not_eq_true', Bool.not_eq_false', Bool.not_eq_true, Bool.not_eq_false, decide_eq_true_eq, decide_eq_false_iff_not, beq_iff_eq, bne_iff_ne, beq_eq_false_iff_ne, bne_eq_false_iff_eq, ne_eq, Int.not_lt, Int.not_le, D.b.injEq, D.i.injEq, D.s.injEq, D.agg.injEq, D.sl.injEq, true_and, and_true, List.cons.injEq, gt_iff_lt, ge_iff_le,  Bool.cond_true_left, Bool.cond_false_right, Bool.cond_true_right, Bool.cond_false_left, qv8, qdr, qbiq, qbir, qbio, qbip]; exact rfl) : P := e.mpr q
theorem siQ {P Q : Prop} (q : Q) (e : P = Q := by simp (maxSteps := 1000000) only [go_sem, ↓reduceIte, reduceCtorEq, Nat.reduceEqDiff, Nat.reduceLT, Nat.reduceLeDiff, Nat.reduceMul, Nat.reduceAdd, Nat.reduceSub, reduceDIte, Nat.reduceBEq, Nat.reduceBNe]; exact rfl) : P := e.mpr q
theorem subQ {P Q : Prop} (q : Q) (e : P = Q := by simp (maxSteps := 1000000) only [forall_eq, V.ptr.injEq, V.row.injEq, V.rp.injEq, V.mref.injEq, exists_eq_left', and_assoc, rhoV, qj2, qy1, rhoO, qy2, qsb, rho1, HS.obj?, forall_eq', qi0, qpp, qq5, nfL, vs, vss, vds, vd1, os, aget, go_sem, ↓reduceIte, reduceCtorEq, Nat.reduceEqDiff, Nat.reduceLT, Nat.reduceLeDiff, Nat.reduceMul, Nat.reduceAdd, Nat.reduceSub, reduceDIte, Nat.reduceBEq, Nat.reduceBNe]; exact rfl) : P := e.mpr q
theorem inQ {P Q : Prop} (q : Q) (e : P = Q := by simp only [qlv, qgz, inO, inO2, inO1, inOs, List.append_nil, List.nil_append, Nat.mul_zero, List.cons_append, Nat.zero_add, Nat.reduceAdd, Nat.reduceMul, List.length_map, q0u, q0r, qbu, qbe, q05, qbw, q06, qb6, qbp, q0g, qb7, qd4]; exact rfl) : P := e.mpr q
theorem follows : Tryz.prog.follows .mixedOrders = true := by kernel_rfl
noncomputable def e41 : List O → Option (Prop × O)
  | [.d (.i .i64 n), .d (.i .i64 least), .d (.i .i64 most)] => some (True, .d (.b (decide (least ≤ n) && decide (n ≤ most))))
  | _ => none
noncomputable def q6l : FuncId → List O → Option (Prop × O) := addT (fun _ _ => none) 41 e41
noncomputable def e100 : List O → Option (Prop × O)
  | [.d (.i .i64 n), .d (.i .i64 least), .d (.i .i64 most)] => some (True, .d (.b (decide (least ≤ n) && decide (n ≤ most))))
  | _ => none
noncomputable def q00b : FuncId → List O → Option (Prop × O) := addT q6l 100 e100
noncomputable def e76 : List O → Option (Prop × O)
  | [.d (.b b)] => some (True, .d (.i .i64 (if b = true then 1 else 0)))
  | _ => none
noncomputable def q6m : FuncId → List O → Option (Prop × O) := addT q00b 76 e76
noncomputable def e81 : List O → Option (Prop × O)
  | [.d (.i .u8 c)] => some (True, .d (.b (decide (65 ≤ c) && decide (c ≤ 90))))
  | _ => none
noncomputable def q6n : FuncId → List O → Option (Prop × O) := addT q6m 81 e81
noncomputable def e82 : List O → Option (Prop × O)
  | [.d (.i .u8 c)] => some (True, .d (.b (decide (48 ≤ c) && decide (c ≤ 57))))
  | _ => none
noncomputable def q6o : FuncId → List O → Option (Prop × O) := addT q6n 82 e82
noncomputable def e51 : List O → Option (Prop × O)
  | [.d (.s s)] => some (True, .d (.b (qbb s)))
  | _ => none
noncomputable def q6p : FuncId → List O → Option (Prop × O) := addT q6o 51 e51
noncomputable def e101 : List O → Option (Prop × O)
  | [.d (.s s)] => some (True, .d (.b (qbb s)))
  | _ => none
noncomputable def q00c : FuncId → List O → Option (Prop × O) := addT q6p 101 e101
noncomputable def e128 : List O → Option (Prop × O)
  | [.d x_c] => match q00 x_c with
    | some c => some (True, .d (.i .i64 (qk1 c)))
    | _ => none
  | _ => none
noncomputable def q00d : FuncId → List O → Option (Prop × O) := addT q00c 128 e128
noncomputable def e127 : List O → Option (Prop × O)
  | [.d x_e] => match q0w x_e with
    | some e => some (True, .d (.i .i64 (qsc e)))
    | _ => none
  | _ => none
noncomputable def q00e : FuncId → List O → Option (Prop × O) := addT q00d 127 e127
noncomputable def e102 : List O → Option (Prop × O)
  | [.d x_e] => match q0w x_e with
    | some e => some (True, .d (.i .i64 (qc7 e)))
    | _ => none
  | _ => none
noncomputable def q00f : FuncId → List O → Option (Prop × O) := addT q00e 102 e102
noncomputable def e79 : List O → Option (Prop × O)
  | [.d x_e] => match q0w x_e with
    | some e => some (True, .d (.i .i64 (qc7 e)))
    | _ => none
  | _ => none
noncomputable def q6q : FuncId → List O → Option (Prop × O) := addT q00f 79 e79
noncomputable def e33 : List O → Option (Prop × O)
  | [.d x_l] => match decL 8 q0w x_l with
    | some l => some (True, .d (.b (qld l)))
    | _ => none
  | _ => none
noncomputable def q6r : FuncId → List O → Option (Prop × O) := addT q6q 33 e33
noncomputable def e86 : List O → Option (Prop × O)
  | [.d x_l, .d (.i .i64 unit)] => match decL 8 q0w x_l with
    | some l => some (l.length ≤ 1000000, .d (.b (begins l unit)))
    | _ => none
  | _ => none
noncomputable def q6s : FuncId → List O → Option (Prop × O) := addT q6r 86 e86
noncomputable def e87 : List O → Option (Prop × O)
  | [.d x_l, .d (.i .i64 unit)] => match decL 8 q0w x_l with
    | some l => some (l.length ≤ 1000000, .d (.i .i64 (ends l unit)))
    | _ => none
  | _ => none
noncomputable def q6t : FuncId → List O → Option (Prop × O) := addT q6s 87 e87
noncomputable def e57 : List O → Option (Prop × O)
  | [.d x_l, .d (.i .i64 unit)] => match decL 8 q0w x_l with
    | some l => some (l.length ≤ 1000000, .d (.b (isOpen l unit)))
    | _ => none
  | _ => none
noncomputable def q6u : FuncId → List O → Option (Prop × O) := addT q6t 57 e57
noncomputable def e103 : List O → Option (Prop × O)
  | [.d x_l, .d x_e] => match decL 8 q0w x_l, q0w x_e with
    | some l, some e => some (l.length ≤ 1000000, .d (.i .i64 (qep l e)))
    | _, _ => none
  | _ => none
noncomputable def q00g : FuncId → List O → Option (Prop × O) := addT q6u 103 e103
noncomputable def e80 : List O → Option (Prop × O)
  | [.d x_l] => match decL 8 q0w x_l with
    | some l => some (l.length ≤ 1000000, .tup [.d (.i .i64 (qbc l).1), .d (.i .i64 (qbc l).2)])
    | _ => none
  | _ => none
noncomputable def q6v : FuncId → List O → Option (Prop × O) := addT q00g 80 e80
noncomputable def e50 : List O → Option (Prop × O)
  | [.d x_l] => match decL 8 q0w x_l with
    | some l => some (l.length ≤ 1000000, .d (.i .i64 (qbc l).2))
    | _ => none
  | _ => none
noncomputable def q6w : FuncId → List O → Option (Prop × O) := addT q6v 50 e50
noncomputable def e61 : List O → Option (Prop × O)
  | [.d x_l] => match decL 8 q0w x_l with
    | some l => some (l.length ≤ 1000000, .tup [.d (.mp ((qen l).map keyU) ((qen l).map fun u => .cp (qdi u))), .d (.i .i64 (qbc l).1), .d (.i .i64 (qbc l).2)])
    | _ => none
  | _ => none
noncomputable def q6x : FuncId → List O → Option (Prop × O) := addT q6w 61 e61
noncomputable def e46 : List O → Option (Prop × O)
  | [.d x_l] => match decL 8 q0w x_l with
    | some l => some (l.length ≤ 1000000, .tup [.d (.i .i64 (qbc l).1), .d (.i .i64 (qbc l).2)])
    | _ => none
  | _ => none
noncomputable def q6y : FuncId → List O → Option (Prop × O) := addT q6x 46 e46
noncomputable def e12 : List O → Option (Prop × O)
  | [.d x_l] => match decL 8 q0w x_l with
    | some l => some (l.length ≤ 1000000, .own 50 8 (l.map q0r))
    | _ => none
  | _ => none
noncomputable def q6z : FuncId → List O → Option (Prop × O) := addT q6y 12 e12
noncomputable def e28 : List O → Option (Prop × O)
  | [.d x_l] => match decL 8 q0w x_l with
    | some l => some (l.length ≤ 1000000, .tup [.d (.sl 4 ((qen l).map qbu)), .d (.i .i64 (qbc l).2)])
    | _ => none
  | _ => none
noncomputable def q60 : FuncId → List O → Option (Prop × O) := addT q6z 28 e28
noncomputable def mkC (n : Nat) (t : FuncId → List O → Option (Prop × O)) : Cfg := ⟨Tryz.prog, n, t, (fun _ _ => []), [], (fun _ => none)⟩
attribute [go_sem] qbea qbab qbeb qbac q51 e1_n e1_g qzs qbae qbad q3k q52 qblo qbaf qbec aget qbag qbah q53 qbud qbai q3l qblp qbaj qblq qbed qbpz qblr qbee q3m qbef qbls qzt qbeg qzu qbeh qbei qyt qbej q56 q3n q57 qblt qbel V.cells V.one D.one D.cells newObj nm HS.isFree HS.isLive q5z q5y List.map_cons List.map_nil Option.bind_some Option.bind_none putL List.cons_append List.nil_append qzx qbal q58 qul qzy qmy true_and and_true qdq qgq cval Option.map_some Option.map_none loadAt storeAt ldV ldD mkAgg V.asD qco List.take_succ_cons List.take_zero List.drop_succ_cons List.drop_zero List.getElem?_cons_zero List.getElem?_cons_succ List.getElem?_nil List.all_cons List.all_nil Bool.and_true Bool.true_and Bool.and_self List.length_cons List.length_nil vals qfm qgk argO toD3 toD2 toD1 toDs O.ok O.ok2 O.ok1 O.flat O.flat1 D.flat D.flatA inO inO2 inO1 inOs List.filterMap_nil List.filterMap_cons List.filter_nil List.filter_cons List.nodup_nil decide_true decide_false Bool.not_true Bool.not_false not_true_eq_false not_false_eq_true or_false false_or and_false false_and ne_eq List.append_nil optB qo4 qg3 beq_self_eq_true List.mapM_cons List.mapM_nil Option.pure_def Option.bind_eq_bind true_or or_true or_self qel ite_self not_true not_false_iff ite_true ite_false if_true if_false Bool.false_eq_true Bool.true_eq_false List.any_nil List.any_cons List.contains_nil List.contains_cons eq_self qjf qjh qk9 qmg qla qnp qkk qgy qry lenOf binD qtt unD qqo q55 q54 qzv qku qkv q4m qtu qbak qzw qbek List.range_zero Nat.zero_le Nat.zero_mul Nat.zero_add Nat.add_zero List.length_append List.take_length List.isEmpty_nil List.isEmpty_cons V.neg List.flatMap_nil and_self List.range_succ forall_const implies_true Nat.not_lt_zero qzz qbam qbem qy0 qr8 qbeo qban qgx qfv mvAt qnt qmo qben ole oles dle dles List.nodup_cons List.mem_cons List.not_mem_nil List.drop_length Nat.le_refl Nat.lt_irrefl id_eq Option.some.injEq Bool.or_false Bool.false_or Bool.or_self Bool.or_true Bool.true_or false_implies Bool.and_false Bool.false_and List.reverse_cons List.reverse_nil sh1 qrz mget qiv qgu qn9 qn7 qn8 Option.isSome_some Option.isSome_none Bool.cond_true_left Bool.cond_false_right Bool.cond_true_right Bool.cond_false_left beq_true beq_false Bool.not_not imp_self qlp notB qtv qje qji qr6 D.splice kEq Option.toList_some Option.toList_none adel List.getD_cons_zero List.getD_cons_succ qke bxId qjg hget one1 qgo qhw
attribute [go_sem] sz3 ag3 zr3 zo3 zd3 by3 sl3 st3 bo3 pt3 ck3 sz5 ag5 zr5 zo5 zd5 by5 sl5 st5 bo5 pt5 ck5 sz4 ag4 zr4 zo4 zd4 by4 sl4 st4 bo4 pt4 sz9 ag9 zr9 zo9 zd9 by9 sl9 un9 st9 bo9 pt9 ck9 sz48 ag48 zr48 zd48 by48 sl48 st48 bo48 pt48 qbp8 qbp9 qbqa qbqb qbqc qbqd qbqe qbqf qbqg qbqh pl48 ek48 sz50 ag50 zr50 zd50 by50 sl50 st50 bo50 pt50 qbqi qbqj qbqk qbql qbqm qbqn qbqo qbqp pl50 ek50 sz23 ag23 zr23 zo23 zd23 by23 el23 sl23 un23 st23 bo23 pt23 sz26 ag26 zr26 zo26 zd26 by26 sl26 st26 bo26 pt26 ck26 sz61 ag61 zr61 zd61 by61 sl61 st61 bo61 pt61 qbqq qbqr qbqs qbqt qbqu qbqv qbqw qbqx pl61 ek61 sz65 ag65 by65 sl65 st65 bo65 pt65 mt65 sz99 ag99 zr99 zo99 zd99 by99 sl99 st99 bo99 pt99 sz53 ag53 zr53 zo53 zd53 by53 el53 sl53 un53 st53 bo53 pt53 sz56 ag56 zr56 zo56 zd56 by56 el56 sl56 un56 st56 bo56 pt56 qbvi qbvj qbvk qbvl qbvm qbvn qbvo qbvp qbvq qbvr qbvs qbvt qbwe qbwf qbwg qbwh qbwi qbwj qbwk qbwl qbwm qbwn qbwo qbwp qbwq sz108 qbuo qbup qbuq qbur qbus qbut qbuu qbuv qbly qblz qbl0 qbl1 qbl2 qbl3 qbuw qbux qbwr qbws qbwt qbwu qbwv qbww qbwx qbwy qbwz qbmc qbmd qbme qbmf qbw0 qbw1 qbw2 qbw3 qbw4 qbw5 qbw6 qbw7 qbw8 qbw9 qbxa qbxb qbxc sz31 ag31 zr31 zo31 zd31 by31 el31 sl31 un31 st31 bo31 pt31 sz110 qbuy qbuz qbu0 qbu1 qbu2 qbu3 qbu4 qbu5 qbl4 qbl5 qbl6 qbl7 qbu6 qbu7 sz72 ag72 zr72 zo72 zd72 by72 el72 sl72 un72 st72 bo72 pt72 sz74 ag74 zr74 zd74 by74 sl74 st74 bo74 pt74 qbqy qbqz qbq0 qbq1 pl74 sz75 ag75 zr75 zo75 zd75 by75 el75 sl75 un75 st75 bo75 pt75 sz77 ag77 zr77 zd77 by77 sl77 st77 bo77 pt77 qbq2 qbq3 qbq4 qbq5 qbq6 qbq7 qbq8 qbq9 pl77 sz113 qbu8 qbu9 qbva qbvb qbvc qbvd qbve qbvf qbl8 qbl9 qbma qbmb qbvg qbvh qbvu qbvv qbvw qbvx qbvy qbvz qbv0 qbv1 qbv2 qbv3 qbv4 qbv5 qbv6 qbv7 qbv8 qbv9 qbwa qbwb qbwc qbwd sz78 ag78 zr78 zo78 zd78 by78 el78 sl78 un78 st78 bo78 pt78 sz80 ag80 zr80 zd80 by80 sl80 st80 bo80 pt80 qbra qbrb qbrc qbrd pl80 sz104 qbue qbuf qbug qbuh qbui qbuj qbuk qbul qblu qblv qblw qblx qbum qbun sz22 ag22 zr22 zo22 zd22 by22 el22 sl22 un22 st22 bo22 pt22 sz69 ag69 zr69 zo69 zd69 by69 el69 sl69 un69 st69 bo69 pt69 sz33 ag33 zr33 zd33 by33 sl33 st33 bo33 pt33 qbp0 qbp1 qbp2 qbp3 qbp4 qbp5 qbp6 qbp7 pl33
end Go.Ev

namespace Go.Ev
theorem q41 {l : List Entry} {file : ByteArray} {rrn : Int} (h : ¬(qbc l).2 = 0) : qhj l file rrn = ([], (qbc l).2) := by rw [qhj, if_pos h]
theorem qtk {l : List Entry} {file : ByteArray} {rrn : Int} (h : (qbc l).2 = 0) (h2 : qbb file = false) : qhj l file rrn = ([], 7) := by rw [qhj, if_neg (fun e => e h), if_pos h2]
theorem q42 {l : List Entry} {file : ByteArray} {rrn : Int} (h : (qbc l).2 = 0) (h2 : qbb file = true) (h3 : rrn < 1 ∨ 60 < rrn) : qhj l file rrn = ([], 3) := by rw [qhj, if_neg (fun e => e h), if_neg (by simp [h2]), if_pos h3]
theorem qbax {l : List Entry} {file : ByteArray} {rrn : Int} (h : (qbc l).2 = 0) (h2 : qbb file = true) (h3 : ¬(rrn < 1 ∨ 60 < rrn)) : qhj l file rrn = (imgs file rrn l, 0) := by rw [qhj, if_neg (fun e => e h), if_neg (by simp [h2]), if_neg h3]
theorem qxm {l : List Entry} {file : ByteArray} {rrn : Int} {i : Nat} (h : i < l.length) (h1 : ¬((l.getD i q0i).kind = 0 ∧ (l.getD i q0i).change.file = file ∧ (l.getD i q0i).change.rrn = rrn)) : imgs file rrn (l.take (i + 1)) = imgs file rrn (l.take i) := by
  rw [qre h, qja, if_neg h1]
theorem qux {l : List Entry} {file : ByteArray} {rrn : Int} {i : Nat} (h : i < l.length) (h1 : (l.getD i q0i).kind = 0 ∧ (l.getD i q0i).change.file = file ∧ (l.getD i q0i).change.rrn = rrn) (h2 : (imgs file rrn (l.take i)).length = 0) : imgs file rrn (l.take (i + 1)) = imgs file rrn (l.take i) ++ [(l.getD i q0i).change.before] ++ [(l.getD i q0i).change.after] := by
  have := List.eq_nil_of_length_eq_zero h2
  rw [qre h, qja, if_pos h1, this, if_pos rfl]; rfl
theorem qxn {l : List Entry} {file : ByteArray} {rrn : Int} {i : Nat} (h : i < l.length) (h1 : (l.getD i q0i).kind = 0 ∧ (l.getD i q0i).change.file = file ∧ (l.getD i q0i).change.rrn = rrn) (h2 : ¬(imgs file rrn (l.take i)).length = 0) : imgs file rrn (l.take (i + 1)) = imgs file rrn (l.take i) ++ [(l.getD i q0i).change.after] := by
  rw [qre h, qja, if_pos h1, if_neg (fun e => h2 (by rw [e]; rfl))]
theorem q61 (l : List Entry) (file : ByteArray) (rrn : Int) (i : Nat) : (imgs file rrn (l.take i)).length ≤ l.length + 1 := by
  have h := (qbe2 file rrn (l.take i)).1
  have := List.length_take_le i l
  have : (l.take i).length ≤ l.length := by rw [List.length_take]; omega
  omega
theorem qmr (l : List ByteArray) (k : Nat) : (l.map D.s).getD k (.s ⟨#[]⟩) = .s (l.getD k ⟨#[]⟩) := by
  simp only [List.getD, List.getElem?_map]
  cases l[k]? <;> rfl
theorem qxo (x : ByteArray) : decS (D.s x) = some x := rfl
theorem qrg (l : List ByteArray) : decL 1 decS (.sl 1 (l.map D.s)) = some l := qfx qxo l
theorem qrh (l : List ByteArray) : decM decS (l.map D.s) = some l := qfw qxo l
theorem q62 : qbc [⟨1, 1, 1, q09⟩, ⟨2, 0, 1, ⟨⟨#[70]⟩, 1, 1, ⟨#[65]⟩, ⟨#[66]⟩⟩⟩, ⟨3, 2, 1, q09⟩] = (0, 0) := by decide +kernel
theorem q3z : qen [⟨1, 1, 1, q09⟩, ⟨2, 0, 1, ⟨⟨#[70]⟩, 1, 1, ⟨#[65]⟩, ⟨#[66]⟩⟩⟩, ⟨3, 2, 1, q09⟩] = [⟨1, 1, 3, 0⟩] := by decide +kernel
theorem q30 : qhj [⟨1, 1, 1, q09⟩, ⟨2, 0, 1, ⟨⟨#[70]⟩, 1, 1, ⟨#[65]⟩, ⟨#[66]⟩⟩⟩, ⟨3, 2, 1, q09⟩] ⟨#[70]⟩ 1 = ([⟨#[65]⟩, ⟨#[66]⟩], 0) := by decide +kernel
end Go.Ev
namespace Go.Ev
theorem qwc {f : ByteArray} (h : (if qbb f = false then (7 : Int) else 0) = 0) : qbb f = true := by
  split at h
  · cases h
  · simpa using ‹¬qbb f = false›
theorem qsd {f : ByteArray} (h : ¬(if qbb f = false then (7 : Int) else 0) = 0) : qbb f = false := by
  split at h
  · assumption
  · exact absurd rfl h
theorem qbiv {α β : Type} {f : α → β} {l : List α} (h : (l.map f).isEmpty = true) : l.length = 0 := by
  rw [List.isEmpty_iff] at h
  have := congrArg List.length h
  simpa using this
theorem qbiw {α β : Type} {f : α → β} {l : List α} (h : (l.map f).isEmpty = false) : ¬l.length = 0 := by
  intro e
  have := List.eq_nil_of_length_eq_zero e
  subst this
  cases h
end Go.Ev

namespace Go.Ev
open Go.Proofs Ty
set_option maxRecDepth 10000
set_option maxHeartbeats 4000000
noncomputable def e30 : List O → Option (Prop × O)
  | [.d x_a, .d x_b] => match decL 4 qe8 x_a, decL 4 qe8 x_b with
    | some a, some b => some (a.length ≤ 1000000, .d (.b (decide (a = b))))
    | _, _ => none
  | _ => none
noncomputable def q63 : FuncId → List O → Option (Prop × O) := addT q60 30 e30
noncomputable def e31 : List O → Option (Prop × O)
  | [.d x_a, .d x_b] => match decL 1 decS x_a, decL 1 decS x_b with
    | some a, some b => some (a.length ≤ 1000000, .d (.b (decide (a = b))))
    | _, _ => none
  | _ => none
noncomputable def q64 : FuncId → List O → Option (Prop × O) := addT q63 31 e31
noncomputable def e47 : List O → Option (Prop × O)
  | [.d (.s file)] => some (True, .d (.i .i64 (if qbb file = false then 7 else 0)))
  | _ => none
noncomputable def q65 : FuncId → List O → Option (Prop × O) := addT q64 47 e47
noncomputable def e29 : List O → Option (Prop × O)
  | [.d x_l, .d (.s file), .d (.i .i64 rrn)] => match decL 8 q0w x_l with
    | some l => some (l.length ≤ 1000000, .tup [.d (.sl 1 ((qhj l file rrn).1.map D.s)), .d (.i .i64 (qhj l file rrn).2)])
    | _ => none
  | _ => none
noncomputable def q66 : FuncId → List O → Option (Prop × O) := addT q65 29 e29
noncomputable def e8 : List O → Option (Prop × O)
  | [] => some (True, .d (.b true))
  | _ => none
noncomputable def tab8 : FuncId → List O → Option (Prop × O) := addT q66 8 e8
end Go.Ev

namespace Go.Ev
def qbs : List Int → Int
  | [] => 0
  | e :: r => if e ≠ 0 then e else qbs r
theorem quy {l : List Int} {i : Nat} (h : qbs (l.drop i) = qbs l) (hi : i < l.length) (h1 : ¬l.getD i 0 = 0) : qbs l = l.getD i 0 := by
  rw [← h, qe5 0 hi, qbs, if_pos h1]
theorem qxp {l : List Int} {i : Nat} (h : qbs (l.drop i) = qbs l) (hi : i < l.length) (h1 : l.getD i 0 = 0) : qbs (l.drop (i + 1)) = qbs l := by
  rw [qe5 0 hi, qbs, if_neg (fun e => e h1)] at h; exact h
theorem quz {l : List Int} {i : Nat} (h : qbs (l.drop i) = qbs l) (hi : l.length ≤ i) : qbs l = 0 := by
  rw [← h, List.drop_of_length_le hi]; rfl
def qbi (t : DType) : Int :=
  if t.kind = 0 then (if ¬(1 ≤ t.length ∧ t.length ≤ 256) then 18 else if t.scale ≠ 0 then 3 else 0)
  else if t.kind = 1 ∨ t.kind = 2 then (if ¬(1 ≤ t.length ∧ t.length ≤ 15) then 18 else if ¬(0 ≤ t.scale ∧ t.scale ≤ t.length) then 3 else 0)
  else if t.kind = 3 then (if ¬(t.length = 4 ∨ t.length = 9) then 18 else if ¬(0 ≤ t.scale ∧ t.scale ≤ t.length) then 3 else 0)
  else if t.kind = 4 then (if t.length ≠ 0 then 18 else if t.scale ≠ 0 then 3 else 0)
  else 4
def qex (t : DType) : Int := if t.kind = 1 then t.length / 2 + 1 else if t.kind = 3 then 2 + t.length / 9 * 2 else if t.kind = 4 then 16 else t.length
theorem qj4 {t : DType} (h : qbi t = 0) : 0 ≤ t.kind ∧ t.kind ≤ 4 ∧ 0 ≤ t.length ∧ t.length ≤ 256 ∧ (t.kind ≠ 0 → t.length ≤ 15) ∧ (t.kind ≠ 4 → 1 ≤ t.length) ∧ (t.kind = 3 → t.length = 4 ∨ t.length = 9) := by
  unfold qbi at h
  split at h
  · split at h
    · cases h
    · omega
  split at h
  · split at h
    · cases h
    · omega
  split at h
  · split at h
    · cases h
    · omega
  split at h
  · split at h
    · cases h
    · omega
  · cases h
theorem ql0 {t : DType} (h : qbi t = 0) : 1 ≤ qex t ∧ qex t ≤ 256 := by
  have := qj4 h
  unfold qex
  split
  · omega
  split
  · omega
  split
  · omega
  · omega
def p10 (n : Int) : Int := 10 ^ (min n 18).toNat
theorem qu0 (n : Int) : 1 ≤ p10 n ∧ p10 n ≤ 1000000000000000000 := by
  unfold p10
  have h : (min n 18).toNat ≤ 18 := by omega
  generalize (min n 18).toNat = k at h
  have h1 : (1 : Int) ≤ 10 ^ k := by
    have : 0 < (10 : Int) ^ k := Int.pow_pos (by decide)
    omega
  have h2 : (10 : Int) ^ k ≤ 10 ^ 18 := by
    have : (10 : Nat) ^ k ≤ 10 ^ 18 := Nat.pow_le_pow_right (by decide) h
    exact_mod_cast this
  omega
theorem qbe5 {k : Nat} (h : k ≤ 18) : (1 : Int) ≤ 10 ^ k ∧ (10 : Int) ^ k ≤ 1000000000000000000 := by
  have := qu0 (k : Int)
  unfold p10 at this
  have e : (min (k : Int) 18).toNat = k := by omega
  rwa [e] at this
def qi2 (t : DType) (v : Val) : Int :=
  if qbi t ≠ 0 then qbi t else if t.kind = 4 then 17
  else if t.kind = 0 then (if v.n ≠ 0 then 5 else if (v.s.size : Int) ≠ t.length then 18 else 0)
  else if v.s ≠ ⟨#[]⟩ then 5 else if ¬(-(p10 t.length - 1) ≤ v.n ∧ v.n ≤ p10 t.length - 1) then 19 else 0
def binN (b : ByteArray) : Int := (b.data.toList.tail).foldl (fun n c => ior .i64 (IntKind.i64.wrap (n * 2 ^ 8)) (c.toNat : Int)) (IntKind.i8.wrap (chr b 0))
def hiB (c : Int) : Int := c.fdiv (2 ^ 4)
def loB (c : Int) : Int := iand .u8 c 15
def qf5 (t : DType) (b : ByteArray) : Nat → List Int
  | 0 => []
  | i + 1 => qf5 t b i ++ (if t.kind = 1 then [hiB (chr b i), loB (chr b i)] else [loB (chr b i)])
def qgs (t : DType) : Nat → List Int
  | 0 => []
  | i + 1 => qgs t i ++ (if t.kind = 1 then [(i : Int), (i : Int)] else [(i : Int)])
def qbt (t : DType) (b : ByteArray) : List Int × List Int :=
  if t.kind = 2 then (qf5 t b b.size ++ [hiB (chr b (b.size - 1))], qgs t b.size ++ [(b.size : Int) - 1]) else (qf5 t b b.size, qgs t b.size)
theorem qf2 (t : DType) (b : ByteArray) : ∀ i, (qf5 t b i).length = if t.kind = 1 then 2 * i else i
  | 0 => by simp [qf5]
  | i + 1 => by
    unfold qf5
    rw [List.length_append, qf2 t b i]
    split <;> simp <;> omega
theorem qh4 (t : DType) : ∀ i, (qgs t i).length = if t.kind = 1 then 2 * i else i
  | 0 => by simp [qgs]
  | i + 1 => by
    unfold qgs
    rw [List.length_append, qh4 t i]
    split <;> simp <;> omega
theorem qp2 (t : DType) (b : ByteArray) : (qbt t b).1.length = (if t.kind = 1 then 2 * b.size else if t.kind = 2 then b.size + 1 else b.size) ∧ (qbt t b).2.length = (qbt t b).1.length := by
  unfold qbt
  by_cases h2 : t.kind = 2
  · have h1 : ¬t.kind = 1 := by omega
    simp [qf2, qh4, h2]
  · by_cases h1 : t.kind = 1
    · simp [qf2, qh4, h1]
    · simp [qf2, qh4, h1, h2]
def qhd (len : Int) (l at_ : List Int) (last : Int) : List Int → Nat → Int → Int × Int × Int
  | [], _, n => if l.getD last.toNat 0 < 10 then (0, at_.getD last.toNat 0, 21) else (if l.getD last.toNat 0 = 11 ∨ l.getD last.toNat 0 = 13 then IntKind.i64.wrap (0 - n) else n, 0, 0)
  | d :: r, i, n => if 9 < d ∨ (0 < d ∧ (i : Int) < last - len) then (0, at_.getD i 0, 21) else qhd len l at_ last r (i + 1) (IntKind.i64.wrap (IntKind.i64.wrap (n * 10) + IntKind.i64.wrap d))
def decN (t : DType) (b : ByteArray) : Int × Int × Int :=
  qhd t.length (qbt t b).1 (qbt t b).2 ((qbt t b).1.length - 1) ((qbt t b).1.take ((qbt t b).1.length - 1)) 0 0
def qdj (t : DType) (b : ByteArray) : Val × Int × Int :=
  if qbi t ≠ 0 then (zVal, 0, qbi t) else if t.kind = 4 then (zVal, 0, 17) else if (b.size : Int) ≠ qex t then (zVal, 0, 18)
  else if t.kind = 0 then (⟨0, b⟩, 0, 0)
  else if t.kind = 3 then (if qi2 t ⟨binN b, ⟨#[]⟩⟩ ≠ 0 then (zVal, 0, qi2 t ⟨binN b, ⟨#[]⟩⟩) else (⟨binN b, ⟨#[]⟩⟩, 0, 0))
  else (⟨(decN t b).1, ⟨#[]⟩⟩, (decN t b).2.1, (decN t b).2.2)
def qna (b : ByteArray) (i : Nat) : Int := ((b.data.toList.tail).take i).foldl (fun n c => ior .i64 (IntKind.i64.wrap (n * 2 ^ 8)) (c.toNat : Int)) (IntKind.i8.wrap (chr b 0))
theorem qtl (b : ByteArray) : (b.extract 1 b.size).size = b.size - 1 := by rw [ByteArray.size_extract]; omega
theorem qbml (b : ByteArray) (i : Nat) (h : i < b.size - 1) : chr (b.extract 1 b.size) i = chr b (i + 1) := by
  unfold chr
  congr 2
  have : (b.extract 1 b.size).data = b.data.extract 1 b.size := by simp
  rw [this]
  simp only [List.getD_eq_getElem?_getD, Array.getElem?_toList]
  congr 1
  have hs : b.data.size = b.size := rfl
  rw [Array.getElem?_extract]
  rw [if_pos (by omega), Nat.add_comm]
theorem qli (b : ByteArray) (i : Nat) (h : i < b.size - 1) : qna b (i + 1) = ior .i64 (IntKind.i64.wrap (qna b i * 2 ^ 8)) (chr b (i + 1)) := by
  unfold qna
  have hs : b.data.toList.tail.length = b.size - 1 := by rw [List.length_tail, Array.length_toList]; rfl
  rw [qdw 0 (by omega), List.foldl_append]
  simp only [List.foldl_cons, List.foldl_nil]
  congr 1
  unfold chr
  simp [List.getD, List.getElem?_tail]
theorem qri (b : ByteArray) (i : Nat) (h : b.size - 1 ≤ i) : qna b i = binN b := by
  unfold qna binN
  have hs : b.data.toList.tail.length = b.size - 1 := by rw [List.length_tail, Array.length_toList]; rfl
  rw [List.take_of_length_le (by omega)]
theorem q43 {n : Int} {i : Nat} (h1 : (i : Int) ≤ max 0 (min n 18)) (h2 : min n 18 ≤ (i : Int)) : p10 n = 10 ^ i := by
  unfold p10; congr 1; omega
theorem q00h {i : Nat} (h : i < 18) : (10 : Int) ^ (i + 1) = IntKind.i64.wrap (10 ^ i * 10) := by
  have := qbe5 (k := i + 1) (by omega)
  rw [Int.pow_succ] at this ⊢
  rw [w64 (by omega) (by omega)]
theorem qs7 {n : Int} (h0 : 0 ≤ n) (h : n ≤ 256) : IntKind.i64.wrap (IntKind.i64.wrap (n.tdiv 2) + 1) = n / 2 + 1 := by
  rw [Int.tdiv_eq_ediv_of_nonneg h0, w64 (n := n / 2) (by omega) (by omega), w64 (by omega) (by omega)]
theorem q31 {n : Int} (h0 : 0 ≤ n) (h : n ≤ 256) : IntKind.i64.wrap (2 + IntKind.i64.wrap (IntKind.i64.wrap (n.tdiv 9) * 2)) = 2 + n / 9 * 2 := by
  rw [Int.tdiv_eq_ediv_of_nonneg h0, w64 (n := n / 9) (by omega) (by omega), w64 (n := n / 9 * 2) (by omega) (by omega), w64 (by omega) (by omega)]
theorem qwd {t : DType} {b : ByteArray} {i : Nat} (h : t.kind = 1) : qf5 t b (i + 1) = qf5 t b i ++ [hiB (chr b i), loB (chr b i)] := by rw [qf5, if_pos h]
theorem qwe {t : DType} {b : ByteArray} {i : Nat} (h : ¬t.kind = 1) : qf5 t b (i + 1) = qf5 t b i ++ [loB (chr b i)] := by rw [qf5, if_neg h]
theorem qwf {t : DType} {i : Nat} (h : t.kind = 1) : qgs t (i + 1) = qgs t i ++ [(i : Int), (i : Int)] := by rw [qgs, if_pos h]
theorem qwg {t : DType} {i : Nat} (h : ¬t.kind = 1) : qgs t (i + 1) = qgs t i ++ [(i : Int)] := by rw [qgs, if_neg h]
theorem ql1 {t : DType} {b : ByteArray} (h : t.kind = 2) : qbt t b = (qf5 t b b.size ++ [hiB (chr b (b.size - 1))], qgs t b.size ++ [(b.size : Int) - 1]) := by rw [qbt, if_pos h]
theorem qn0 {t : DType} {b : ByteArray} (h : ¬t.kind = 2) : qbt t b = (qf5 t b b.size, qgs t b.size) := by rw [qbt, if_neg h]
end Go.Ev
namespace Go.Ev
theorem q44 (n : Int) : -128 ≤ IntKind.i8.wrap n ∧ IntKind.i8.wrap n ≤ 127 := by
  unfold IntKind.wrap
  simp only [IntKind.bits, IntKind.signed, Bool.true_and]
  split <;> rename_i h <;> simp only [decide_eq_true_eq, ge_iff_le] at h <;> omega
end Go.Ev
namespace Go.Ev
section
variable {len last n : Int} {l a r : List Int} {i : Nat} {c : Int × Int × Int}
theorem qbay (h : qhd len l a last (r.drop i) i n = c) (hi : i < r.length) (h1 : 9 < r.getD i 0 ∨ (0 < r.getD i 0 ∧ (i : Int) < last - len)) : c = (0, a.getD i 0, 21) := by
  rw [← h, qe5 0 hi, qhd, if_pos h1]
theorem q67 (h : qhd len l a last (r.drop i) i n = c) (hi : i < r.length) (h1 : ¬(9 < r.getD i 0 ∨ (0 < r.getD i 0 ∧ (i : Int) < last - len))) : qhd len l a last (r.drop (i + 1)) (i + 1) (IntKind.i64.wrap (IntKind.i64.wrap (n * 10) + IntKind.i64.wrap (r.getD i 0))) = c := by
  rw [qe5 0 hi, qhd, if_neg h1] at h; exact h
theorem q68 (h : qhd len l a last (r.drop i) i n = c) (hi : r.length ≤ i) (h1 : l.getD last.toNat 0 < 10) : c = (0, a.getD last.toNat 0, 21) := by
  rw [← h, List.drop_of_length_le hi, qhd, if_pos h1]
theorem q69 (h : qhd len l a last (r.drop i) i n = c) (hi : r.length ≤ i) (h1 : ¬l.getD last.toNat 0 < 10) (h2 : l.getD last.toNat 0 = 11 ∨ l.getD last.toNat 0 = 13) : c = (IntKind.i64.wrap (0 - n), 0, 0) := by
  rw [← h, List.drop_of_length_le hi, qhd, if_neg h1, if_pos h2]
theorem q7a (h : qhd len l a last (r.drop i) i n = c) (hi : r.length ≤ i) (h1 : ¬l.getD last.toNat 0 < 10) (h2 : ¬(l.getD last.toNat 0 = 11 ∨ l.getD last.toNat 0 = 13)) : c = (n, 0, 0) := by
  rw [← h, List.drop_of_length_le hi, qhd, if_neg h1, if_neg h2]
end
end Go.Ev

namespace Go.Ev
open Go.Proofs Ty
set_option maxRecDepth 10000
set_option maxHeartbeats 4000000
noncomputable def e185 : List O → Option (Prop × O)
  | [.d (.i .i64 n), .d (.i .i64 lo), .d (.i .i64 hi)] => some (True, .d (.b (decide (lo ≤ n) && decide (n ≤ hi))))
  | _ => none
noncomputable def q00i : FuncId → List O → Option (Prop × O) := addT tab8 185 e185
noncomputable def e187 : List O → Option (Prop × O)
  | [.d (.b b), .d (.i .i64 e)] => some (True, .d (.i .i64 (if b = true then e else 0)))
  | _ => none
noncomputable def q00j : FuncId → List O → Option (Prop × O) := addT q00i 187 e187
noncomputable def e186 : List O → Option (Prop × O)
  | [.d x_l] => match decL 1 (decI .i64) x_l with
    | some l => some (l.length ≤ 1000000, .d (.i .i64 (qbs l)))
    | _ => none
  | _ => none
noncomputable def q00k : FuncId → List O → Option (Prop × O) := addT q00j 186 e186
noncomputable def e119 : List O → Option (Prop × O)
  | [.d (.b b), .d (.i .i64 e)] => some (True, .d (.i .i64 (if b = true then e else 0)))
  | _ => none
noncomputable def q00l : FuncId → List O → Option (Prop × O) := addT q00k 119 e119
noncomputable def e117 : List O → Option (Prop × O)
  | [.d x_l] => match decL 1 (decI .i64) x_l with
    | some l => some (l.length ≤ 1000000, .d (.i .i64 (qbs l)))
    | _ => none
  | _ => none
noncomputable def q00m : FuncId → List O → Option (Prop × O) := addT q00l 117 e117
noncomputable def e152 : List O → Option (Prop × O)
  | [.d (.s s)] => some (True, .d (.b (qbb s)))
  | _ => none
noncomputable def q00n : FuncId → List O → Option (Prop × O) := addT q00m 152 e152
noncomputable def e172 : List O → Option (Prop × O)
  | [.d x_t] => match qbg x_t with
    | some t => some (True, .d (.i .i64 (qbi t)))
    | _ => none
  | _ => none
noncomputable def q00o : FuncId → List O → Option (Prop × O) := addT q00n 172 e172
noncomputable def e188 : List O → Option (Prop × O)
  | [.d x_t] => match qbg x_t with
    | some t => some (qbi t = 0, .d (.i .i64 (qex t)))
    | _ => none
  | _ => none
noncomputable def q00p : FuncId → List O → Option (Prop × O) := addT q00o 188 e188
noncomputable def e173 : List O → Option (Prop × O)
  | [.d x_t] => match qbg x_t with
    | some t => some (True, .tup [.d (.i .i64 (if qbi t = 0 then qex t else 0)), .d (.i .i64 (qbi t))])
    | _ => none
  | _ => none
noncomputable def q00q : FuncId → List O → Option (Prop × O) := addT q00p 173 e173
noncomputable def e197 : List O → Option (Prop × O)
  | [.d (.i .i64 n)] => some (True, .d (.i .i64 (p10 n)))
  | _ => none
noncomputable def q00r : FuncId → List O → Option (Prop × O) := addT q00q 197 e197
noncomputable def e190 : List O → Option (Prop × O)
  | [.d x_t, .d x_v] => match qbg x_t, qde x_v with
    | some t, some v => some (True, .d (.i .i64 (qi2 t v)))
    | _, _ => none
  | _ => none
noncomputable def q00s : FuncId → List O → Option (Prop × O) := addT q00r 190 e190
noncomputable def e189 : List O → Option (Prop × O)
  | [.d (.s b)] => some (0 < b.size ∧ b.size ≤ 1000, .d (.i .i64 (binN b)))
  | _ => none
noncomputable def q00t : FuncId → List O → Option (Prop × O) := addT q00s 189 e189
noncomputable def e198 : List O → Option (Prop × O)
  | [.d x_t, .d (.s b)] => match qbg x_t with
    | some t => some (0 < b.size ∧ b.size ≤ 1000, .tup [.d (.sl 1 ((qbt t b).1.map (D.i .u8))), .d (.sl 1 ((qbt t b).2.map (D.i .i64)))])
    | _ => none
  | _ => none
noncomputable def q00u : FuncId → List O → Option (Prop × O) := addT q00t 198 e198
noncomputable def e191 : List O → Option (Prop × O)
  | [.d x_t, .d (.s b)] => match qbg x_t with
    | some t => some (0 < b.size ∧ b.size ≤ 1000 ∧ 0 ≤ t.length ∧ t.length ≤ 1000, .tup [.d (.i .i64 (decN t b).1), .d (.i .i64 (decN t b).2.1), .d (.i .i64 (decN t b).2.2)])
    | _ => none
  | _ => none
noncomputable def q00v : FuncId → List O → Option (Prop × O) := addT q00u 191 e191
noncomputable def e174 : List O → Option (Prop × O)
  | [.d x_t, .d (.s b)] => match qbg x_t with
    | some t => some (True, .tup [.d (qb7 (qdj t b).1), .d (.i .i64 (qdj t b).2.1), .d (.i .i64 (qdj t b).2.2)])
    | _ => none
  | _ => none
noncomputable def q00w : FuncId → List O → Option (Prop × O) := addT q00v 174 e174
end Go.Ev

namespace Go.Ev
def qb8 (g : Nat → Int) (n : Nat) : Option Nat := (List.range n).find? fun i => decide (g i ≠ 0)
theorem qd8 {g : Nat → Int} {n i : Nat} (h : ∀ j, j < i → g j = 0) (hi : i < n) (hg : ¬g i = 0) : qb8 g n = some i := by
  unfold qb8
  rw [List.find?_eq_some_iff_getElem]
  refine ⟨by simpa using hg, i, by simpa using hi, by simp, fun j hj => ?_⟩
  simp [h j hj]
theorem qd1 {g : Nat → Int} {n : Nat} (h : ∀ j, j < n → g j = 0) : qb8 g n = none := by
  unfold qb8
  rw [List.find?_eq_none]
  intro j hj
  simp [h j (List.mem_range.1 hj)]
theorem qes {g : Nat → Int} {i : Nat} (h : ∀ j, j < i → g j = 0) (hg : g i = 0) : ∀ j, j < i + 1 → g j = 0 := fun j hj => by
  by_cases e : j = i
  · subst e; exact hg
  · exact h j (by omega)
def qfq (x : Field) : Int := if qbi x.type_ = 0 then qex x.type_ else 0
theorem qiw (x : Field) : 0 ≤ qfq x ∧ qfq x ≤ 256 := by
  unfold qfq
  split
  · have := ql0 (t := x.type_) (by assumption); omega
  · omega
def qcc (l : List Field) : Nat → Int
  | 0 => 0
  | i + 1 => qcc l i + qfq (l.getD i q04)
theorem qgp (l : List Field) : ∀ i, 0 ≤ qcc l i ∧ qcc l i ≤ 256 * (i : Int)
  | 0 => by simp [qcc]
  | i + 1 => by
    have h1 := qgp l i
    have h2 := qiw (l.getD i q04)
    simp only [qcc]
    omega
def idxF (l : List Field) (name : ByteArray) : Option Nat := l.findIdx? fun x => decide (x.name = name)
def atF (l : List Field) (name : ByteArray) : Int × Int × Bool := match idxF l name with
  | some i => (i, qcc l i, true)
  | none => (0, 0, false)
theorem qbmm {l : List Field} {name : ByteArray} {i : Nat} (h : idxF (l.take i) name = none) (hi : i < l.length) (e : (l.getD i q04).name = name) : atF l name = ((i : Int), qcc l i, true) := by
  unfold atF
  have : idxF l name = some i := by
    unfold idxF at h ⊢
    rw [← List.take_append_drop i l, List.findIdx?_append, h, qe5 q04 hi, List.findIdx?_cons]
    have hl : (l.take i).length = i := by rw [List.length_take]; omega
    have e' : decide ((l.getD i q04).name = name) = true := by simpa using e
    rw [e', hl, if_pos rfl]
    simp
  rw [this]
theorem qxq {l : List Field} {name : ByteArray} {i : Nat} (h : idxF (l.take i) name = none) (hi : i < l.length) (e : ¬(l.getD i q04).name = name) : idxF (l.take (i + 1)) name = none := by
  unfold idxF at h ⊢
  rw [qdw q04 hi, List.findIdx?_append, h]
  simp [List.findIdx?_cons, e] at e ⊢
  exact e
theorem qbrh {l : List Field} {name : ByteArray} {i : Nat} (h : idxF (l.take i) name = none) (hi : l.length ≤ i) : atF l name = (0, 0, false) := by
  rw [List.take_of_length_le hi] at h
  unfold atF; rw [h]
def qej (l : List Field) (i : Nat) : Int :=
  if qbb (l.getD i q04).name = false then 7 else if (atF (l.take i) (l.getD i q04).name).2.2 = true then 13
  else if qbi (l.getD i q04).type_ ≠ 0 then qbi (l.getD i q04).type_ else if (l.getD i q04).type_.kind = 4 then 17 else 0
def qca (f : Fmt) : Int × Int :=
  if qbb f.name = false then (0, 7) else if f.fields.length = 0 then (0, 1) else if 20 < f.fields.length then (0, 2)
  else match qb8 (qej f.fields) f.fields.length with
    | some i => (i, qej f.fields i)
    | none => (0, if 200 < qcc f.fields f.fields.length then 18 else 0)
theorem qbmn {f : Fmt} {i : Nat} (h0 : qbb f.name = true ∧ 1 ≤ f.fields.length ∧ f.fields.length ≤ 20) (h : ∀ j, j < i → qej f.fields j = 0) (hi : i < f.fields.length) (hg : ¬qej f.fields i = 0) : qca f = ((i : Int), qej f.fields i) := by
  unfold qca
  rw [if_neg (by simp [h0.1]), if_neg (by omega), if_neg (by omega), qd8 h hi hg]
theorem q45 {f : Fmt} {i : Nat} (h0 : qbb f.name = true ∧ 1 ≤ f.fields.length ∧ f.fields.length ≤ 20) (h : ∀ j, j < i → qej f.fields j = 0) (hi : f.fields.length ≤ i) : qca f = (0, if 200 < qcc f.fields f.fields.length then 18 else 0) := by
  unfold qca
  rw [if_neg (by simp [h0.1]), if_neg (by omega), if_neg (by omega), qd1 fun j hj => h j (by omega)]
theorem qu1 {f : Fmt} (h : (qca f).2 = 0) : qbb f.name = true ∧ 1 ≤ f.fields.length ∧ f.fields.length ≤ 20 ∧ (∀ j, j < f.fields.length → qej f.fields j = 0) ∧ qcc f.fields f.fields.length ≤ 200 ∧ (qca f).1 = 0 := by
  have hd := h
  unfold qca at h
  split at h
  · cases h
  split at h
  · cases h
  split at h
  · cases h
  rename_i h1 h2 h3
  split at h
  · rename_i i hi
    unfold qb8 at hi
    have := List.find?_some hi
    simp at this
    exact absurd h this
  · rename_i hn
    split at h
    · cases h
    · rename_i h4
      unfold qb8 at hn
      rw [List.find?_eq_none] at hn
      refine ⟨by simpa using h1, by omega, by omega, fun j hj => ?_, by omega, ?_⟩
      · have := hn j (List.mem_range.2 hj)
        simpa using this
      · unfold qca
        rw [if_neg h1, if_neg h2, if_neg h3, qd1 fun j hj => by have := hn j (List.mem_range.2 hj); simpa using this]
theorem qxr {l : List Field} {i : Nat} (h : qej l i = 0) : qbi (l.getD i q04).type_ = 0 ∧ (l.getD i q04).type_.kind ≠ 4 := by
  unfold qej at h
  split at h
  · cases h
  split at h
  · cases h
  split at h
  · rename_i h3; exact absurd h h3
  split at h
  · cases h
  · rename_i h3 h4; exact ⟨by omega, h4⟩
def ql2 (f : Fmt) : Int := if qbb f.name = false then 7 else if f.fields.length = 0 then 1 else if 20 < f.fields.length then 2 else 0
theorem qbmo (f : Fmt) : qbs [if qbb f.name = false then 7 else 0, if (f.fields.length : Int) = 0 then 1 else 0, if 20 < (f.fields.length : Int) then 2 else 0] = ql2 f := by
  simp only [qbs, ql2]
  (repeat' split) <;> first | rfl | omega | (exfalso; omega) | simp_all
theorem q00x {f : Fmt} (h : ¬ql2 f = 0) : qca f = (0, ql2 f) := by
  unfold ql2 at h ⊢
  unfold qca
  split
  · rfl
  split
  · rfl
  split
  · rfl
  · simp_all
theorem qwh {f : Fmt} (h : ql2 f = 0) : qbb f.name = true ∧ 1 ≤ f.fields.length ∧ f.fields.length ≤ 20 := by
  unfold ql2 at h
  split at h
  · cases h
  split at h
  · cases h
  split at h
  · cases h
  · exact ⟨by simpa using ‹¬qbb f.name = false›, by omega, by omega⟩
theorem qbri (l : List Field) (i : Nat) : qbs [if qbb (l.getD i q04).name = false then 7 else 0, if (atF (l.take i) (l.getD i q04).name).2.2 = true then 13 else 0, qbi (l.getD i q04).type_, if (l.getD i q04).type_.kind = 4 then 17 else 0] = qej l i := by
  simp only [qbs, qej]
  (repeat' split) <;> first | rfl | omega | (exfalso; omega) | simp_all
def qko (f : File) : Int := if qbb f.name = false then 7 else if (qca f.format).2 ≠ 0 then (qca f.format).2 else if 4 < f.keys.length then 2 else 0
theorem qbe6 (f : File) : qbs [if qbb f.name = false then 7 else 0, (qca f.format).2, if 4 < (f.keys.length : Int) then 2 else 0] = qko f := by
  simp only [qbs, qko]
  (repeat' split) <;> first | rfl | omega | (exfalso; omega) | simp_all
def keyE (f : File) (i : Nat) : Int :=
  if (atF f.format.fields (f.keys.getD i qdn).name).2.2 = false then 11 else if (f.keys.take i).any (fun k => decide (k.name = (f.keys.getD i qdn).name)) = true then 13 else 0
def qcb (f : File) : Int × Int :=
  if qbb f.name = false then (0, 7) else if (qca f.format).2 ≠ 0 then (0, (qca f.format).2) else if 4 < f.keys.length then (0, 2)
  else match qb8 (keyE f) f.keys.length with
    | some i => (i, keyE f i)
    | none => (0, 0)
theorem qbe7 {f : File} {i : Nat} (h0 : qbb f.name = true ∧ (qca f.format).2 = 0 ∧ f.keys.length ≤ 4) (h : ∀ j, j < i → keyE f j = 0) (hi : i < f.keys.length) (hg : ¬keyE f i = 0) : qcb f = ((i : Int), keyE f i) := by
  unfold qcb
  rw [if_neg (by simp [h0.1]), if_neg (fun e => e h0.2.1), if_neg (by omega), qd8 h hi hg]
theorem qbe8 {f : File} {i : Nat} (h0 : qbb f.name = true ∧ (qca f.format).2 = 0 ∧ f.keys.length ≤ 4) (h : ∀ j, j < i → keyE f j = 0) (hi : f.keys.length ≤ i) : qcb f = (0, 0) := by
  unfold qcb
  rw [if_neg (by simp [h0.1]), if_neg (fun e => e h0.2.1), if_neg (by omega), qd1 fun j hj => h j (by omega)]
theorem qbmp {f : File} (h : (qcb f).2 = 0) : qbb f.name = true ∧ (qca f.format).2 = 0 ∧ f.keys.length ≤ 4 := by
  unfold qcb at h
  split at h
  · cases h
  split at h
  · rename_i h2; exact absurd h h2
  split at h
  · cases h
  · exact ⟨by simpa using ‹¬qbb f.name = false›, by omega, by omega⟩
def qp3 (f : Fmt) (b : ByteArray) (i : Nat) : ByteArray := b.extract (qcc f.fields i).toNat (qcc f.fields (i + 1)).toNat
def q7b (f : Fmt) (b : ByteArray) (i : Nat) : Val × Int × Int := qdj (f.fields.getD i q04).type_ (qp3 f b i)
def qkf (f : Fmt) (b : ByteArray) (i : Nat) : Int := (q7b f b i).2.2
def qkd (f : Fmt) (b : ByteArray) : Nat → List Val
  | 0 => []
  | i + 1 => qkd f b i ++ [(q7b f b i).1]
theorem qu2 (f : Fmt) (b : ByteArray) : ∀ i, (qkd f b i).length = i
  | 0 => rfl
  | i + 1 => by simp [qkd, qu2 f b i]
def qg6 (f : Fmt) (b : ByteArray) : List Val × Int × Int := match qb8 (qkf f b) f.fields.length with
  | some i => ([], i, qkf f b i)
  | none => (qkd f b f.fields.length, 0, 0)
theorem qwi {f : Fmt} {b : ByteArray} {i : Nat} (h : ∀ j, j < i → qkf f b j = 0) (hi : i < f.fields.length) (hg : ¬qkf f b i = 0) : qg6 f b = ([], (i : Int), qkf f b i) := by
  unfold qg6
  rw [qd8 h hi hg]
theorem qwj {f : Fmt} {b : ByteArray} {i : Nat} (h : ∀ j, j < i → qkf f b j = 0) (hi : f.fields.length ≤ i) : qg6 f b = (qkd f b f.fields.length, 0, 0) := by
  unfold qg6
  rw [qd1 fun j hj => h j (by omega)]
def qfe (f : Fmt) : Int := qcc f.fields f.fields.length
def qc3 (f : Fmt) (b : ByteArray) : List Val × Int × Int :=
  if (qca f).2 ≠ 0 then ([], 0, (qca f).2) else if (b.size : Int) ≠ qfe f then ([], 0, 18) else qg6 f b
def recE (t : Table) (i : Nat) : Int :=
  if (t.records.getD i zRec).deleted = true then (if (t.records.getD i zRec).bytes ≠ ⟨#[]⟩ then 5 else 0) else (qc3 t.file.format (t.records.getD i zRec).bytes).2.2
def q08 (t : Table) : Int × Int :=
  if (qcb t.file).2 ≠ 0 then (0, (qcb t.file).2) else if 60 < t.records.length then (0, 2)
  else match qb8 (recE t) t.records.length with
    | some i => (i, recE t i)
    | none => (0, 0)
theorem qok {t : Table} {i : Nat} (h0 : (qcb t.file).2 = 0 ∧ t.records.length ≤ 60) (h : ∀ j, j < i → recE t j = 0) (hi : i < t.records.length) (hg : ¬recE t i = 0) : q08 t = ((i : Int), recE t i) := by
  unfold q08
  rw [if_neg (fun e => e h0.1), if_neg (by omega), qd8 h hi hg]
theorem qrj {t : Table} {i : Nat} (h0 : (qcb t.file).2 = 0 ∧ t.records.length ≤ 60) (h : ∀ j, j < i → recE t j = 0) (hi : t.records.length ≤ i) : q08 t = (0, 0) := by
  unfold q08
  rw [if_neg (fun e => e h0.1), if_neg (by omega), qd1 fun j hj => h j (by omega)]
theorem qxs {f : File} (h : ¬qko f = 0) : qcb f = (0, qko f) := by
  unfold qko at h ⊢
  unfold qcb
  split
  · rfl
  split
  · rfl
  split
  · rfl
  · simp_all
theorem qtm {f : File} (h : qko f = 0) : qbb f.name = true ∧ (qca f.format).2 = 0 ∧ f.keys.length ≤ 4 := by
  unfold qko at h
  split at h
  · cases h
  split at h
  · rename_i h2; exact absurd h h2
  split at h
  · cases h
  · exact ⟨by simpa using ‹¬qbb f.name = false›, by omega, by omega⟩
theorem qbaz (f : File) (i : Nat) : qbs [if (atF f.format.fields (f.keys.getD i qdn).name).2.2 = false then 11 else 0, if (f.keys.take i).any (fun k => decide (k.name = (f.keys.getD i qdn).name)) = true then 13 else 0] = keyE f i := by
  simp only [qbs, keyE]
  (repeat' split) <;> first | rfl | omega | (exfalso; omega) | simp_all
def ql3 (t : Table) : Int := if (qcb t.file).2 ≠ 0 then (qcb t.file).2 else if 60 < t.records.length then 2 else 0
theorem qbe9 (t : Table) : qbs [(qcb t.file).2, if 60 < (t.records.length : Int) then 2 else 0] = ql3 t := by
  simp only [qbs, ql3]
  (repeat' split) <;> first | rfl | omega | (exfalso; omega) | simp_all
theorem q00y {t : Table} (h : ¬ql3 t = 0) : q08 t = (0, ql3 t) := by
  unfold ql3 at h ⊢
  unfold q08
  split
  · rfl
  split
  · rfl
  · simp_all
theorem q00z {t : Table} (h : ql3 t = 0) : (qcb t.file).2 = 0 ∧ t.records.length ≤ 60 := by
  unfold ql3 at h
  split at h
  · rename_i h2; exact absurd h h2
  split at h
  · cases h
  · exact ⟨by omega, by omega⟩
end Go.Ev
namespace Go.Ev
def keyD (k : KField) : D := .s k.name
def qhu (l : List KField) : List V := (l.map fun _ => D.b true).map V.d
theorem qu3 (l : List KField) (n : ByteArray) : (qeu (l.map keyD) (.s n)).isSome = l.any (fun k => decide (k.name = n)) := by
  induction l with
  | nil => rfl
  | cons k l ih =>
    have hk : kEq (keyD k) (.s n) = decide (k.name = n) := qdr _ _
    rw [List.map_cons, List.any_cons]
    unfold qeu
    by_cases e : k.name = n
    · rw [if_pos (by rw [hk]; simpa using e)]; simp [e]
    · have e' : decide (k.name = n) = false := by simpa using e
      rw [if_neg (by rw [hk, e']; simp), Option.isSome_map, e', Bool.false_or]
      exact ih
theorem qxt : ∀ {l : List KField} {n : ByteArray} {i : Nat}, qeu (l.map keyD) (.s n) = some i → i < l.length
  | [], _, _, h => by cases h
  | k :: l, n, i, h => by
    simp only [List.map_cons, qeu] at h
    split at h
    · cases h; simp
    · rw [Option.map_eq_some_iff] at h
      obtain ⟨j, hj, rfl⟩ := h
      have := qxt hj
      simp only [List.length_cons]; omega
theorem qbfa (l : List KField) (n : ByteArray) : qrz (.b false) (l.map keyD) (qhu l) (.s n) = some (.b (l.any fun k => decide (k.name = n))) := by
  unfold qrz
  rw [← qu3]
  cases h : qeu (l.map keyD) (.s n) with
  | none => rfl
  | some i =>
    have hl := qxt h
    have : (qhu l).getD i (.d .np) = .d (.b true) := by
      unfold qhu
      simp [List.getD, hl]
    simp only [this, Option.isSome_some]
theorem qu4 (l : List KField) (k : KField) : qhu (l ++ [k]) = qhu l ++ [V.d (.b true)] := by simp [qhu]
theorem qbfb (l : List KField) : ∀ v ∈ qhu l, sh1 (.b false) v = true := by
  intro v hv
  unfold qhu at hv
  simp only [List.map_map, List.mem_map] at hv
  obtain ⟨_, _, rfl⟩ := hv
  rfl
theorem qov {l : List KField} {n : ByteArray} (h : ¬l.any (fun k => decide (k.name = n)) = true) : qeu (l.map keyD) (.s n) = none := by
  rw [← qu3] at h
  cases hx : qeu (l.map keyD) (.s n) with
  | none => rfl
  | some i => rw [hx] at h; exact absurd rfl h
theorem qwk {f : File} {i : Nat} (h : keyE f i = 0) : ¬(f.keys.take i).any (fun k => decide (k.name = (f.keys.getD i qdn).name)) = true := by
  intro hc
  unfold keyE at h
  rw [if_pos hc] at h
  split at h <;> cases h
theorem qxu {f : File} {i : Nat} (hi : i < f.keys.length) (h : keyE f i = 0) : qn7 ((f.keys.take i).map keyD) (.s (f.keys.getD i qdn).name) = (f.keys.take (i + 1)).map keyD := by
  unfold qn7
  rw [qov (qwk h), qdw qdn hi, List.map_append]
  rfl
theorem q7c {f : File} {i : Nat} (hi : i < f.keys.length) (h : keyE f i = 0) : qn8 ((f.keys.take i).map keyD) (qhu (f.keys.take i)) (.s (f.keys.getD i qdn).name) (.d (.b true)) = qhu (f.keys.take (i + 1)) := by
  unfold qn8
  rw [qov (qwk h), qdw qdn hi, qu4]
theorem q32 {f : File} {i : Nat} (hi : i < f.keys.length) : qhu (f.keys.take i) ++ [V.d (.b true)] = qhu (f.keys.take (i + 1)) := by rw [qdw qdn hi, qu4]
theorem q33 {f : File} {i : Nat} (hi : i < f.keys.length) : (f.keys.take i).map keyD ++ [.s (f.keys.getD i qdn).name] = (f.keys.take (i + 1)).map keyD := by rw [qdw qdn hi, List.map_append]; rfl
end Go.Ev
namespace Go.Ev
theorem q46 : ∀ (l m : List D), qj2 (l.map V.d) (m.map V.d) = []
  | [], m => by cases m <;> simp [qj2]
  | a :: l, [] => by simp [qj2]
  | a :: l, b :: m => by
    simp only [List.map_cons, qj2, rhoV, List.nil_append]
    exact q46 l m
theorem q7d (l m : List KField) : qj2 (qhu l) (qhu m) = [] := q46 _ _
theorem qbfc {ρ : Nat → Option Nat} {nf : Nat → Prop} (l : List KField) : vss ρ nf (qhu l) (qhu l) = True := eq_true (by
  unfold qhu
  generalize (l.map fun _ => D.b true) = m
  induction m with
  | nil => trivial
  | cons d m ih =>
    simp only [List.map_cons, vss, vs]
    exact ⟨q02 d, ih⟩)
theorem qu5 (l : List Field) (i : Nat) : ∀ j, i ≤ j → qcc l i ≤ qcc l j
  | 0, h => by rw [show i = 0 by omega]; exact Int.le_refl _
  | j + 1, h => by
    by_cases e : i = j + 1
    · rw [e]; exact Int.le_refl _
    · have := qu5 l i j (by omega)
      have := (qiw (l.getD j q04)).1
      simp only [qcc]; omega
section
variable {f : Fmt} {b : ByteArray} {i : Nat}
theorem qbmq (b : ByteArray) : b.extract 0 b.size = b := by simp
theorem qse (hs : (b.size : Int) = qfe f) (hi : i < f.fields.length) : qcc f.fields i + qfq (f.fields.getD i q04) ≤ (b.size : Int) := by
  have h1 := qu5 f.fields (i + 1) f.fields.length (by omega)
  have h2 : qcc f.fields (i + 1) = qcc f.fields i + qfq (f.fields.getD i q04) := rfl
  rw [hs, ← h2]
  exact h1
theorem qba0 (hs : (b.size : Int) = qfe f) (hi : i < f.fields.length) : qfq (f.fields.getD i q04) ≤ ((b.extract (qcc f.fields i).toNat b.size).size : Int) := by
  have h1 := qse hs hi
  have h2 := qgp f.fields i
  rw [ByteArray.size_extract]
  omega
theorem qbmr (hs : (b.size : Int) = qfe f) (hi : i < f.fields.length) : (b.extract (qcc f.fields i).toNat b.size).extract 0 (qfq (f.fields.getD i q04)).toNat = qp3 f b i := by
  have h1 := qse hs hi
  have h2 := qgp f.fields i
  have h3 := qiw (f.fields.getD i q04)
  have h4 : qcc f.fields (i + 1) = qcc f.fields i + qfq (f.fields.getD i q04) := rfl
  unfold qp3
  rw [ByteArray.extract_extract, h4, Nat.add_zero, show min ((qcc f.fields i).toNat + (qfq (f.fields.getD i q04)).toNat) b.size = (qcc f.fields i + qfq (f.fields.getD i q04)).toNat by omega]
theorem q47 (hs : (b.size : Int) = qfe f) (hi : i < f.fields.length) : b.extract (qcc f.fields (i + 1)).toNat b.size = (b.extract (qcc f.fields i).toNat b.size).extract (qfq (f.fields.getD i q04)).toNat (b.extract (qcc f.fields i).toNat b.size).size := by
  have h1 := qse hs hi
  have h2 := qgp f.fields i
  have h3 := qiw (f.fields.getD i q04)
  have h4 : qcc f.fields (i + 1) = qcc f.fields i + qfq (f.fields.getD i q04) := rfl
  rw [ByteArray.extract_extract, ByteArray.size_extract, h4, show (qcc f.fields i).toNat + (qfq (f.fields.getD i q04)).toNat = (qcc f.fields i + qfq (f.fields.getD i q04)).toNat by omega, show min ((qcc f.fields i).toNat + (min b.size b.size - (qcc f.fields i).toNat)) b.size = b.size by omega]
theorem qbfd (hs : (b.size : Int) = qfe f) (hi : i < f.fields.length) : (qdj (f.fields.getD i q04).type_ ((b.extract (qcc f.fields i).toNat b.size).extract 0 (qfq (f.fields.getD i q04)).toNat)) = q7b f b i := by
  rw [qbmr hs hi]; rfl
end
end Go.Ev
namespace Go.Ev
theorem qsf {f : Fmt} {b : ByteArray} (h : ¬(qca f).2 = 0) : qc3 f b = ([], 0, (qca f).2) := by rw [qc3, if_pos h]
theorem qsg {f : Fmt} {b : ByteArray} (h : (qca f).2 = 0) (h2 : ¬(b.size : Int) = qfe f) : qc3 f b = ([], 0, 18) := by rw [qc3, if_neg (fun e => e h), if_pos h2]
theorem qsh {f : Fmt} {b : ByteArray} (h : (qca f).2 = 0) (h2 : (b.size : Int) = qfe f) : qc3 f b = qg6 f b := by rw [qc3, if_neg (fun e => e h), if_neg (fun e => e h2)]
end Go.Ev

namespace Go.Ev
open Go.Proofs Ty
set_option maxRecDepth 10000
set_option maxHeartbeats 4000000
noncomputable def e163 : List O → Option (Prop × O)
  | [.d x_x] => match qb5 x_x with
    | some x => some (True, .d (.i .i64 (qfq x)))
    | _ => none
  | _ => none
noncomputable def q000 : FuncId → List O → Option (Prop × O) := addT q00w 163 e163
noncomputable def e154 : List O → Option (Prop × O)
  | [.d x_f, .d (.s name)] => match qb3 x_f with
    | some f => some (f.fields.length ≤ 1000000, .tup [.d (.i .i64 (atF f.fields name).1), .d (.i .i64 (atF f.fields name).2.1), .d (.b (atF f.fields name).2.2)])
    | _ => none
  | _ => none
noncomputable def q001 : FuncId → List O → Option (Prop × O) := addT q000 154 e154
noncomputable def e164 : List O → Option (Prop × O)
  | [.d x_f] => match qb3 x_f with
    | some f => some (f.fields.length ≤ 1000000, .d (.i .i64 (qfe f)))
    | _ => none
  | _ => none
noncomputable def q002 : FuncId → List O → Option (Prop × O) := addT q001 164 e164
noncomputable def e162 : List O → Option (Prop × O)
  | [.d x_f] => match qb3 x_f with
    | some f => some (f.fields.length ≤ 1000000, .tup [.d (.i .i64 (qca f).1), .d (.i .i64 (qca f).2)])
    | _ => none
  | _ => none
noncomputable def q003 : FuncId → List O → Option (Prop × O) := addT q002 162 e162
noncomputable def e153 : List O → Option (Prop × O)
  | [.d x_f] => match qb3 x_f with
    | some f => some (f.fields.length ≤ 1000000, .d (.i .i64 (qca f).2))
    | _ => none
  | _ => none
noncomputable def q004 : FuncId → List O → Option (Prop × O) := addT q003 153 e153
theorem isKs (n : ByteArray) : isK Tryz.prog 9 (.s n) = true := by unfold isK; rw [Tryz.underlying9]
theorem qbxd (l : List KField) : ∀ d ∈ l.map keyD, isK Tryz.prog 9 d = true := fun d hd => by
  obtain ⟨k, _, rfl⟩ := List.mem_map.1 hd
  exact isKs _
noncomputable def e136 : List O → Option (Prop × O)
  | [.d x_f] => match qci x_f with
    | some f => some (f.format.fields.length ≤ 1000000 ∧ f.keys.length ≤ 1000000, .tup [.d (.i .i64 (qcb f).1), .d (.i .i64 (qcb f).2)])
    | _ => none
  | _ => none
noncomputable def q005 : FuncId → List O → Option (Prop × O) := addT q004 136 e136
noncomputable def e118 : List O → Option (Prop × O)
  | [.d x_f] => match qci x_f with
    | some f => some (f.format.fields.length ≤ 1000000 ∧ f.keys.length ≤ 1000000, .d (.i .i64 (qcb f).2))
    | _ => none
  | _ => none
noncomputable def q006 : FuncId → List O → Option (Prop × O) := addT q005 118 e118
noncomputable def e165 : List O → Option (Prop × O)
  | [.d x_f, .d (.s b)] => match qb3 x_f with
    | some f => some (f.fields.length ≤ 1000 ∧ (b.size : Int) = qfe f, .tup [.d (.sl 2 ((qg6 f b).1.map qb7)), .d (.i .i64 (qg6 f b).2.1), .d (.i .i64 (qg6 f b).2.2)])
    | _ => none
  | _ => none
noncomputable def q007 : FuncId → List O → Option (Prop × O) := addT q006 165 e165
noncomputable def e155 : List O → Option (Prop × O)
  | [.d x_f, .d (.s b)] => match qb3 x_f with
    | some f => some (f.fields.length ≤ 1000000, .tup [.d (.sl 2 ((qc3 f b).1.map qb7)), .d (.i .i64 (qc3 f b).2.1), .d (.i .i64 (qc3 f b).2.2)])
    | _ => none
  | _ => none
noncomputable def q008 : FuncId → List O → Option (Prop × O) := addT q007 155 e155
noncomputable def e137 : List O → Option (Prop × O)
  | [.d x_f, .d (.s b)] => match qb3 x_f with
    | some f => some (f.fields.length ≤ 1000000, .tup [.d (.i .i64 (qc3 f b).2.1), .d (.i .i64 (qc3 f b).2.2)])
    | _ => none
  | _ => none
noncomputable def q009 : FuncId → List O → Option (Prop × O) := addT q008 137 e137
noncomputable def e120 : List O → Option (Prop × O)
  | [.d x_f, .d (.s b)] => match qb3 x_f with
    | some f => some (f.fields.length ≤ 1000000, .d (.i .i64 (qc3 f b).2.2))
    | _ => none
  | _ => none
noncomputable def q1a : FuncId → List O → Option (Prop × O) := addT q009 120 e120
noncomputable def e90 : List O → Option (Prop × O)
  | [.d x_t] => match q0y x_t with
    | some t => some ((t.file.format.fields.length ≤ 1000000 ∧ t.file.keys.length ≤ 1000000 ∧ t.records.length ≤ 1000000), .tup [.d (.i .i64 (q08 t).1), .d (.i .i64 (q08 t).2)])
    | _ => none
  | _ => none
noncomputable def q7e : FuncId → List O → Option (Prop × O) := addT q1a 90 e90
noncomputable def e121 : List O → Option (Prop × O)
  | [.d x_t] => match q0y x_t with
    | some t => some ((t.file.format.fields.length ≤ 1000000 ∧ t.file.keys.length ≤ 1000000 ∧ t.records.length ≤ 1000000), .d (.i .i64 (q08 t).2))
    | _ => none
  | _ => none
noncomputable def q1b : FuncId → List O → Option (Prop × O) := addT q7e 121 e121
end Go.Ev

namespace Go.Ev
def qmc (t : Table) (c : Change) : Rec := t.records.getD (c.rrn - 1).toNat zRec
def qiq (t : Table) (c : Change) : Bool := decide (c.rrn = (t.records.length : Int) + 1) || (qmc t c).deleted
def qg7 (t : Table) (c : Change) : Int :=
  if c.kind = 0 then qbs [if (!qiq t c) = true then 12 else 0, if 60 < c.rrn then 30 else 0]
  else if qiq t c = true then 11
  else if (qmc t c).bytes ≠ c.before then 15 else 0
def qms (t : Table) (c : Change) : Int := if c.kind = 0 then (t.records.length : Int) + 1 else t.records.length
def qg1 (c : Change) : Bool := (decide (c.kind = 0) && !decide (c.before = ⟨#[]⟩)) || (decide (c.kind = 2) && !decide (c.after = ⟨#[]⟩))
def qha (t : Table) (c : Change) : Int :=
  if (q08 t).2 ≠ 0 then (q08 t).2
  else if c.file ≠ t.file.name then 11
  else if c.kind < 0 ∨ 3 ≤ c.kind then 4
  else if c.rrn < 1 ∨ qms t c < c.rrn then 3
  else if qg1 c = true then 5 else 0
def qcx (t : Table) (c : Change) : Int :=
  if qha t c ≠ 0 then qha t c
  else if qg7 t c ≠ 0 ∨ c.kind = 2 then qg7 t c
  else (qc3 t.file.format c.after).2.2
def qey (t : Table) (n : Int) (r : Rec) : Table := ⟨t.file, if (t.records.length : Int) < n then t.records ++ [r] else t.records.set (n - 1).toNat r⟩
def qfb (c : Change) : Rec := ⟨c.kind == 2, c.after⟩
def qgb (t : Table) (c : Change) : Table × Int := if qcx t c ≠ 0 then (q0z, qcx t c) else (qey t c.rrn (qfb c), 0)
def qhx (k : Int) : Int := if k = 0 then 2 else if k = 2 then 0 else k
def qgi (c : Change) : Change × Int := if c.kind = 0 ∨ c.kind = 2 ∨ c.kind = 1 then (⟨c.file, qhx c.kind, c.rrn, c.after, c.before⟩, 0) else (q09, 4)
theorem qrk {t : Table} {c : Change} (h : qha t c = 0) : (q08 t).2 = 0 ∧ c.file = t.file.name ∧ 0 ≤ c.kind ∧ c.kind < 3 ∧ 1 ≤ c.rrn ∧ c.rrn ≤ qms t c ∧ qg1 c = false := by
  unfold qha at h
  split at h
  · contradiction
  split at h
  · cases h
  split at h
  · cases h
  split at h
  · cases h
  split at h
  · cases h
  · refine ⟨?_, ?_, ?_, ?_, ?_, ?_, ?_⟩
    · simpa using ‹¬¬(q08 t).2 = 0›
    · simpa using ‹¬c.file ≠ t.file.name›
    · omega
    · omega
    · omega
    · omega
    · simpa using ‹¬qg1 c = true›
theorem qp4 {t : Table} {c : Change} (h : qha t c = 0) : 1 ≤ c.rrn ∧ c.rrn ≤ (t.records.length : Int) + 1 := by
  have H := qrk h
  have := H.2.2.2.2.2.1
  unfold qms at this
  split at this <;> omega
theorem qjb {t : Table} {c : Change} (h : ¬qha t c = 0) : qcx t c = qha t c := by unfold qcx; rw [if_pos h]
theorem q1c {t : Table} {c : Change} (h : qha t c = 0) (h2 : ¬qg7 t c = 0 ∨ c.kind = 2) : qcx t c = qg7 t c := by unfold qcx; rw [if_neg (fun e => e h), if_pos h2]
theorem q1d {t : Table} {c : Change} (h : qha t c = 0) (h2 : qg7 t c = 0 ∧ ¬c.kind = 2) : qcx t c = (qc3 t.file.format c.after).2.2 := by
  unfold qcx
  rw [if_neg (fun e => e h), if_neg (by rintro (e | e); exact e h2.1; exact h2.2 e)]
theorem qrl {t : Table} {c : Change} (h : qcx t c = 0) : qha t c = 0 := by
  unfold qcx at h
  split at h
  · contradiction
  · rename_i h2; simpa using h2
theorem qnb {t : Table} {c : Change} (h : qcx t c = 0) : 1 ≤ c.rrn ∧ c.rrn ≤ (t.records.length : Int) + 1 := qp4 (qrl h)
theorem qbfe (t : Table) (c : Change) (h : c.kind = 0) : qbs [(q08 t).2, if ¬c.file = t.file.name then 11 else 0, if c.kind < 0 ∨ 3 ≤ c.kind then 4 else 0, if c.rrn < 1 ∨ (t.records.length : Int) + 1 < c.rrn then 3 else 0, if c.kind = 0 ∧ ¬c.before = ⟨#[]⟩ ∨ c.kind = 2 ∧ ¬c.after = ⟨#[]⟩ then 5 else 0] = qha t c := by
  have hf : (qg1 c = true) = (c.kind = 0 ∧ ¬c.before = ⟨#[]⟩ ∨ c.kind = 2 ∧ ¬c.after = ⟨#[]⟩) := by simp [qg1]
  simp only [qbs, qha, qms, if_pos h, hf]
  (repeat' split) <;> first | rfl | omega | (exfalso; omega) | simp_all
theorem qbff (t : Table) (c : Change) (h : ¬c.kind = 0) : qbs [(q08 t).2, if ¬c.file = t.file.name then 11 else 0, if c.kind < 0 ∨ 3 ≤ c.kind then 4 else 0, if c.rrn < 1 ∨ (t.records.length : Int) < c.rrn then 3 else 0, if c.kind = 0 ∧ ¬c.before = ⟨#[]⟩ ∨ c.kind = 2 ∧ ¬c.after = ⟨#[]⟩ then 5 else 0] = qha t c := by
  have hf : (qg1 c = true) = (c.kind = 0 ∧ ¬c.before = ⟨#[]⟩ ∨ c.kind = 2 ∧ ¬c.after = ⟨#[]⟩) := by simp [qg1]
  simp only [qbs, qha, qms, if_neg h, hf]
  (repeat' split) <;> first | rfl | omega | (exfalso; omega) | simp_all
theorem qxv {t : Table} {n : Int} {r : Rec} (h : (t.records.length : Int) < n) : List.take (t.records.length + 1) (t.records.map qbp ++ [D.agg [.b r.deleted, .s r.bytes]]) = (qey t n r).records.map qbp := by
  unfold qey
  simp only [if_pos h]
  rw [List.take_of_length_le (by simp), List.map_append]
  rfl
theorem qxw {t : Table} {n : Int} {r : Rec} (h : n ≤ (t.records.length : Int)) : List.take t.records.length ((t.records.map qbp).set (n - 1).toNat (D.agg [.b r.deleted, .s r.bytes])) = (qey t n r).records.map qbp := by
  unfold qey
  simp only [if_neg (show ¬(t.records.length : Int) < n by omega)]
  rw [List.take_of_length_le (by simp), List.map_set]
  rfl
theorem qmd {t : Table} {c : Change} (h : ¬qcx t c = 0) : qgb t c = (q0z, qcx t c) := by unfold qgb; rw [if_pos h]
theorem qh5 {t : Table} {c : Change} (h : qcx t c = 0) : qgb t c = (qey t c.rrn (qfb c), 0) := by unfold qgb; rw [if_neg (fun e => e h)]
end Go.Ev

namespace Go.Ev
open Go.Proofs Ty
set_option maxRecDepth 10000
set_option maxHeartbeats 4000000
noncomputable def e66 : List O → Option (Prop × O)
  | [.d x_l] => match decL 4 qb5 x_l with
    | some l => some (l.length ≤ 1000000, .own 110 4 (l.map q05))
    | _ => none
  | _ => none
noncomputable def q7f : FuncId → List O → Option (Prop × O) := addT q1b 66 e66
noncomputable def e67 : List O → Option (Prop × O)
  | [.d x_l] => match decL 2 qbx x_l with
    | some l => some (l.length ≤ 1000000, .own 113 2 (l.map q06))
    | _ => none
  | _ => none
noncomputable def q7g : FuncId → List O → Option (Prop × O) := addT q7f 67 e67
noncomputable def e68 : List O → Option (Prop × O)
  | [.d x_l] => match decL 2 qc5 x_l with
    | some l => some (l.length ≤ 1000000, .own 104 2 (l.map qbp))
    | _ => none
  | _ => none
noncomputable def q7h : FuncId → List O → Option (Prop × O) := addT q7g 68 e68
noncomputable def e122 : List O → Option (Prop × O)
  | [.d x_t, .d x_c] => match q0y x_t, q00 x_c with
    | some t, some c => some (1 ≤ c.rrn ∧ c.rrn ≤ (t.records.length : Int) + 1 ∧ t.records.length ≤ 1000000, .d (.i .i64 (qg7 t c)))
    | _, _ => none
  | _ => none
noncomputable def q1e : FuncId → List O → Option (Prop × O) := addT q7h 122 e122
noncomputable def e93 : List O → Option (Prop × O)
  | [.d x_t, .d x_c] => match q0y x_t, q00 x_c with
    | some t, some c => some ((t.file.format.fields.length ≤ 1000000 ∧ t.file.keys.length ≤ 1000000 ∧ t.records.length ≤ 1000000), .d (.i .i64 (qcx t c)))
    | _, _ => none
  | _ => none
noncomputable def q7i : FuncId → List O → Option (Prop × O) := addT q1e 93 e93
noncomputable def e94 : List O → Option (Prop × O)
  | [.d x_t, .d (.i .i64 n), .d x_r] => match q0y x_t, qc5 x_r with
    | some t, some r => some (1 ≤ n ∧ n ≤ (t.records.length : Int) + 1 ∧ t.records.length ≤ 1000000, .d (q0g (qey t n r)))
    | _, _ => none
  | _ => none
noncomputable def q7j : FuncId → List O → Option (Prop × O) := addT q7i 94 e94
noncomputable def e70 : List O → Option (Prop × O)
  | [.d x_t, .d x_c] => match q0y x_t, q00 x_c with
    | some t, some c => some ((t.file.format.fields.length ≤ 1000000 ∧ t.file.keys.length ≤ 1000000 ∧ t.records.length ≤ 1000000), .tup [.d (q0g (qgb t c).1), .d (.i .i64 (qgb t c).2)])
    | _, _ => none
  | _ => none
noncomputable def q7k : FuncId → List O → Option (Prop × O) := addT q7j 70 e70
noncomputable def e71 : List O → Option (Prop × O)
  | [.d x_c] => match q00 x_c with
    | some c => some (True, .tup [.d (q0u (qgi c).1), .d (.i .i64 (qgi c).2)])
    | _ => none
  | _ => none
noncomputable def q7l : FuncId → List O → Option (Prop × O) := addT q7k 71 e71
end Go.Ev

namespace Go.Ev
def okT (t : Table) : Prop := t.file.format.fields.length ≤ 1000000 ∧ t.file.keys.length ≤ 1000000 ∧ t.records.length ≤ 1000000
def okTs (l : List Table) : Prop := l.length ≤ 1000000 ∧ ∀ i, okT (l.getD i q0z)
theorem qgj {l : List Table} {i : Nat} (h : i < l.length) (z : D) : (l.map q0g).getD i z = q0g (l.getD i q0z) := by
  simp [List.getD, List.getElem?_map, List.getElem?_eq_getElem h]
def qf3 (l : List Table) (n : ByteArray) (i : Nat) : Int := if (l.getD i q0z).file.name = n then 1 else 0
def qbq (l : List Table) (n : ByteArray) : Int := match qb8 (qf3 l n) l.length with
  | some i => i
  | none => -1
theorem q1f {l : List Table} {n : ByteArray} {i : Nat} (h : ∀ j, j < i → qf3 l n j = 0) (hi : i < l.length) (hg : (l.getD i q0z).file.name = n) : qbq l n = i := by
  unfold qbq
  rw [qd8 h hi (by unfold qf3; rw [if_pos hg]; decide)]
theorem q1g {l : List Table} {n : ByteArray} {i : Nat} (h : ∀ j, j < i → qf3 l n j = 0) (hi : l.length ≤ i) : qbq l n = -1 := by
  unfold qbq
  rw [qd1 fun j hj => h j (by omega)]
theorem qba1 {l : List Table} {n : ByteArray} {i : Nat} (hg : ¬(l.getD i q0z).file.name = n) : qf3 l n i = 0 := by unfold qf3; rw [if_neg hg]
def tabE (l : List Table) (i : Nat) : Int := if (q08 (l.getD i q0z)).2 ≠ 0 then (q08 (l.getD i q0z)).2 else if qbq l (l.getD i q0z).file.name < i then 13 else 0
def qd6 (l : List Table) : Int := if 8 < l.length then 2 else match qb8 (tabE l) l.length with
  | some i => tabE l i
  | none => 0
theorem qba2 {l : List Table} (h : 8 < (l.length : Int)) : qd6 l = 2 := by unfold qd6; rw [if_pos (by omega)]
theorem q1h {l : List Table} {i : Nat} (h8 : l.length ≤ 8) (h : ∀ j, j < i → tabE l j = 0) (hi : i < l.length) (hg : ¬tabE l i = 0) : qd6 l = tabE l i := by
  unfold qd6
  rw [if_neg (by omega), qd8 h hi hg]
theorem q1i {l : List Table} {i : Nat} (h8 : l.length ≤ 8) (h : ∀ j, j < i → tabE l j = 0) (hi : l.length ≤ i) : qd6 l = 0 := by
  unfold qd6
  rw [if_neg (by omega), qd1 fun j hj => h j (by omega)]
theorem qp5 {l : List Table} {i : Nat} (h : ¬(q08 (l.getD i q0z)).2 = 0) : tabE l i = (q08 (l.getD i q0z)).2 := by unfold tabE; rw [if_pos h]
theorem qp6 {l : List Table} {i : Nat} (h : (q08 (l.getD i q0z)).2 = 0) (h2 : qbq l (l.getD i q0z).file.name < i) : tabE l i = 13 := by unfold tabE; rw [if_neg (fun e => e h), if_pos h2]
theorem qwl {l : List Table} {i : Nat} (h : (q08 (l.getD i q0z)).2 = 0) (h2 : (i : Int) ≤ qbq l (l.getD i q0z).file.name) : tabE l i = 0 := by unfold tabE; rw [if_neg (fun e => e h), if_neg (by omega)]
def chkL (ts : List Table) (l : List Entry) : List AUnit := if qd6 ts ≠ 0 then [] else qen l
def chkE (ts : List Table) (l : List Entry) : Int := if qd6 ts ≠ 0 then qd6 ts else (qbc l).2
theorem qsi {ts : List Table} {l : List Entry} (h : ¬qd6 ts = 0) : chkL ts l = [] ∧ chkE ts l = qd6 ts := ⟨by unfold chkL; rw [if_pos h], by unfold chkE; rw [if_pos h]⟩
theorem qkp {ts : List Table} {l : List Entry} (h : qd6 ts = 0) : chkL ts l = qen l ∧ chkE ts l = (qbc l).2 := ⟨by unfold chkL; rw [if_neg (fun e => e h)], by unfold chkE; rw [if_neg (fun e => e h)]⟩
structure Want where
  up : Bool
  n : Int
def Want.has (w : Want) (x : Entry) : Bool := if w.up then decide (x.number ≤ w.n) else decide (w.n ≤ x.number)
def qgn (w : Want) (x : Entry) : Bool := decide (x.kind = 0) && w.has x
def qkg (back : Bool) (x : Entry) : Change := if back then (qgi x.change).1 else x.change
def qev (w : Want) (back : Bool) (l : List Entry) : List Change := (l.filter (qgn w)).map (qkg back)
def qe7 (w : Want) (back : Bool) (l : List Entry) : List Change := if back then (qev w back l).reverse else qev w back l
theorem qxx {w : Want} {back : Bool} {l : List Entry} {i : Nat} (hi : i < l.length) : qev w back (l.take (i + 1)) = if qgn w (l.getD i q0i) = true then qev w back (l.take i) ++ [qkg back (l.getD i q0i)] else qev w back (l.take i) := by
  unfold qev
  rw [qdw q0i hi, List.filter_append, List.map_append]
  generalize l.getD i q0i = x
  cases h : qgn w x <;> simp [List.filter_cons, h]
theorem qn1 {w : Want} {back : Bool} {l : List Entry} {i : Nat} : (qev w back (l.take i)).length ≤ i := by
  unfold qev
  rw [List.length_map]
  have := List.length_filter_le (qgn w) (l.take i)
  rw [List.length_take] at this
  omega
theorem qbfg (w : Want) (back : Bool) (l : List Entry) : (qev w back l).length ≤ l.length := by
  have := qn1 (w := w) (back := back) (l := l) (i := l.length)
  rwa [List.take_length] at this
theorem qkq {n : Int} {x : Entry} : qgn ⟨false, n⟩ x = true ↔ x.kind = 0 ∧ n ≤ x.number := by simp [qgn, Want.has]
theorem qkr {n : Int} {x : Entry} : qgn ⟨true, n⟩ x = true ↔ x.kind = 0 ∧ x.number ≤ n := by simp [qgn, Want.has]
theorem qo9 {w : Want} {back : Bool} {l : List Entry} {i : Nat} (hi : i < l.length) (h : ¬qgn w (l.getD i q0i) = true) : qev w back (l.take (i + 1)) = qev w back (l.take i) := by rw [qxx hi, if_neg h]
theorem ql4 {w : Want} {back : Bool} {l : List Entry} {i : Nat} (hi : i < l.length) (h : qgn w (l.getD i q0i) = true) : qev w back (l.take (i + 1)) = qev w back (l.take i) ++ [qkg back (l.getD i q0i)] := by rw [qxx hi, if_pos h]
theorem qxy {w : Want} {l : List Entry} {i : Nat} (h : l.length ≤ i) : (qev w true (l.take i)).reverse = qe7 w true l := by rw [List.take_of_length_le h]; rfl
theorem qxz {w : Want} {l : List Entry} {i : Nat} (h : l.length ≤ i) : qev w false (l.take i) = qe7 w false l := by rw [List.take_of_length_le h]; rfl
theorem q7m {w : Want} {l : List Entry} {i : Nat} (h : l.length ≤ i) : List.take (qev w true (l.take i)).length (qev w true (l.take i)).reverse = qe7 w true l := by
  rw [List.take_of_length_le (l := (qev w true (l.take i)).reverse) (by simp), qxy h]
def qcf (s : List Table × Int) (c : Change) : List Table × Int :=
  if qbq s.1 c.file < 0 then s else (s.1.set (qbq s.1 c.file).toNat (qey (s.1.getD (qbq s.1 c.file).toNat q0z) c.rrn (qfb c)), s.2 + 1)
def mTo (ts : List Table) (cs : List Change) : Nat → List Table × Int
  | 0 => (ts, 0)
  | k + 1 => qcf (mTo ts cs k) (cs.getD k q09)
def mErr (ts : List Table) (cs : List Change) (k : Nat) : Int :=
  if qbq (mTo ts cs k).1 (cs.getD k q09).file < 0 then 0 else qcx ((mTo ts cs k).1.getD (qbq (mTo ts cs k).1 (cs.getD k q09).file).toNat q0z) (cs.getD k q09)
def qcd (ts : List Table) (cs : List Change) : List Table × Int × Int := match qb8 (mErr ts cs) cs.length with
  | some k => ([], 0, mErr ts cs k)
  | none => ((mTo ts cs cs.length).1, (mTo ts cs cs.length).2, 0)
theorem qk4 {α : Type} (l : List α) (a i : Nat) (x z : α) : (l.set a x).getD i z = if a = i ∧ a < l.length then x else l.getD i z := by
  simp only [List.getD, List.getElem?_set]
  by_cases e : a = i
  · subst e
    by_cases h : a < l.length
    · simp [h]
    · simp [h]
  · simp [e]
theorem q34 {g : Nat → Int} {n i : Nat} (h : qb8 g n = some i) : i < n := by
  unfold qb8 at h
  have := List.mem_of_find?_eq_some h
  simpa using this
theorem qba3 {t : Table} (h : (q08 t).2 = 0) : t.records.length ≤ 60 := by
  unfold q08 at h
  split at h
  · rename_i h2; exact absurd h h2
  split at h
  · cases h
  · omega
theorem qs8 (t : Table) (c : Change) : (qgb t c).2 = qcx t c := by
  unfold qgb
  split
  · rfl
  · rename_i h; simp only; exact (Decidable.not_not.1 h).symm
theorem qks (l : List Table) (n : ByteArray) : -1 ≤ qbq l n ∧ qbq l n < l.length := by
  unfold qbq
  cases h : qb8 (qf3 l n) l.length with
  | none => simp only; omega
  | some i => have := q34 h; simp only; omega
theorem ql5 (ts : List Table) (cs : List Change) : ∀ k, (mTo ts cs k).1.length = ts.length
  | 0 => rfl
  | k + 1 => by
    have ih := ql5 ts cs k
    simp only [mTo, qcf]
    split
    · exact ih
    · simpa using ih
theorem qsj (ts : List Table) (cs : List Change) : ∀ k, 0 ≤ (mTo ts cs k).2 ∧ (mTo ts cs k).2 ≤ k
  | 0 => by simp [mTo]
  | k + 1 => by
    have ih := qsj ts cs k
    simp only [mTo, qcf]
    split
    · omega
    · simp only; omega
theorem qbfh {t : Table} {c : Change} (h : okT t) (hc : qcx t c = 0) : okT (qey t c.rrn (qfb c)) := by
  have h1 := (qrk (qrl hc)).1
  have h2 : t.records.length ≤ 60 := qba3 h1
  refine ⟨h.1, h.2.1, ?_⟩
  unfold qey
  simp only
  split
  · simp; omega
  · simp; omega
theorem qu6 {ts : List Table} {cs : List Change} (h : okTs ts) : ∀ {k : Nat}, (∀ j, j < k → mErr ts cs j = 0) → okTs (mTo ts cs k).1
  | 0, _ => h
  | k + 1, he => by
    have ih := qu6 h (k := k) fun j hj => he j (by omega)
    have hk := he k (by omega)
    have hl := ql5 ts cs (k + 1)
    refine ⟨by rw [hl]; exact h.1, ?_⟩
    intro i
    simp only [mTo, qcf]
    unfold mErr at hk
    split
    · exact ih.2 i
    · rename_i hf
      rw [if_neg hf] at hk
      simp only
      have hb := qks (mTo ts cs k).1 (cs.getD k q09).file
      rw [qk4]
      split
      · exact qbfh (ih.2 _) hk
      · exact ih.2 i
theorem qp7 {ts : List Table} {cs : List Change} {k : Nat} (h : ∀ j, j < k → mErr ts cs j = 0) (hk : k < cs.length) (hg : ¬mErr ts cs k = 0) : qcd ts cs = ([], 0, mErr ts cs k) := by
  unfold qcd
  rw [qd8 h hk hg]
theorem qp8 {ts : List Table} {cs : List Change} {k : Nat} (h : ∀ j, j < k → mErr ts cs j = 0) (hk : k = cs.length) : qcd ts cs = ((mTo ts cs k).1, (mTo ts cs k).2, 0) := by
  subst hk
  unfold qcd
  rw [qd1 fun j hj => h j hj]
theorem qba4 {ts : List Table} {cs : List Change} {k : Nat} (h : qbq (mTo ts cs k).1 (cs.getD k q09).file < 0) : mErr ts cs k = 0 := by unfold mErr; rw [if_pos h]
theorem qpa {ts : List Table} {cs : List Change} {k : Nat} (h : 0 ≤ qbq (mTo ts cs k).1 (cs.getD k q09).file) : mErr ts cs k = qcx ((mTo ts cs k).1.getD (qbq (mTo ts cs k).1 (cs.getD k q09).file).toNat q0z) (cs.getD k q09) := by unfold mErr; rw [if_neg (by omega)]
theorem q1j {ts : List Table} {cs : List Change} {k : Nat} (h : qbq (mTo ts cs k).1 (cs.getD k q09).file < 0) : mTo ts cs (k + 1) = mTo ts cs k := by simp only [mTo, qcf]; rw [if_pos h]
theorem qrm {ts : List Table} {cs : List Change} {k : Nat} (h : 0 ≤ qbq (mTo ts cs k).1 (cs.getD k q09).file) : mTo ts cs (k + 1) = ((mTo ts cs k).1.set (qbq (mTo ts cs k).1 (cs.getD k q09).file).toNat (qey ((mTo ts cs k).1.getD (qbq (mTo ts cs k).1 (cs.getD k q09).file).toNat q0z) (cs.getD k q09).rrn (qfb (cs.getD k q09))), (mTo ts cs k).2 + 1) := by simp only [mTo, qcf]; rw [if_neg (by omega)]
end Go.Ev
namespace Go.Ev
def swpL {α : Type} (l : List α) (z : α) (i j : Nat) : List α := (l.set i (l.getD j z)).set j (l.getD i z)
def qi3 {α : Type} (l : List α) (z : α) : Nat → List α
  | 0 => l
  | i + 1 => swpL (qi3 l z i) z i (l.length - 1 - i)
theorem qk5 {α : Type} (l : List α) (z : α) : ∀ i, (qi3 l z i).length = l.length
  | 0 => rfl
  | i + 1 => by simp [qi3, swpL, qk5 l z i]
theorem qx0 {α : Type} (l : List α) (z : α) : ∀ i, 2 * i ≤ l.length → ∀ k, k < l.length → (qi3 l z i)[k]? = if k < i ∨ l.length - i ≤ k then l[l.length - 1 - k]? else l[k]?
  | 0, _, k, hk => by rw [if_neg (by omega)]; rfl
  | i + 1, hi, k, hk => by
    have ih := qx0 l z i (by omega)
    have hl := qk5 l z i
    have g : ∀ q, q < l.length → (qi3 l z i).getD q z = l.getD (if q < i ∨ l.length - i ≤ q then l.length - 1 - q else q) z := fun q hq => by
      simp only [List.getD]
      rw [ih q hq]
      split <;> rfl
    simp only [qi3, swpL]
    rw [List.getElem?_set, List.getElem?_set, List.length_set, hl]
    by_cases e1 : l.length - 1 - i = k
    · rw [if_pos e1, if_pos (by omega), if_pos (by omega), g i (by omega), if_neg (by omega)]
      have : i = l.length - 1 - k := by omega
      rw [← this]
      simp [List.getD, List.getElem?_eq_getElem (show i < l.length by omega)]
    · rw [if_neg e1]
      by_cases e2 : i = k
      · subst e2
        rw [if_pos rfl, if_pos (by omega), if_pos (by omega), g _ (by omega), if_neg (by omega)]
        simp [List.getD, List.getElem?_eq_getElem (show l.length - 1 - i < l.length by omega)]
      · rw [if_neg e2, ih k hk]
        by_cases e3 : k < i ∨ l.length - i ≤ k
        · rw [if_pos e3, if_pos (by omega)]
        · rw [if_neg e3, if_neg (by omega)]
theorem qba5 {α : Type} (l : List α) (z : α) {i : Nat} (h : 2 * i ≤ l.length) (h2 : l.length ≤ 2 * i + 1) : qi3 l z i = l.reverse := by
  apply List.ext_getElem?
  intro k
  by_cases hk : k < l.length
  · rw [qx0 l z i h k hk, List.getElem?_reverse hk]
    split
    · rfl
    · rw [show l.length - 1 - k = k by omega]
  · rw [List.getElem?_eq_none (by rw [qk5]; omega), List.getElem?_eq_none (by simp; omega)]
theorem q7n {l : List Change} {i : Nat} : (((qi3 l q09 i).map q0u).set i (q0u ((qi3 l q09 i).getD (l.length - 1 - i) q09))).set (l.length - 1 - i) (q0u ((qi3 l q09 i).getD i q09)) = (qi3 l q09 (i + 1)).map q0u := by
  simp [qi3, swpL, List.map_set]
theorem qbfi {l : List Change} {i : Nat} (h : 2 * i ≤ l.length) (h2 : (i : Int) < (l.length : Int) - 1 - i) (d z : D) : (((qi3 l q09 i).map q0u).set i d).getD (l.length - 1 - i) z = q0u ((qi3 l q09 i).getD (l.length - 1 - i) q09) := by
  have hl := qk5 l q09 i
  simp only [List.getD]
  rw [List.getElem?_set_ne (by omega), List.getElem?_map, List.getElem?_eq_getElem (by omega)]
  rfl
theorem qpb (l : List Change) : (l.map q0u).all D.flatA = true := by
  rw [List.all_map, List.all_eq_true]
  intro x _; rfl
end Go.Ev
