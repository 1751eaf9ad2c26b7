/- Tools and contracts under the laws of this seat: DevSortP to DevTabs. -/
import Derived.Test.YtkgkgcojfocomaaGreatE04
import Derived.Test.YtkgkgcojfocomaaGreatE03
import Derived.WalkKit
set_option linter.unusedVariables false
set_option linter.unusedSimpArgs false
namespace Go.Ev
open Go.RowKit
def encU (u : AUnit) : List Value := [.int .i64 u.unit, .int .i64 u.first, .int .i64 u.last, .int .i64 u.state]
theorem cell_RD {w : World} {X : Nat → Prop} {u : AUnit} {c : Nat} {x : D} (h : (encAUnit u).cells[c]? = some x) : RD w X (encU u)[c]! x := by
  match c, h with
  | 0, h => cases h; exact .i _ _
  | 1, h => cases h; exact .i _ _
  | 2, h => cases h; exact .i _ _
  | 3, h => cases h; exact .i _ _
theorem cell_of {w : World} {X : Nat → Prop} {u : AUnit} {c : Nat} {v : Value} {x : D} (h : (encAUnit u).cells[c]? = some x) (hr : RD w X v x) : v = (encU u)[c]! := by
  match c, h with
  | 0, h => cases h; cases hr; rfl
  | 1, h => cases h; cases hr; rfl
  | 2, h => cases h; cases hr; rfl
  | 3, h => cases h; cases hr; rfl
theorem cells4 (u : AUnit) : (encAUnit u).cells.length = 4 := rfl
theorem flatU (us : List AUnit) (t : Nat) : (flat (us.map encAUnit))[t]? = (us[t / 4]?).bind fun u => (encAUnit u).cells[t % 4]? := by
  have hs : ∀ d ∈ us.map encAUnit, d.cells.length = 4 := fun d hd => by
    obtain ⟨u, _, rfl⟩ := List.mem_map.1 hd
    rfl
  have ht : t = t / 4 * 4 + t % 4 := by omega
  cases h : us[t / 4]? with
  | none =>
    rw [Option.bind_none]
    refine List.getElem?_eq_none ?_
    rw [flat_length (sz := 4) hs, List.length_map]
    have := List.getElem?_eq_none_iff.1 h
    omega
  | some u =>
    rw [Option.bind_some]
    have := flat_get (sz := 4) (l := us.map encAUnit) (j := t / 4) (c := t % 4) (d := encAUnit u) hs (by rw [List.getElem?_map, h]; rfl) (by omega)
    rwa [← ht] at this
theorem decAUnit_eq {d : D} {x : AUnit} (h : decAUnit d = some x) : d = encAUnit x := by
  unfold decAUnit at h
  split at h
  · cases h; rfl
  · cases h
theorem decM_AU : ∀ {l : List D} {us : List AUnit}, decM decAUnit l = some us → l = us.map encAUnit
  | [], us, h => by cases h; rfl
  | d :: l, us, h => by
    unfold decM at h
    split at h
    · rename_i x y h1 h2
      cases h
      rw [List.map_cons, decAUnit_eq h1, decM_AU h2]
    · cases h
def leF (x y : AUnit) : Bool := decide (x.first ≤ y.first)
def sortU (us : List AUnit) : List AUnit := us.mergeSort leF
def okU (us : List AUnit) : Prop := (us.map (·.first)).Nodup ∧ (∀ u ∈ us, 0 ≤ u.first ∧ u.first ≤ 100000) ∧ us.length ≤ 1000000
def gSortU (l : List D) : Option (Prop × List D) := match decM decAUnit l with
  | some us => some (okU us, (sortU us).map encAUnit)
  | none => none
theorem sortU_len (us : List AUnit) : (sortU us).length = us.length := by simp [sortU]
theorem nodup_first {us : List AUnit} (h : (us.map (·.first)).Nodup) {x y : AUnit} (hx : x ∈ us) (hy : y ∈ us) (e : x.first = y.first) : x = y := by
  obtain ⟨i, hi, rfl⟩ := List.getElem_of_mem hx
  obtain ⟨j, hj, rfl⟩ := List.getElem_of_mem hy
  have key : ∀ (i j : Nat) (hi : i < us.length) (hj : j < us.length), i < j → us[i].first ≠ us[j].first := fun i j hi hj hl => by
    have := List.pairwise_iff_getElem.1 h i j (by simpa using hi) (by simpa using hj) hl
    simpa using this
  rcases Nat.lt_trichotomy i j with h1 | h1 | h1
  · exact absurd e (key i j hi hj h1)
  · subst h1; rfl
  · exact absurd e.symm (key j i hj hi h1)
end Go.Ev

namespace Go.Ev
theorem sortedU_ext : ∀ {a b : List AUnit}, a.Pairwise (fun x y => x.first < y.first) → b.Pairwise (fun x y => x.first < y.first) → (∀ u, u ∈ a ↔ u ∈ b) → a = b
  | [], [], _, _, _ => rfl
  | [], y :: b, _, _, h => absurd ((h y).2 (by simp)) (by simp)
  | x :: a, [], _, _, h => absurd ((h x).1 (by simp)) (by simp)
  | x :: a, y :: b, ha, hb, h => by
    rw [List.pairwise_cons] at ha hb
    have e : x = y := by
      have h1 := (h x).1 (by simp)
      have h2 := (h y).2 (by simp)
      rw [List.mem_cons] at h1 h2
      rcases h1 with h1 | h1
      · exact h1
      · rcases h2 with h2 | h2
        · exact h2.symm
        · have := ha.1 _ h2; have := hb.1 _ h1; omega
    subst e
    rw [sortedU_ext ha.2 hb.2 fun u => ?_]
    constructor
    · intro hu
      have := (h u).1 (List.mem_cons_of_mem _ hu)
      rw [List.mem_cons] at this
      rcases this with rfl | this
      · have := ha.1 _ hu; omega
      · exact this
    · intro hu
      have := (h u).2 (List.mem_cons_of_mem _ hu)
      rw [List.mem_cons] at this
      rcases this with rfl | this
      · have := hb.1 _ hu; omega
      · exact this
def pickU (us : List AUnit) (d : List Nat) : List AUnit := d.map fun j => us.getD j zAUnit
theorem pick_perm {us : List AUnit} {d : List Nat} (hd : d.Perm (List.range us.length)) : (pickU us d).Perm us := by
  unfold pickU
  refine (hd.map _).trans ?_
  have : (List.range us.length).map (fun j => us.getD j zAUnit) = us := by
    apply List.ext_getElem?
    intro j
    rw [List.getElem?_map]
    by_cases h : j < us.length
    · rw [List.getElem?_range h, Option.map_some, List.getD_eq_getElem?_getD, List.getElem?_eq_getElem h, Option.getD_some]
    · rw [List.getElem?_eq_none (by simpa using h), List.getElem?_eq_none (by omega)]; rfl
  rw [this]
theorem sort_pick {us : List AUnit} {d : List Nat} (hd : d.Perm (List.range us.length)) (hs : us.Pairwise (fun x y => x.first < y.first)) : sortU (pickU us d) = us := by
  have hp := pick_perm hd
  have h1 : (sortU (pickU us d)).Pairwise fun x y => leF x y = true := List.pairwise_mergeSort (fun a b c => by unfold leF; simp only [decide_eq_true_eq]; omega) (fun a b => by unfold leF; simp only [Bool.or_eq_true, decide_eq_true_eq]; omega) _
  have hp2 : (sortU (pickU us d)).Perm us := (List.mergeSort_perm _ _).trans hp
  have hn : (us.map (·.first)).Nodup := by
    unfold List.Nodup
    rw [List.pairwise_map]
    exact hs.imp fun h => by omega
  have h2 : ((sortU (pickU us d)).map (·.first)).Nodup := ((hp2.map _).nodup_iff).2 hn
  unfold List.Nodup at h2
  rw [List.pairwise_map] at h2
  refine sortedU_ext ((h1.and h2).imp fun {a b} q => ?_) hs fun u => hp2.mem_iff
  have q1 := q.1
  have q2 : a.first ≠ b.first := q.2
  unfold leF at q1
  simp only [decide_eq_true_eq] at q1
  omega
theorem ok_pick {us : List AUnit} {d : List Nat} (hd : d.Perm (List.range us.length)) (hs : us.Pairwise (fun x y => x.first < y.first)) (hb : ∀ u ∈ us, 0 ≤ u.first ∧ u.first ≤ 100000) (hl : us.length ≤ 1000000) : okU (pickU us d) := by
  have hp := pick_perm hd
  refine ⟨((hp.map _).nodup_iff).2 ?_, fun u hu => hb u (hp.mem_iff.1 hu), by rw [hp.length_eq]; exact hl⟩
  unfold List.Nodup
  rw [List.pairwise_map]
  exact hs.imp fun h => by omega
theorem num_bounds {e : Entry} (h : entryErr e = 0) : 1 ≤ e.number ∧ e.number ≤ 9999 := by
  unfold entryErr at h
  split at h
  · cases h
  split at h
  · cases h
  omega
theorem nums_lt {l : List Entry} (h : ∀ j, j < l.length → chk l j) (i : Nat) : ∀ j, i < j → j < l.length → (l.getD i zEntry).number < (l.getD j zEntry).number
  | 0, h1, _ => by omega
  | j + 1, h1, h2 => by
    have q := (h (j + 1) h2).2.1
    have b := num_bounds (h j (by omega)).1
    rw [int_pred, show j + 1 - 1 = j from rfl, w64 (by omega) (by omega)] at q
    have hq : (l.getD (j + 1) zEntry).number = (l.getD j zEntry).number + 1 := Decidable.byContradiction fun e => q ⟨by omega, e⟩
    by_cases e : i = j
    · subst e; omega
    · have := nums_lt h i j (by omega) (by omega); omega
theorem entries_lt {l : List Entry} (h : ∀ j, j < l.length → chk l j) : l.Pairwise fun x y => x.number < y.number := by
  rw [List.pairwise_iff_getElem]
  intro i j hi hj hl
  have := nums_lt h i j hl hj
  rwa [List.getD_eq_getElem?_getD, List.getElem?_eq_getElem hi, Option.getD_some, List.getD_eq_getElem?_getD, List.getElem?_eq_getElem hj, Option.getD_some] at this
theorem cycles_lt {l : List Entry} (h : (check l).2 = 0) : (cycles l).Pairwise (fun x y => x.first < y.first) := by
  have hc : ∀ j, j < l.length → chk l j := fun j hj => check_all h hj
  have hf := (right_PInv h).f
  rw [← cycles_ok h] at hf
  have h2 : ((cycles l).map (·.first)).Pairwise (· < ·) := by
    rw [hf, List.pairwise_map]
    exact (entries_lt hc).filter _
  rwa [List.pairwise_map] at h2
theorem cycles_first {l : List Entry} (h : (check l).2 = 0) : ∀ u ∈ cycles l, 0 ≤ u.first ∧ u.first ≤ 100000 := by
  intro u hu
  have hc : ∀ j, j < l.length → chk l j := fun j hj => check_all h hj
  have hf := (right_PInv h).f
  rw [← cycles_ok h] at hf
  have hm : u.first ∈ (cycles l).map (·.first) := List.mem_map.2 ⟨u, hu, rfl⟩
  rw [hf] at hm
  obtain ⟨e, he, hn⟩ := List.mem_map.1 hm
  have he := (List.mem_filter.1 he).1
  obtain ⟨j, hj, rfl⟩ := List.getElem_of_mem he
  have := num_bounds (hc j hj).1
  rw [List.getD_eq_getElem?_getD, List.getElem?_eq_getElem hj, Option.getD_some] at this
  omega
theorem unitsOf_len (l : List Entry) : (unitsOf l).length ≤ l.length := by
  have key : ∀ (l : List Entry) (us : List AUnit), (l.foldl uStep us).length ≤ us.length + l.length := fun l => by
    induction l with
    | nil => intro us; simp
    | cons e l ih =>
      intro us
      have h1 := ih (uStep us e)
      have h2 : (uStep us e).length ≤ us.length + 1 := by
        unfold uStep
        split
        · simp
        split
        · split <;> simp
        · simp
      simp only [List.foldl_cons, List.length_cons]
      omega
  have := key l []
  simpa [unitsOf] using this
theorem check_len {l : List Entry} (h : (check l).2 = 0) : l.length ≤ 80 := by
  unfold check at h
  split at h
  · cases h
  · omega
theorem cycles_len {l : List Entry} : (cycles l).length ≤ 80 := by
  by_cases h : (check l).2 = 0
  · rw [cycles_ok h]
    have := unitsOf_len l; have := check_len h
    omega
  · rw [cycles_err h]; simp
theorem gSort_pick {l : List Entry} (h : (check l).2 = 0) {d : List Nat} (hd : d.Perm (List.range (cycles l).length)) : gSortU ((pickU (cycles l) d).map encAUnit) = some (okU (pickU (cycles l) d), (cycles l).map encAUnit) := by
  unfold gSortU
  rw [dM_AUnit]
  simp only
  rw [sort_pick hd (cycles_lt h)]
theorem ok_pick35 {l : List Entry} (h : (check l).2 = 0) {d : List Nat} (hd : d.Perm (List.range (cycles l).length)) : okU (pickU (cycles l) d) :=
  ok_pick hd (cycles_lt h) (cycles_first h) (by have := cycles_len (l := l); omega)
theorem pick_snoc (us : List AUnit) (d : List Nat) (j : Nat) : pickU us (d ++ [j]) = pickU us d ++ [us.getD j zAUnit] := by simp [pickU]
theorem pick_len (us : List AUnit) (d : List Nat) : (pickU us d).length = d.length := by simp [pickU]
def imgStep (file : ByteArray) (rrn : Int) (out : List ByteArray) (e : Entry) : List ByteArray :=
  if e.kind = 0 ∧ e.change.file = file ∧ e.change.rrn = rrn then (if out = [] then [e.change.before] else out) ++ [e.change.after] else out
def imgs (file : ByteArray) (rrn : Int) (l : List Entry) : List ByteArray := l.foldl (imgStep file rrn) []
theorem imgs_take {l : List Entry} {file : ByteArray} {rrn : Int} {i : Nat} (h : i < l.length) : imgs file rrn (l.take (i + 1)) = imgStep file rrn (imgs file rrn (l.take i)) (l.getD i zEntry) := by
  rw [take_getD zEntry h]; simp [imgs]
theorem imgs_len (file : ByteArray) (rrn : Int) (l : List Entry) : (imgs file rrn l).length ≤ l.length + 1 ∧ (imgs file rrn l = [] ∨ 1 ≤ (imgs file rrn l).length) := by
  have key : ∀ (l : List Entry) (o : List ByteArray), (l.foldl (imgStep file rrn) o).length ≤ (if o = [] then 1 else o.length) + l.length := fun l => by
    induction l with
    | nil => intro o; simp; split <;> simp_all
    | cons e l ih =>
      intro o
      have h1 := ih (imgStep file rrn o e)
      have h2 : (if imgStep file rrn o e = [] then 1 else (imgStep file rrn o e).length) ≤ (if o = [] then 1 else o.length) + 1 := by
        unfold imgStep
        (repeat' split) <;> simp_all
      simp only [List.foldl_cons, List.length_cons]
      omega
  have := key l []
  simp at this
  refine ⟨by unfold imgs; omega, ?_⟩
  cases imgs file rrn l <;> simp
def imagesC (l : List Entry) (file : ByteArray) (rrn : Int) : List ByteArray × Int :=
  if (check l).2 ≠ 0 then ([], (check l).2) else if isName file = false then ([], 7) else if rrn < 1 ∨ 60 < rrn then ([], 3) else (imgs file rrn l, 0)
end Go.Ev
namespace Go.Ev
theorem cp_get {us : List AUnit} {j : Nat} (h : j < (us.map fun u => D.cp (cellsU u)).length) : (us.map fun u => D.cp (cellsU u)).getD j .np = .cp [.i .i64 (us.getD j zAUnit).unit, .i .i64 (us.getD j zAUnit).first, .i .i64 (us.getD j zAUnit).last, .i .i64 (us.getD j zAUnit).state] := by
  rw [List.length_map] at h
  rw [List.getD_eq_getElem?_getD, List.getElem?_map, List.getElem?_eq_getElem h, List.getD_eq_getElem?_getD, List.getElem?_eq_getElem h]
  rfl
end Go.Ev
namespace Go.Ev
theorem pick_len35 {us : List AUnit} {d : List Nat} (hd : d.Perm (List.range us.length)) : (pickU us d).length = us.length := (pick_perm hd).length_eq
theorem nodup_len : ∀ (n : Nat) (d : List Nat), d.Nodup → (∀ k ∈ d, k < n) → d.length ≤ n
  | 0, d, _, h => by
    cases d with
    | nil => simp
    | cons a d => have := h a (by simp); omega
  | n + 1, d, hn, h => by
    by_cases hm : n ∈ d
    · have := nodup_len n (d.erase n) (hn.erase n) fun k hk => by
        have h1 := h k (List.mem_of_mem_erase hk)
        have h2 : k ≠ n := fun e => by subst e; exact (hn.not_mem_erase) hk
        omega
      rw [List.length_erase_of_mem hm] at this
      omega
    · have := nodup_len n d hn fun k hk => by
        have h1 := h k hk
        have : k ≠ n := fun e => hm (e ▸ hk)
        omega
      omega
end Go.Ev

namespace Go.Ev
structure DType where
  kind : Int
  length : Int
  scale : Int
deriving DecidableEq
def encDType (x : DType) : D := .agg [.i .i64 x.kind, .i .i64 x.length, .i .i64 x.scale]
def zDType : DType := ⟨0, 0, 0⟩
theorem etaDType (x : DType) : (⟨x.kind, x.length, x.scale⟩ : DType) = x := rfl
def decDType : D → Option DType
  | .agg [.i .i64 a0, .i .i64 a1, .i .i64 a2] => some ⟨a0, a1, a2⟩
  | _ => none
theorem decDType_le {d : D} {x : DType} (h : decDType d = some x) : dle d (encDType x) := by
  unfold decDType at h
  split at h
  · cases h; exact dle_refl _
  · cases h
theorem zfDType : (⟨0, 0, 0⟩ : DType) = zDType := rfl
structure Field where
  name : ByteArray
  type_ : DType
deriving DecidableEq
def encField (x : Field) : D := .agg [.s x.name, .i .i64 x.type_.kind, .i .i64 x.type_.length, .i .i64 x.type_.scale]
def zField : Field := ⟨⟨#[]⟩, zDType⟩
theorem etaField (x : Field) : (⟨x.name, x.type_⟩ : Field) = x := rfl
def decField : D → Option Field
  | .agg [.s a0, .i .i64 a1, .i .i64 a2, .i .i64 a3] => some ⟨a0, ⟨a1, a2, a3⟩⟩
  | _ => none
theorem decField_enc (x : Field) : decField (encField x) = some x := rfl
theorem decField_le {d : D} {x : Field} (h : decField d = some x) : dle d (encField x) := by
  unfold decField at h
  split at h
  · cases h; exact dle_refl _
  · cases h
theorem zfField : (⟨⟨#[]⟩, zDType⟩ : Field) = zField := rfl
theorem ceqField {a0 b0 : ByteArray} {a1 b1 : Int} {a2 b2 : Int} {a3 b3 : Int} : cellsEq [.s, .i, .i, .i] [.s a0, .i .i64 a1, .i .i64 a2, .i .i64 a3] [.s b0, .i .i64 b1, .i .i64 b2, .i .i64 b3] = some (eqB (⟨a0, ⟨a1, a2, a3⟩⟩ : Field) ⟨b0, ⟨b1, b2, b3⟩⟩) := by
  simp only [cellsEq, cellEq, seq_dec, ↓reduceIte, Option.some.injEq, Bool.and_true]; rw [Bool.eq_iff_iff]; simp [eqB]
theorem getD_Field (l : List Field) (k : Nat) : (l.map encField).getD k (encField zField) = encField (l.getD k zField) := by
  simp only [List.getD, List.getElem?_map]
  cases l[k]? <;> rfl
theorem getDz_Field (l : List Field) (k : Nat) : (l.map encField).getD k (.agg [.s ⟨#[]⟩, .i .i64 0, .i .i64 0, .i .i64 0]) = encField (l.getD k zField) := getD_Field l k
theorem dL_Field (l : List Field) : decL 4 decField (.sl 4 (l.map encField)) = some l := decL_map decField_enc l
theorem dM_Field (l : List Field) : decM decField (l.map encField) = some l := decM_map decField_enc l
structure KField where
  name : ByteArray
  descending : Bool
deriving DecidableEq
def encKField (x : KField) : D := .agg [.s x.name, .b x.descending]
def zKField : KField := ⟨⟨#[]⟩, false⟩
theorem etaKField (x : KField) : (⟨x.name, x.descending⟩ : KField) = x := rfl
def decKField : D → Option KField
  | .agg [.s a0, .b a1] => some ⟨a0, a1⟩
  | _ => none
theorem decKField_enc (x : KField) : decKField (encKField x) = some x := rfl
theorem decKField_le {d : D} {x : KField} (h : decKField d = some x) : dle d (encKField x) := by
  unfold decKField at h
  split at h
  · cases h; exact dle_refl _
  · cases h
theorem zfKField : (⟨⟨#[]⟩, false⟩ : KField) = zKField := rfl
theorem ceqKField {a0 b0 : ByteArray} {a1 b1 : Bool} : cellsEq [.s, .b] [.s a0, .b a1] [.s b0, .b b1] = some (eqB (⟨a0, a1⟩ : KField) ⟨b0, b1⟩) := by
  simp only [cellsEq, cellEq, seq_dec, ↓reduceIte, Option.some.injEq, Bool.and_true]; rw [Bool.eq_iff_iff]; simp [eqB]
theorem getD_KField (l : List KField) (k : Nat) : (l.map encKField).getD k (encKField zKField) = encKField (l.getD k zKField) := by
  simp only [List.getD, List.getElem?_map]
  cases l[k]? <;> rfl
theorem getDz_KField (l : List KField) (k : Nat) : (l.map encKField).getD k (.agg [.s ⟨#[]⟩, .b false]) = encKField (l.getD k zKField) := getD_KField l k
theorem dL_KField (l : List KField) : decL 2 decKField (.sl 2 (l.map encKField)) = some l := decL_map decKField_enc l
theorem dM_KField (l : List KField) : decM decKField (l.map encKField) = some l := decM_map decKField_enc l
structure Fmt where
  name : ByteArray
  fields : List Field
deriving DecidableEq
def encFmt (x : Fmt) : D := .agg [.s x.name, .sl 4 (x.fields.map encField)]
def zFmt : Fmt := ⟨⟨#[]⟩, []⟩
theorem etaFmt (x : Fmt) : (⟨x.name, x.fields⟩ : Fmt) = x := rfl
def decFmt : D → Option Fmt
  | .agg [.s a0, a1] => match (decL 4 decField) a1 with
    | some b1 => some ⟨a0, b1⟩
    | _ => none
  | _ => none
theorem decFmt_le {d : D} {x : Fmt} (h : decFmt d = some x) : dle d (encFmt x) := by
  unfold decFmt at h
  split at h
  · split at h
    · rename_i h1
      cases h
      simp only [dle, dles, encFmt, and_true, true_and]
      exact (decL_le decField_le) h1
    · cases h
  · cases h
theorem zfFmt : (⟨⟨#[]⟩, []⟩ : Fmt) = zFmt := rfl
structure File where
  name : ByteArray
  format : Fmt
  keys : List KField
  unique : Bool
deriving DecidableEq
def encFile (x : File) : D := .agg [.s x.name, .s x.format.name, .sl 4 (x.format.fields.map encField), .sl 2 (x.keys.map encKField), .b x.unique]
def zFile : File := ⟨⟨#[]⟩, zFmt, [], false⟩
theorem etaFile (x : File) : (⟨x.name, x.format, x.keys, x.unique⟩ : File) = x := rfl
def decFile : D → Option File
  | .agg [.s a0, .s a1, a2, a3, .b a4] => match (decL 4 decField) a2, (decL 2 decKField) a3 with
    | some b2, some b3 => some ⟨a0, ⟨a1, b2⟩, b3, a4⟩
    | _, _ => none
  | _ => none
theorem decFile_le {d : D} {x : File} (h : decFile d = some x) : dle d (encFile x) := by
  unfold decFile at h
  split at h
  · split at h
    · rename_i h2 h3
      cases h
      simp only [dle, dles, encFile, and_true, true_and]
      exact ⟨(decL_le decField_le) h2, (decL_le decKField_le) h3⟩
    · cases h
  · cases h
theorem zfFile : (⟨⟨#[]⟩, zFmt, [], false⟩ : File) = zFile := rfl
structure Rec where
  deleted : Bool
  bytes : ByteArray
deriving DecidableEq
def encRec (x : Rec) : D := .agg [.b x.deleted, .s x.bytes]
def zRec : Rec := ⟨false, ⟨#[]⟩⟩
theorem etaRec (x : Rec) : (⟨x.deleted, x.bytes⟩ : Rec) = x := rfl
def decRec : D → Option Rec
  | .agg [.b a0, .s a1] => some ⟨a0, a1⟩
  | _ => none
theorem decRec_enc (x : Rec) : decRec (encRec x) = some x := rfl
theorem decRec_le {d : D} {x : Rec} (h : decRec d = some x) : dle d (encRec x) := by
  unfold decRec at h
  split at h
  · cases h; exact dle_refl _
  · cases h
theorem zfRec : (⟨false, ⟨#[]⟩⟩ : Rec) = zRec := rfl
theorem ceqRec {a0 b0 : Bool} {a1 b1 : ByteArray} : cellsEq [.b, .s] [.b a0, .s a1] [.b b0, .s b1] = some (eqB (⟨a0, a1⟩ : Rec) ⟨b0, b1⟩) := by
  simp only [cellsEq, cellEq, seq_dec, ↓reduceIte, Option.some.injEq, Bool.and_true]; rw [Bool.eq_iff_iff]; simp [eqB]
theorem getD_Rec (l : List Rec) (k : Nat) : (l.map encRec).getD k (encRec zRec) = encRec (l.getD k zRec) := by
  simp only [List.getD, List.getElem?_map]
  cases l[k]? <;> rfl
theorem getDz_Rec (l : List Rec) (k : Nat) : (l.map encRec).getD k (.agg [.b false, .s ⟨#[]⟩]) = encRec (l.getD k zRec) := getD_Rec l k
theorem dL_Rec (l : List Rec) : decL 2 decRec (.sl 2 (l.map encRec)) = some l := decL_map decRec_enc l
theorem dM_Rec (l : List Rec) : decM decRec (l.map encRec) = some l := decM_map decRec_enc l
structure Table where
  file : File
  records : List Rec
deriving DecidableEq
def encTable (x : Table) : D := .agg [.s x.file.name, .s x.file.format.name, .sl 4 (x.file.format.fields.map encField), .sl 2 (x.file.keys.map encKField), .b x.file.unique, .sl 2 (x.records.map encRec)]
def zTable : Table := ⟨zFile, []⟩
theorem etaTable (x : Table) : (⟨x.file, x.records⟩ : Table) = x := rfl
def decTable : D → Option Table
  | .agg [.s a0, .s a1, a2, a3, .b a4, a5] => match (decL 4 decField) a2, (decL 2 decKField) a3, (decL 2 decRec) a5 with
    | some b2, some b3, some b5 => some ⟨⟨a0, ⟨a1, b2⟩, b3, a4⟩, b5⟩
    | _, _, _ => none
  | _ => none
theorem decTable_enc (x : Table) : decTable (encTable x) = some x := by
  simp [decTable, encTable, (decL_map decField_enc), (decL_map decKField_enc), (decL_map decRec_enc)]
theorem decTable_le {d : D} {x : Table} (h : decTable d = some x) : dle d (encTable x) := by
  unfold decTable at h
  split at h
  · split at h
    · rename_i h2 h3 h5
      cases h
      simp only [dle, dles, encTable, and_true, true_and]
      exact ⟨(decL_le decField_le) h2, (decL_le decKField_le) h3, (decL_le decRec_le) h5⟩
    · cases h
  · cases h
theorem zfTable : (⟨zFile, []⟩ : Table) = zTable := rfl
theorem dL_Table (l : List Table) : decL 6 decTable (.sl 6 (l.map encTable)) = some l := decL_map decTable_enc l
theorem dM_Table (l : List Table) : decM decTable (l.map encTable) = some l := decM_map decTable_enc l
structure Val where
  n : Int
  s : ByteArray
deriving DecidableEq
def encVal (x : Val) : D := .agg [.i .i64 x.n, .s x.s]
def zVal : Val := ⟨0, ⟨#[]⟩⟩
theorem etaVal (x : Val) : (⟨x.n, x.s⟩ : Val) = x := rfl
def decVal : D → Option Val
  | .agg [.i .i64 a0, .s a1] => some ⟨a0, a1⟩
  | _ => none
theorem decVal_le {d : D} {x : Val} (h : decVal d = some x) : dle d (encVal x) := by
  unfold decVal at h
  split at h
  · cases h; exact dle_refl _
  · cases h
theorem zfVal : (⟨0, ⟨#[]⟩⟩ : Val) = zVal := rfl
end Go.Ev

namespace Go.Ev
theorem getDz_int (l : List Int) (k : Nat) : (l.map (D.i .i64)).getD k (.i .i64 0) = .i .i64 (l.getD k 0) := by
  simp only [List.getD, List.getElem?_map]
  cases l[k]? <;> rfl
theorem getDz_u8 (l : List Int) (k : Nat) : (l.map (D.i .u8)).getD k (.i .u8 0) = .i .u8 (l.getD k 0) := by
  simp only [List.getD, List.getElem?_map]
  cases l[k]? <;> rfl
theorem dL_int (l : List Int) : decL 1 (decI .i64) (.sl 1 (l.map (D.i .i64))) = some l := decL_map (fun x => by simp [decI]) l
theorem dM_int (l : List Int) : decM (decI .i64) (l.map (D.i .i64)) = some l := decM_map (fun x => by simp [decI]) l
end Go.Ev

namespace Go.Ev
structure Ans where
  tables : List Table
  n : Int
  units : List Int
  err : Int
deriving DecidableEq
def encAns (x : Ans) : D := .agg [.sl 6 (x.tables.map encTable), .i .i64 x.n, .sl 1 (x.units.map (D.i .i64)), .i .i64 x.err]
def zAns : Ans := ⟨[], 0, [], 0⟩
theorem etaAns (x : Ans) : (⟨x.tables, x.n, x.units, x.err⟩ : Ans) = x := rfl
def decAns : D → Option Ans
  | .agg [a0, .i .i64 a1, a2, .i .i64 a3] => match (decL 6 decTable) a0, (decL 1 (decI .i64)) a2 with
    | some b0, some b2 => some ⟨b0, a1, b2, a3⟩
    | _, _ => none
  | _ => none
theorem decAns_enc (x : Ans) : decAns (encAns x) = some x := by
  simp [decAns, encAns, (decL_map decTable_enc), (decL_map (decI_enc _))]
theorem decAns_le {d : D} {x : Ans} (h : decAns d = some x) : dle d (encAns x) := by
  unfold decAns at h
  split at h
  · split at h
    · rename_i h0 h2
      cases h
      simp only [dle, dles, encAns, and_true, true_and]
      exact ⟨(decL_le decTable_le) h0, (decL_le decI_le) h2⟩
    · cases h
  · cases h
theorem zfAns : (⟨[], 0, [], 0⟩ : Ans) = zAns := rfl
theorem dL_Ans (l : List Ans) : decL 4 decAns (.sl 4 (l.map encAns)) = some l := decL_map decAns_enc l
theorem dM_Ans (l : List Ans) : decM decAns (l.map encAns) = some l := decM_map decAns_enc l
end Go.Ev

namespace Go.Ev
open Go.Proofs Ty
set_option maxRecDepth 10000
set_option maxHeartbeats 4000000
set_option linter.unusedSimpArgs false
set_option linter.unusedVariables false
theorem isK3 (n : Int) : isK Tryz.prog 3 (.i .i64 n) = true := by unfold isK; rw [Tryz.underlying3]; simp
theorem isK3s (us : List AUnit) : ∀ d ∈ us.map keyU, isK Tryz.prog 3 d = true := fun d hd => by
  obtain ⟨u, _, rfl⟩ := List.mem_map.1 hd
  exact isK3 _
theorem boolH {P Q : Prop} (h : P) (e : P = Q := by simp only [Bool.or_eq_true, Bool.and_eq_true, Bool.or_eq_false_iff, Bool.and_eq_false_iff, Bool.not_eq_true', Bool.not_eq_false', Bool.not_eq_true, Bool.not_eq_false, decide_eq_true_eq, decide_eq_false_iff_not, beq_iff_eq, bne_iff_ne, beq_eq_false_iff_ne, bne_eq_false_iff_eq, ne_eq, Int.not_lt, Int.not_le, D.b.injEq, D.i.injEq, D.s.injEq, D.agg.injEq, D.sl.injEq, true_and, and_true, List.cons.injEq, gt_iff_lt, ge_iff_le,  Bool.cond_true_left, Bool.cond_false_right, Bool.cond_true_right, Bool.cond_false_left, seq_iff, seq_dec, dec_f, dec_t, eqB_t, eqB_f]; exact rfl) : Q := e.mp h
theorem boolG {P Q : Prop} (q : Q) (e : P = Q := by simp only [Bool.or_eq_true, Bool.and_eq_true, Bool.or_eq_false_iff, Bool.and_eq_false_iff, Bool.not_eq_true', Bool.not_eq_false', Bool.not_eq_true, Bool.not_eq_false, decide_eq_true_eq, decide_eq_false_iff_not, beq_iff_eq, bne_iff_ne, beq_eq_false_iff_ne, bne_eq_false_iff_eq, ne_eq, Int.not_lt, Int.not_le, D.b.injEq, D.i.injEq, D.s.injEq, D.agg.injEq, D.sl.injEq, true_and, and_true, List.cons.injEq, gt_iff_lt, ge_iff_le,  Bool.cond_true_left, Bool.cond_false_right, Bool.cond_true_right, Bool.cond_false_left, seq_iff, seq_dec, dec_f, dec_t, eqB_t, eqB_f]; exact rfl) : P := e.mpr q
theorem siQ {P Q : Prop} (q : Q) (e : P = Q := by simp (maxSteps := 1000000) only [go_sem, ↓reduceIte, reduceCtorEq, Nat.reduceEqDiff, Nat.reduceLT, Nat.reduceLeDiff, Nat.reduceMul, Nat.reduceAdd, Nat.reduceSub, reduceDIte, Nat.reduceBEq, Nat.reduceBNe]; exact rfl) : P := e.mpr q
theorem subQ {P Q : Prop} (q : Q) (e : P = Q := by simp (maxSteps := 1000000) only [forall_eq, V.ptr.injEq, V.row.injEq, V.rp.injEq, V.mref.injEq, exists_eq_left', and_assoc, rhoV, rhoVs, rhoSl, rhoO, rhoHp, rhoDd, rho1, HS.obj?, forall_eq', slSub, hpSub, hpSub1, nfL, vs, vss, vds, vd1, os, aget, go_sem, ↓reduceIte, reduceCtorEq, Nat.reduceEqDiff, Nat.reduceLT, Nat.reduceLeDiff, Nat.reduceMul, Nat.reduceAdd, Nat.reduceSub, reduceDIte, Nat.reduceBEq, Nat.reduceBNe]; exact rfl) : P := e.mpr q
theorem inQ {P Q : Prop} (q : Q) (e : P = Q := by simp only [enterSl, enterHp, inO, inO2, inO1, inOs, List.append_nil, List.nil_append, Nat.mul_zero, List.cons_append, Nat.zero_add, Nat.reduceAdd, Nat.reduceMul, List.length_map, encChange, encEntry, encAUnit, encDType, encField, encFmt, encKField, encFile, encRec, encTable, encVal, encAns]; exact rfl) : P := e.mpr q
theorem follows : Tryz.prog.follows .mixedOrders = true := by kernel_rfl
noncomputable def e41 : List O → Option (Prop × O)
  | [.d (.i .i64 n), .d (.i .i64 least), .d (.i .i64 most)] => some (True, .d (.b (decide (least ≤ n) && decide (n ≤ most))))
  | _ => none
noncomputable def tab41 : FuncId → List O → Option (Prop × O) := addT (fun _ _ => none) 41 e41
noncomputable def e100 : List O → Option (Prop × O)
  | [.d (.i .i64 n), .d (.i .i64 least), .d (.i .i64 most)] => some (True, .d (.b (decide (least ≤ n) && decide (n ≤ most))))
  | _ => none
noncomputable def tab100 : FuncId → List O → Option (Prop × O) := addT tab41 100 e100
noncomputable def e76 : List O → Option (Prop × O)
  | [.d (.b b)] => some (True, .d (.i .i64 (if b = true then 1 else 0)))
  | _ => none
noncomputable def tab76 : FuncId → List O → Option (Prop × O) := addT tab100 76 e76
noncomputable def e81 : List O → Option (Prop × O)
  | [.d (.i .u8 c)] => some (True, .d (.b (decide (65 ≤ c) && decide (c ≤ 90))))
  | _ => none
noncomputable def tab81 : FuncId → List O → Option (Prop × O) := addT tab76 81 e81
noncomputable def e82 : List O → Option (Prop × O)
  | [.d (.i .u8 c)] => some (True, .d (.b (decide (48 ≤ c) && decide (c ≤ 57))))
  | _ => none
noncomputable def tab82 : FuncId → List O → Option (Prop × O) := addT tab81 82 e82
noncomputable def e51 : List O → Option (Prop × O)
  | [.d (.s s)] => some (True, .d (.b (isName s)))
  | _ => none
noncomputable def tab51 : FuncId → List O → Option (Prop × O) := addT tab82 51 e51
noncomputable def e101 : List O → Option (Prop × O)
  | [.d (.s s)] => some (True, .d (.b (isName s)))
  | _ => none
noncomputable def tab101 : FuncId → List O → Option (Prop × O) := addT tab51 101 e101
noncomputable def e128 : List O → Option (Prop × O)
  | [.d x_c] => match decChange x_c with
    | some c => some (True, .d (.i .i64 (changeErr c)))
    | _ => none
  | _ => none
noncomputable def tab128 : FuncId → List O → Option (Prop × O) := addT tab101 128 e128
noncomputable def e127 : List O → Option (Prop × O)
  | [.d x_e] => match decEntry x_e with
    | some e => some (True, .d (.i .i64 (formErr e)))
    | _ => none
  | _ => none
noncomputable def tab127 : FuncId → List O → Option (Prop × O) := addT tab128 127 e127
noncomputable def e102 : List O → Option (Prop × O)
  | [.d x_e] => match decEntry x_e with
    | some e => some (True, .d (.i .i64 (entryErr e)))
    | _ => none
  | _ => none
noncomputable def tab102 : FuncId → List O → Option (Prop × O) := addT tab127 102 e102
noncomputable def e79 : List O → Option (Prop × O)
  | [.d x_e] => match decEntry x_e with
    | some e => some (True, .d (.i .i64 (entryErr e)))
    | _ => none
  | _ => none
noncomputable def tab79 : FuncId → List O → Option (Prop × O) := addT tab102 79 e79
noncomputable def e33 : List O → Option (Prop × O)
  | [.d x_l] => match decL 8 decEntry x_l with
    | some l => some (True, .d (.b (few35 l)))
    | _ => none
  | _ => none
noncomputable def tab33 : FuncId → List O → Option (Prop × O) := addT tab79 33 e33
noncomputable def e86 : List O → Option (Prop × O)
  | [.d x_l, .d (.i .i64 unit)] => match decL 8 decEntry x_l with
    | some l => some (l.length ≤ 1000000, .d (.b (begins l unit)))
    | _ => none
  | _ => none
noncomputable def tab86 : FuncId → List O → Option (Prop × O) := addT tab33 86 e86
noncomputable def e87 : List O → Option (Prop × O)
  | [.d x_l, .d (.i .i64 unit)] => match decL 8 decEntry x_l with
    | some l => some (l.length ≤ 1000000, .d (.i .i64 (ends l unit)))
    | _ => none
  | _ => none
noncomputable def tab87 : FuncId → List O → Option (Prop × O) := addT tab86 87 e87
noncomputable def e57 : List O → Option (Prop × O)
  | [.d x_l, .d (.i .i64 unit)] => match decL 8 decEntry x_l with
    | some l => some (l.length ≤ 1000000, .d (.b (isOpen l unit)))
    | _ => none
  | _ => none
noncomputable def tab57 : FuncId → List O → Option (Prop × O) := addT tab87 57 e57
noncomputable def e103 : List O → Option (Prop × O)
  | [.d x_l, .d x_e] => match decL 8 decEntry x_l, decEntry x_e with
    | some l, some e => some (l.length ≤ 1000000, .d (.i .i64 (stateErr l e)))
    | _, _ => none
  | _ => none
noncomputable def tab103 : FuncId → List O → Option (Prop × O) := addT tab57 103 e103
noncomputable def e80 : List O → Option (Prop × O)
  | [.d x_l] => match decL 8 decEntry x_l with
    | some l => some (l.length ≤ 1000000, .tup [.d (.i .i64 (check l).1), .d (.i .i64 (check l).2)])
    | _ => none
  | _ => none
noncomputable def tab80 : FuncId → List O → Option (Prop × O) := addT tab103 80 e80
noncomputable def e50 : List O → Option (Prop × O)
  | [.d x_l] => match decL 8 decEntry x_l with
    | some l => some (l.length ≤ 1000000, .d (.i .i64 (check l).2))
    | _ => none
  | _ => none
noncomputable def tab50 : FuncId → List O → Option (Prop × O) := addT tab80 50 e50
noncomputable def e61 : List O → Option (Prop × O)
  | [.d x_l] => match decL 8 decEntry x_l with
    | some l => some (l.length ≤ 1000000, .tup [.d (.mp ((cycles l).map keyU) ((cycles l).map fun u => .cp (cellsU u))), .d (.i .i64 (check l).1), .d (.i .i64 (check l).2)])
    | _ => none
  | _ => none
noncomputable def tab61 : FuncId → List O → Option (Prop × O) := addT tab50 61 e61
noncomputable def e46 : List O → Option (Prop × O)
  | [.d x_l] => match decL 8 decEntry x_l with
    | some l => some (l.length ≤ 1000000, .tup [.d (.i .i64 (check l).1), .d (.i .i64 (check l).2)])
    | _ => none
  | _ => none
noncomputable def tab46 : FuncId → List O → Option (Prop × O) := addT tab61 46 e46
noncomputable def e12 : List O → Option (Prop × O)
  | [.d x_l] => match decL 8 decEntry x_l with
    | some l => some (l.length ≤ 1000000, .own 50 8 (l.map encEntry))
    | _ => none
  | _ => none
noncomputable def tab12 : FuncId → List O → Option (Prop × O) := addT tab46 12 e12
noncomputable def e28 : List O → Option (Prop × O)
  | [.d x_l] => match decL 8 decEntry x_l with
    | some l => some (l.length ≤ 1000000, .tup [.d (.sl 4 ((cycles l).map encAUnit)), .d (.i .i64 (check l).2)])
    | _ => none
  | _ => none
noncomputable def tab28 : FuncId → List O → Option (Prop × O) := addT tab12 28 e28
end Go.Ev

namespace Go.Ev
theorem img_err {l : List Entry} {file : ByteArray} {rrn : Int} (h : ¬(check l).2 = 0) : imagesC l file rrn = ([], (check l).2) := by rw [imagesC, if_pos h]
theorem img_name {l : List Entry} {file : ByteArray} {rrn : Int} (h : (check l).2 = 0) (h2 : isName file = false) : imagesC l file rrn = ([], 7) := by rw [imagesC, if_neg (fun e => e h), if_pos h2]
theorem img_rrn {l : List Entry} {file : ByteArray} {rrn : Int} (h : (check l).2 = 0) (h2 : isName file = true) (h3 : rrn < 1 ∨ 60 < rrn) : imagesC l file rrn = ([], 3) := by rw [imagesC, if_neg (fun e => e h), if_neg (by simp [h2]), if_pos h3]
theorem img_ok {l : List Entry} {file : ByteArray} {rrn : Int} (h : (check l).2 = 0) (h2 : isName file = true) (h3 : ¬(rrn < 1 ∨ 60 < rrn)) : imagesC l file rrn = (imgs file rrn l, 0) := by rw [imagesC, if_neg (fun e => e h), if_neg (by simp [h2]), if_neg h3]
theorem imgs_skip {l : List Entry} {file : ByteArray} {rrn : Int} {i : Nat} (h : i < l.length) (h1 : ¬((l.getD i zEntry).kind = 0 ∧ (l.getD i zEntry).change.file = file ∧ (l.getD i zEntry).change.rrn = rrn)) : imgs file rrn (l.take (i + 1)) = imgs file rrn (l.take i) := by
  rw [imgs_take h, imgStep, if_neg h1]
theorem imgs_first {l : List Entry} {file : ByteArray} {rrn : Int} {i : Nat} (h : i < l.length) (h1 : (l.getD i zEntry).kind = 0 ∧ (l.getD i zEntry).change.file = file ∧ (l.getD i zEntry).change.rrn = rrn) (h2 : (imgs file rrn (l.take i)).length = 0) : imgs file rrn (l.take (i + 1)) = imgs file rrn (l.take i) ++ [(l.getD i zEntry).change.before] ++ [(l.getD i zEntry).change.after] := by
  have := List.eq_nil_of_length_eq_zero h2
  rw [imgs_take h, imgStep, if_pos h1, this, if_pos rfl]; rfl
theorem imgs_more {l : List Entry} {file : ByteArray} {rrn : Int} {i : Nat} (h : i < l.length) (h1 : (l.getD i zEntry).kind = 0 ∧ (l.getD i zEntry).change.file = file ∧ (l.getD i zEntry).change.rrn = rrn) (h2 : ¬(imgs file rrn (l.take i)).length = 0) : imgs file rrn (l.take (i + 1)) = imgs file rrn (l.take i) ++ [(l.getD i zEntry).change.after] := by
  rw [imgs_take h, imgStep, if_pos h1, if_neg (fun e => h2 (by rw [e]; rfl))]
theorem imgs_bound (l : List Entry) (file : ByteArray) (rrn : Int) (i : Nat) : (imgs file rrn (l.take i)).length ≤ l.length + 1 := by
  have h := (imgs_len file rrn (l.take i)).1
  have := List.length_take_le i l
  have : (l.take i).length ≤ l.length := by rw [List.length_take]; omega
  omega
theorem getDz_str (l : List ByteArray) (k : Nat) : (l.map D.s).getD k (.s ⟨#[]⟩) = .s (l.getD k ⟨#[]⟩) := by
  simp only [List.getD, List.getElem?_map]
  cases l[k]? <;> rfl
theorem decS_enc' (x : ByteArray) : decS (D.s x) = some x := rfl
theorem dL_str (l : List ByteArray) : decL 1 decS (.sl 1 (l.map D.s)) = some l := decL_map decS_enc' l
theorem dM_str (l : List ByteArray) : decM decS (l.map D.s) = some l := decM_map decS_enc' l
theorem aw35_check : check [⟨1, 1, 1, zChange⟩, ⟨2, 0, 1, ⟨⟨#[70]⟩, 1, 1, ⟨#[65]⟩, ⟨#[66]⟩⟩⟩, ⟨3, 2, 1, zChange⟩] = (0, 0) := by decide +kernel
theorem aw35_cycles : cycles [⟨1, 1, 1, zChange⟩, ⟨2, 0, 1, ⟨⟨#[70]⟩, 1, 1, ⟨#[65]⟩, ⟨#[66]⟩⟩⟩, ⟨3, 2, 1, zChange⟩] = [⟨1, 1, 3, 0⟩] := by decide +kernel
theorem aw35_images : imagesC [⟨1, 1, 1, zChange⟩, ⟨2, 0, 1, ⟨⟨#[70]⟩, 1, 1, ⟨#[65]⟩, ⟨#[66]⟩⟩⟩, ⟨3, 2, 1, zChange⟩] ⟨#[70]⟩ 1 = ([⟨#[65]⟩, ⟨#[66]⟩], 0) := by decide +kernel
end Go.Ev
namespace Go.Ev
theorem name_ok {f : ByteArray} (h : (if isName f = false then (7 : Int) else 0) = 0) : isName f = true := by
  split at h
  · cases h
  · simpa using ‹¬isName f = false›
theorem name_no {f : ByteArray} (h : ¬(if isName f = false then (7 : Int) else 0) = 0) : isName f = false := by
  split at h
  · assumption
  · exact absurd rfl h
theorem emp_t {α β : Type} {f : α → β} {l : List α} (h : (l.map f).isEmpty = true) : l.length = 0 := by
  rw [List.isEmpty_iff] at h
  have := congrArg List.length h
  simpa using this
theorem emp_f {α β : Type} {f : α → β} {l : List α} (h : (l.map f).isEmpty = false) : ¬l.length = 0 := by
  intro e
  have := List.eq_nil_of_length_eq_zero e
  subst this
  cases h
end Go.Ev

namespace Go.Ev
open Go.Proofs Ty
set_option maxRecDepth 10000
set_option maxHeartbeats 4000000
set_option linter.unusedSimpArgs false
set_option linter.unusedVariables false
noncomputable def e30 : List O → Option (Prop × O)
  | [.d x_a, .d x_b] => match decL 4 decAUnit x_a, decL 4 decAUnit x_b with
    | some a, some b => some (a.length ≤ 1000000, .d (.b (decide (a = b))))
    | _, _ => none
  | _ => none
noncomputable def tab30 : FuncId → List O → Option (Prop × O) := addT tab28 30 e30
noncomputable def e31 : List O → Option (Prop × O)
  | [.d x_a, .d x_b] => match decL 1 decS x_a, decL 1 decS x_b with
    | some a, some b => some (a.length ≤ 1000000, .d (.b (decide (a = b))))
    | _, _ => none
  | _ => none
noncomputable def tab31 : FuncId → List O → Option (Prop × O) := addT tab30 31 e31
noncomputable def e47 : List O → Option (Prop × O)
  | [.d (.s file)] => some (True, .d (.i .i64 (if isName file = false then 7 else 0)))
  | _ => none
noncomputable def tab47 : FuncId → List O → Option (Prop × O) := addT tab31 47 e47
noncomputable def e29 : List O → Option (Prop × O)
  | [.d x_l, .d (.s file), .d (.i .i64 rrn)] => match decL 8 decEntry x_l with
    | some l => some (l.length ≤ 1000000, .tup [.d (.sl 1 ((imagesC l file rrn).1.map D.s)), .d (.i .i64 (imagesC l file rrn).2)])
    | _ => none
  | _ => none
noncomputable def tab29 : FuncId → List O → Option (Prop × O) := addT tab47 29 e29
noncomputable def e8 : List O → Option (Prop × O)
  | [] => some (True, .d (.b true))
  | _ => none
noncomputable def tab8 : FuncId → List O → Option (Prop × O) := addT tab29 8 e8
end Go.Ev

namespace Go.Ev
def firstE : List Int → Int
  | [] => 0
  | e :: r => if e ≠ 0 then e else firstE r
theorem firstE_yes {l : List Int} {i : Nat} (h : firstE (l.drop i) = firstE l) (hi : i < l.length) (h1 : ¬l.getD i 0 = 0) : firstE l = l.getD i 0 := by
  rw [← h, drop_getD 0 hi, firstE, if_pos h1]
theorem firstE_no {l : List Int} {i : Nat} (h : firstE (l.drop i) = firstE l) (hi : i < l.length) (h1 : l.getD i 0 = 0) : firstE (l.drop (i + 1)) = firstE l := by
  rw [drop_getD 0 hi, firstE, if_neg (fun e => e h1)] at h; exact h
theorem firstE_end {l : List Int} {i : Nat} (h : firstE (l.drop i) = firstE l) (hi : l.length ≤ i) : firstE l = 0 := by
  rw [← h, List.drop_of_length_le hi]; rfl
def typeErr (t : DType) : Int :=
  if t.kind = 0 then (if ¬(1 ≤ t.length ∧ t.length ≤ 256) then 18 else if t.scale ≠ 0 then 3 else 0)
  else if t.kind = 1 ∨ t.kind = 2 then (if ¬(1 ≤ t.length ∧ t.length ≤ 15) then 18 else if ¬(0 ≤ t.scale ∧ t.scale ≤ t.length) then 3 else 0)
  else if t.kind = 3 then (if ¬(t.length = 4 ∨ t.length = 9) then 18 else if ¬(0 ≤ t.scale ∧ t.scale ≤ t.length) then 3 else 0)
  else if t.kind = 4 then (if t.length ≠ 0 then 18 else if t.scale ≠ 0 then 3 else 0)
  else 4
def sizeN (t : DType) : Int := if t.kind = 1 then t.length / 2 + 1 else if t.kind = 3 then 2 + t.length / 9 * 2 else if t.kind = 4 then 16 else t.length
theorem typeErr_ok {t : DType} (h : typeErr t = 0) : 0 ≤ t.kind ∧ t.kind ≤ 4 ∧ 0 ≤ t.length ∧ t.length ≤ 256 ∧ (t.kind ≠ 0 → t.length ≤ 15) ∧ (t.kind ≠ 4 → 1 ≤ t.length) ∧ (t.kind = 3 → t.length = 4 ∨ t.length = 9) := by
  unfold typeErr at h
  split at h
  · split at h
    · cases h
    · omega
  split at h
  · split at h
    · cases h
    · omega
  split at h
  · split at h
    · cases h
    · omega
  split at h
  · split at h
    · cases h
    · omega
  · cases h
theorem sizeN_ok {t : DType} (h : typeErr t = 0) : 1 ≤ sizeN t ∧ sizeN t ≤ 256 := by
  have := typeErr_ok h
  unfold sizeN
  split
  · omega
  split
  · omega
  split
  · omega
  · omega
def p10 (n : Int) : Int := 10 ^ (min n 18).toNat
theorem p10_le (n : Int) : 1 ≤ p10 n ∧ p10 n ≤ 1000000000000000000 := by
  unfold p10
  have h : (min n 18).toNat ≤ 18 := by omega
  generalize (min n 18).toNat = k at h
  have h1 : (1 : Int) ≤ 10 ^ k := by
    have : 0 < (10 : Int) ^ k := Int.pow_pos (by decide)
    omega
  have h2 : (10 : Int) ^ k ≤ 10 ^ 18 := by
    have : (10 : Nat) ^ k ≤ 10 ^ 18 := Nat.pow_le_pow_right (by decide) h
    exact_mod_cast this
  omega
theorem pow10_le {k : Nat} (h : k ≤ 18) : (1 : Int) ≤ 10 ^ k ∧ (10 : Int) ^ k ≤ 1000000000000000000 := by
  have := p10_le (k : Int)
  unfold p10 at this
  have e : (min (k : Int) 18).toNat = k := by omega
  rwa [e] at this
def valueErr (t : DType) (v : Val) : Int :=
  if typeErr t ≠ 0 then typeErr t else if t.kind = 4 then 17
  else if t.kind = 0 then (if v.n ≠ 0 then 5 else if (v.s.size : Int) ≠ t.length then 18 else 0)
  else if v.s ≠ ⟨#[]⟩ then 5 else if ¬(-(p10 t.length - 1) ≤ v.n ∧ v.n ≤ p10 t.length - 1) then 19 else 0
def binN (b : ByteArray) : Int := (b.data.toList.tail).foldl (fun n c => ior .i64 (IntKind.i64.wrap (n * 2 ^ 8)) (c.toNat : Int)) (IntKind.i8.wrap (chr b 0))
def hiB (c : Int) : Int := c.fdiv (2 ^ 4)
def loB (c : Int) : Int := iand .u8 c 15
def halvL (t : DType) (b : ByteArray) : Nat → List Int
  | 0 => []
  | i + 1 => halvL t b i ++ (if t.kind = 1 then [hiB (chr b i), loB (chr b i)] else [loB (chr b i)])
def halvA (t : DType) : Nat → List Int
  | 0 => []
  | i + 1 => halvA t i ++ (if t.kind = 1 then [(i : Int), (i : Int)] else [(i : Int)])
def halves (t : DType) (b : ByteArray) : List Int × List Int :=
  if t.kind = 2 then (halvL t b b.size ++ [hiB (chr b (b.size - 1))], halvA t b.size ++ [(b.size : Int) - 1]) else (halvL t b b.size, halvA t b.size)
theorem halvL_len (t : DType) (b : ByteArray) : ∀ i, (halvL t b i).length = if t.kind = 1 then 2 * i else i
  | 0 => by simp [halvL]
  | i + 1 => by
    unfold halvL
    rw [List.length_append, halvL_len t b i]
    split <;> simp <;> omega
theorem halvA_len (t : DType) : ∀ i, (halvA t i).length = if t.kind = 1 then 2 * i else i
  | 0 => by simp [halvA]
  | i + 1 => by
    unfold halvA
    rw [List.length_append, halvA_len t i]
    split <;> simp <;> omega
theorem halves_len (t : DType) (b : ByteArray) : (halves t b).1.length = (if t.kind = 1 then 2 * b.size else if t.kind = 2 then b.size + 1 else b.size) ∧ (halves t b).2.length = (halves t b).1.length := by
  unfold halves
  by_cases h2 : t.kind = 2
  · have h1 : ¬t.kind = 1 := by omega
    simp [halvL_len, halvA_len, h2]
  · by_cases h1 : t.kind = 1
    · simp [halvL_len, halvA_len, h1]
    · simp [halvL_len, halvA_len, h1, h2]
def decGo (len : Int) (l at_ : List Int) (last : Int) : List Int → Nat → Int → Int × Int × Int
  | [], _, n => if l.getD last.toNat 0 < 10 then (0, at_.getD last.toNat 0, 21) else (if l.getD last.toNat 0 = 11 ∨ l.getD last.toNat 0 = 13 then IntKind.i64.wrap (0 - n) else n, 0, 0)
  | d :: r, i, n => if 9 < d ∨ (0 < d ∧ (i : Int) < last - len) then (0, at_.getD i 0, 21) else decGo len l at_ last r (i + 1) (IntKind.i64.wrap (IntKind.i64.wrap (n * 10) + IntKind.i64.wrap d))
def decN (t : DType) (b : ByteArray) : Int × Int × Int :=
  decGo t.length (halves t b).1 (halves t b).2 ((halves t b).1.length - 1) ((halves t b).1.take ((halves t b).1.length - 1)) 0 0
def decodeV (t : DType) (b : ByteArray) : Val × Int × Int :=
  if typeErr t ≠ 0 then (zVal, 0, typeErr t) else if t.kind = 4 then (zVal, 0, 17) else if (b.size : Int) ≠ sizeN t then (zVal, 0, 18)
  else if t.kind = 0 then (⟨0, b⟩, 0, 0)
  else if t.kind = 3 then (if valueErr t ⟨binN b, ⟨#[]⟩⟩ ≠ 0 then (zVal, 0, valueErr t ⟨binN b, ⟨#[]⟩⟩) else (⟨binN b, ⟨#[]⟩⟩, 0, 0))
  else (⟨(decN t b).1, ⟨#[]⟩⟩, (decN t b).2.1, (decN t b).2.2)
def binTo (b : ByteArray) (i : Nat) : Int := ((b.data.toList.tail).take i).foldl (fun n c => ior .i64 (IntKind.i64.wrap (n * 2 ^ 8)) (c.toNat : Int)) (IntKind.i8.wrap (chr b 0))
theorem ext_size (b : ByteArray) : (b.extract 1 b.size).size = b.size - 1 := by rw [ByteArray.size_extract]; omega
theorem ext_chr (b : ByteArray) (i : Nat) (h : i < b.size - 1) : chr (b.extract 1 b.size) i = chr b (i + 1) := by
  unfold chr
  congr 2
  have : (b.extract 1 b.size).data = b.data.extract 1 b.size := by simp
  rw [this]
  simp only [List.getD_eq_getElem?_getD, Array.getElem?_toList]
  congr 1
  have hs : b.data.size = b.size := rfl
  rw [Array.getElem?_extract]
  rw [if_pos (by omega), Nat.add_comm]
theorem binTo_succ (b : ByteArray) (i : Nat) (h : i < b.size - 1) : binTo b (i + 1) = ior .i64 (IntKind.i64.wrap (binTo b i * 2 ^ 8)) (chr b (i + 1)) := by
  unfold binTo
  have hs : b.data.toList.tail.length = b.size - 1 := by rw [List.length_tail, Array.length_toList]; rfl
  rw [take_getD 0 (by omega), List.foldl_append]
  simp only [List.foldl_cons, List.foldl_nil]
  congr 1
  unfold chr
  simp [List.getD, List.getElem?_tail]
theorem binTo_end (b : ByteArray) (i : Nat) (h : b.size - 1 ≤ i) : binTo b i = binN b := by
  unfold binTo binN
  have hs : b.data.toList.tail.length = b.size - 1 := by rw [List.length_tail, Array.length_toList]; rfl
  rw [List.take_of_length_le (by omega)]
theorem p10_end {n : Int} {i : Nat} (h1 : (i : Int) ≤ max 0 (min n 18)) (h2 : min n 18 ≤ (i : Int)) : p10 n = 10 ^ i := by
  unfold p10; congr 1; omega
theorem p10_step {i : Nat} (h : i < 18) : (10 : Int) ^ (i + 1) = IntKind.i64.wrap (10 ^ i * 10) := by
  have := pow10_le (k := i + 1) (by omega)
  rw [Int.pow_succ] at this ⊢
  rw [w64 (by omega) (by omega)]
theorem size_packed {n : Int} (h0 : 0 ≤ n) (h : n ≤ 256) : IntKind.i64.wrap (IntKind.i64.wrap (n.tdiv 2) + 1) = n / 2 + 1 := by
  rw [Int.tdiv_eq_ediv_of_nonneg h0, w64 (n := n / 2) (by omega) (by omega), w64 (by omega) (by omega)]
theorem size_binary {n : Int} (h0 : 0 ≤ n) (h : n ≤ 256) : IntKind.i64.wrap (2 + IntKind.i64.wrap (IntKind.i64.wrap (n.tdiv 9) * 2)) = 2 + n / 9 * 2 := by
  rw [Int.tdiv_eq_ediv_of_nonneg h0, w64 (n := n / 9) (by omega) (by omega), w64 (n := n / 9 * 2) (by omega) (by omega), w64 (by omega) (by omega)]
theorem halvL_p {t : DType} {b : ByteArray} {i : Nat} (h : t.kind = 1) : halvL t b (i + 1) = halvL t b i ++ [hiB (chr b i), loB (chr b i)] := by rw [halvL, if_pos h]
theorem halvL_z {t : DType} {b : ByteArray} {i : Nat} (h : ¬t.kind = 1) : halvL t b (i + 1) = halvL t b i ++ [loB (chr b i)] := by rw [halvL, if_neg h]
theorem halvA_p {t : DType} {i : Nat} (h : t.kind = 1) : halvA t (i + 1) = halvA t i ++ [(i : Int), (i : Int)] := by rw [halvA, if_pos h]
theorem halvA_z {t : DType} {i : Nat} (h : ¬t.kind = 1) : halvA t (i + 1) = halvA t i ++ [(i : Int)] := by rw [halvA, if_neg h]
theorem halves_2 {t : DType} {b : ByteArray} (h : t.kind = 2) : halves t b = (halvL t b b.size ++ [hiB (chr b (b.size - 1))], halvA t b.size ++ [(b.size : Int) - 1]) := by rw [halves, if_pos h]
theorem halves_n {t : DType} {b : ByteArray} (h : ¬t.kind = 2) : halves t b = (halvL t b b.size, halvA t b.size) := by rw [halves, if_neg h]
end Go.Ev
namespace Go.Ev
theorem wrap_i8 (n : Int) : -128 ≤ IntKind.i8.wrap n ∧ IntKind.i8.wrap n ≤ 127 := by
  unfold IntKind.wrap
  simp only [IntKind.bits, IntKind.signed, Bool.true_and]
  split <;> rename_i h <;> simp only [decide_eq_true_eq, ge_iff_le] at h <;> omega
end Go.Ev
namespace Go.Ev
section
variable {len last n : Int} {l a r : List Int} {i : Nat} {c : Int × Int × Int}
theorem decGo_bad (h : decGo len l a last (r.drop i) i n = c) (hi : i < r.length) (h1 : 9 < r.getD i 0 ∨ (0 < r.getD i 0 ∧ (i : Int) < last - len)) : c = (0, a.getD i 0, 21) := by
  rw [← h, drop_getD 0 hi, decGo, if_pos h1]
theorem decGo_next (h : decGo len l a last (r.drop i) i n = c) (hi : i < r.length) (h1 : ¬(9 < r.getD i 0 ∨ (0 < r.getD i 0 ∧ (i : Int) < last - len))) : decGo len l a last (r.drop (i + 1)) (i + 1) (IntKind.i64.wrap (IntKind.i64.wrap (n * 10) + IntKind.i64.wrap (r.getD i 0))) = c := by
  rw [drop_getD 0 hi, decGo, if_neg h1] at h; exact h
theorem decGo_end1 (h : decGo len l a last (r.drop i) i n = c) (hi : r.length ≤ i) (h1 : l.getD last.toNat 0 < 10) : c = (0, a.getD last.toNat 0, 21) := by
  rw [← h, List.drop_of_length_le hi, decGo, if_pos h1]
theorem decGo_end2 (h : decGo len l a last (r.drop i) i n = c) (hi : r.length ≤ i) (h1 : ¬l.getD last.toNat 0 < 10) (h2 : l.getD last.toNat 0 = 11 ∨ l.getD last.toNat 0 = 13) : c = (IntKind.i64.wrap (0 - n), 0, 0) := by
  rw [← h, List.drop_of_length_le hi, decGo, if_neg h1, if_pos h2]
theorem decGo_end3 (h : decGo len l a last (r.drop i) i n = c) (hi : r.length ≤ i) (h1 : ¬l.getD last.toNat 0 < 10) (h2 : ¬(l.getD last.toNat 0 = 11 ∨ l.getD last.toNat 0 = 13)) : c = (n, 0, 0) := by
  rw [← h, List.drop_of_length_le hi, decGo, if_neg h1, if_neg h2]
end
end Go.Ev

namespace Go.Ev
open Go.Proofs Ty
set_option maxRecDepth 10000
set_option maxHeartbeats 4000000
set_option linter.unusedSimpArgs false
set_option linter.unusedVariables false
noncomputable def e185 : List O → Option (Prop × O)
  | [.d (.i .i64 n), .d (.i .i64 lo), .d (.i .i64 hi)] => some (True, .d (.b (decide (lo ≤ n) && decide (n ≤ hi))))
  | _ => none
noncomputable def tab185 : FuncId → List O → Option (Prop × O) := addT tab8 185 e185
noncomputable def e187 : List O → Option (Prop × O)
  | [.d (.b b), .d (.i .i64 e)] => some (True, .d (.i .i64 (if b = true then e else 0)))
  | _ => none
noncomputable def tab187 : FuncId → List O → Option (Prop × O) := addT tab185 187 e187
noncomputable def e186 : List O → Option (Prop × O)
  | [.d x_l] => match decL 1 (decI .i64) x_l with
    | some l => some (l.length ≤ 1000000, .d (.i .i64 (firstE l)))
    | _ => none
  | _ => none
noncomputable def tab186 : FuncId → List O → Option (Prop × O) := addT tab187 186 e186
noncomputable def e119 : List O → Option (Prop × O)
  | [.d (.b b), .d (.i .i64 e)] => some (True, .d (.i .i64 (if b = true then e else 0)))
  | _ => none
noncomputable def tab119 : FuncId → List O → Option (Prop × O) := addT tab186 119 e119
noncomputable def e117 : List O → Option (Prop × O)
  | [.d x_l] => match decL 1 (decI .i64) x_l with
    | some l => some (l.length ≤ 1000000, .d (.i .i64 (firstE l)))
    | _ => none
  | _ => none
noncomputable def tab117 : FuncId → List O → Option (Prop × O) := addT tab119 117 e117
noncomputable def e152 : List O → Option (Prop × O)
  | [.d (.s s)] => some (True, .d (.b (isName s)))
  | _ => none
noncomputable def tab152 : FuncId → List O → Option (Prop × O) := addT tab117 152 e152
noncomputable def e172 : List O → Option (Prop × O)
  | [.d x_t] => match decDType x_t with
    | some t => some (True, .d (.i .i64 (typeErr t)))
    | _ => none
  | _ => none
noncomputable def tab172 : FuncId → List O → Option (Prop × O) := addT tab152 172 e172
noncomputable def e188 : List O → Option (Prop × O)
  | [.d x_t] => match decDType x_t with
    | some t => some (typeErr t = 0, .d (.i .i64 (sizeN t)))
    | _ => none
  | _ => none
noncomputable def tab188 : FuncId → List O → Option (Prop × O) := addT tab172 188 e188
noncomputable def e173 : List O → Option (Prop × O)
  | [.d x_t] => match decDType x_t with
    | some t => some (True, .tup [.d (.i .i64 (if typeErr t = 0 then sizeN t else 0)), .d (.i .i64 (typeErr t))])
    | _ => none
  | _ => none
noncomputable def tab173 : FuncId → List O → Option (Prop × O) := addT tab188 173 e173
noncomputable def e197 : List O → Option (Prop × O)
  | [.d (.i .i64 n)] => some (True, .d (.i .i64 (p10 n)))
  | _ => none
noncomputable def tab197 : FuncId → List O → Option (Prop × O) := addT tab173 197 e197
noncomputable def e190 : List O → Option (Prop × O)
  | [.d x_t, .d x_v] => match decDType x_t, decVal x_v with
    | some t, some v => some (True, .d (.i .i64 (valueErr t v)))
    | _, _ => none
  | _ => none
noncomputable def tab190 : FuncId → List O → Option (Prop × O) := addT tab197 190 e190
noncomputable def e189 : List O → Option (Prop × O)
  | [.d (.s b)] => some (0 < b.size ∧ b.size ≤ 1000, .d (.i .i64 (binN b)))
  | _ => none
noncomputable def tab189 : FuncId → List O → Option (Prop × O) := addT tab190 189 e189
noncomputable def e198 : List O → Option (Prop × O)
  | [.d x_t, .d (.s b)] => match decDType x_t with
    | some t => some (0 < b.size ∧ b.size ≤ 1000, .tup [.d (.sl 1 ((halves t b).1.map (D.i .u8))), .d (.sl 1 ((halves t b).2.map (D.i .i64)))])
    | _ => none
  | _ => none
noncomputable def tab198 : FuncId → List O → Option (Prop × O) := addT tab189 198 e198
noncomputable def e191 : List O → Option (Prop × O)
  | [.d x_t, .d (.s b)] => match decDType x_t with
    | some t => some (0 < b.size ∧ b.size ≤ 1000 ∧ 0 ≤ t.length ∧ t.length ≤ 1000, .tup [.d (.i .i64 (decN t b).1), .d (.i .i64 (decN t b).2.1), .d (.i .i64 (decN t b).2.2)])
    | _ => none
  | _ => none
noncomputable def tab191 : FuncId → List O → Option (Prop × O) := addT tab198 191 e191
noncomputable def e174 : List O → Option (Prop × O)
  | [.d x_t, .d (.s b)] => match decDType x_t with
    | some t => some (True, .tup [.d (encVal (decodeV t b).1), .d (.i .i64 (decodeV t b).2.1), .d (.i .i64 (decodeV t b).2.2)])
    | _ => none
  | _ => none
noncomputable def tab174 : FuncId → List O → Option (Prop × O) := addT tab191 174 e174
end Go.Ev

namespace Go.Ev
def firstBad (g : Nat → Int) (n : Nat) : Option Nat := (List.range n).find? fun i => decide (g i ≠ 0)
theorem firstBad_some {g : Nat → Int} {n i : Nat} (h : ∀ j, j < i → g j = 0) (hi : i < n) (hg : ¬g i = 0) : firstBad g n = some i := by
  unfold firstBad
  rw [List.find?_eq_some_iff_getElem]
  refine ⟨by simpa using hg, i, by simpa using hi, by simp, fun j hj => ?_⟩
  simp [h j hj]
theorem firstBad_none {g : Nat → Int} {n : Nat} (h : ∀ j, j < n → g j = 0) : firstBad g n = none := by
  unfold firstBad
  rw [List.find?_eq_none]
  intro j hj
  simp [h j (List.mem_range.1 hj)]
theorem all_step {g : Nat → Int} {i : Nat} (h : ∀ j, j < i → g j = 0) (hg : g i = 0) : ∀ j, j < i + 1 → g j = 0 := fun j hj => by
  by_cases e : j = i
  · subst e; exact hg
  · exact h j (by omega)
def widthF (x : Field) : Int := if typeErr x.type_ = 0 then sizeN x.type_ else 0
theorem widthF_ok (x : Field) : 0 ≤ widthF x ∧ widthF x ≤ 256 := by
  unfold widthF
  split
  · have := sizeN_ok (t := x.type_) (by assumption); omega
  · omega
def offTo (l : List Field) : Nat → Int
  | 0 => 0
  | i + 1 => offTo l i + widthF (l.getD i zField)
theorem offTo_ok (l : List Field) : ∀ i, 0 ≤ offTo l i ∧ offTo l i ≤ 256 * (i : Int)
  | 0 => by simp [offTo]
  | i + 1 => by
    have h1 := offTo_ok l i
    have h2 := widthF_ok (l.getD i zField)
    simp only [offTo]
    omega
def idxF (l : List Field) (name : ByteArray) : Option Nat := l.findIdx? fun x => decide (x.name = name)
def atF (l : List Field) (name : ByteArray) : Int × Int × Bool := match idxF l name with
  | some i => (i, offTo l i, true)
  | none => (0, 0, false)
theorem atF_yes {l : List Field} {name : ByteArray} {i : Nat} (h : idxF (l.take i) name = none) (hi : i < l.length) (e : (l.getD i zField).name = name) : atF l name = ((i : Int), offTo l i, true) := by
  unfold atF
  have : idxF l name = some i := by
    unfold idxF at h ⊢
    rw [← List.take_append_drop i l, List.findIdx?_append, h, drop_getD zField hi, List.findIdx?_cons]
    have hl : (l.take i).length = i := by rw [List.length_take]; omega
    have e' : decide ((l.getD i zField).name = name) = true := by simpa using e
    rw [e', hl, if_pos rfl]
    simp
  rw [this]
theorem idxF_step {l : List Field} {name : ByteArray} {i : Nat} (h : idxF (l.take i) name = none) (hi : i < l.length) (e : ¬(l.getD i zField).name = name) : idxF (l.take (i + 1)) name = none := by
  unfold idxF at h ⊢
  rw [take_getD zField hi, List.findIdx?_append, h]
  simp [List.findIdx?_cons, e] at e ⊢
  exact e
theorem atF_no {l : List Field} {name : ByteArray} {i : Nat} (h : idxF (l.take i) name = none) (hi : l.length ≤ i) : atF l name = (0, 0, false) := by
  rw [List.take_of_length_le hi] at h
  unfold atF; rw [h]
def fieldE (l : List Field) (i : Nat) : Int :=
  if isName (l.getD i zField).name = false then 7 else if (atF (l.take i) (l.getD i zField).name).2.2 = true then 13
  else if typeErr (l.getD i zField).type_ ≠ 0 then typeErr (l.getD i zField).type_ else if (l.getD i zField).type_.kind = 4 then 17 else 0
def fmtErr (f : Fmt) : Int × Int :=
  if isName f.name = false then (0, 7) else if f.fields.length = 0 then (0, 1) else if 20 < f.fields.length then (0, 2)
  else match firstBad (fieldE f.fields) f.fields.length with
    | some i => (i, fieldE f.fields i)
    | none => (0, if 200 < offTo f.fields f.fields.length then 18 else 0)
theorem fmt_bad {f : Fmt} {i : Nat} (h0 : isName f.name = true ∧ 1 ≤ f.fields.length ∧ f.fields.length ≤ 20) (h : ∀ j, j < i → fieldE f.fields j = 0) (hi : i < f.fields.length) (hg : ¬fieldE f.fields i = 0) : fmtErr f = ((i : Int), fieldE f.fields i) := by
  unfold fmtErr
  rw [if_neg (by simp [h0.1]), if_neg (by omega), if_neg (by omega), firstBad_some h hi hg]
theorem fmt_end {f : Fmt} {i : Nat} (h0 : isName f.name = true ∧ 1 ≤ f.fields.length ∧ f.fields.length ≤ 20) (h : ∀ j, j < i → fieldE f.fields j = 0) (hi : f.fields.length ≤ i) : fmtErr f = (0, if 200 < offTo f.fields f.fields.length then 18 else 0) := by
  unfold fmtErr
  rw [if_neg (by simp [h0.1]), if_neg (by omega), if_neg (by omega), firstBad_none fun j hj => h j (by omega)]
theorem fmt_ok {f : Fmt} (h : (fmtErr f).2 = 0) : isName f.name = true ∧ 1 ≤ f.fields.length ∧ f.fields.length ≤ 20 ∧ (∀ j, j < f.fields.length → fieldE f.fields j = 0) ∧ offTo f.fields f.fields.length ≤ 200 ∧ (fmtErr f).1 = 0 := by
  have hd := h
  unfold fmtErr at h
  split at h
  · cases h
  split at h
  · cases h
  split at h
  · cases h
  rename_i h1 h2 h3
  split at h
  · rename_i i hi
    unfold firstBad at hi
    have := List.find?_some hi
    simp at this
    exact absurd h this
  · rename_i hn
    split at h
    · cases h
    · rename_i h4
      unfold firstBad at hn
      rw [List.find?_eq_none] at hn
      refine ⟨by simpa using h1, by omega, by omega, fun j hj => ?_, by omega, ?_⟩
      · have := hn j (List.mem_range.2 hj)
        simpa using this
      · unfold fmtErr
        rw [if_neg h1, if_neg h2, if_neg h3, firstBad_none fun j hj => by have := hn j (List.mem_range.2 hj); simpa using this]
theorem fieldE_ok {l : List Field} {i : Nat} (h : fieldE l i = 0) : typeErr (l.getD i zField).type_ = 0 ∧ (l.getD i zField).type_.kind ≠ 4 := by
  unfold fieldE at h
  split at h
  · cases h
  split at h
  · cases h
  split at h
  · rename_i h3; exact absurd h h3
  split at h
  · cases h
  · rename_i h3 h4; exact ⟨by omega, h4⟩
def fmtHead (f : Fmt) : Int := if isName f.name = false then 7 else if f.fields.length = 0 then 1 else if 20 < f.fields.length then 2 else 0
theorem head_eq (f : Fmt) : firstE [if isName f.name = false then 7 else 0, if (f.fields.length : Int) = 0 then 1 else 0, if 20 < (f.fields.length : Int) then 2 else 0] = fmtHead f := by
  simp only [firstE, fmtHead]
  (repeat' split) <;> first | rfl | omega | (exfalso; omega) | simp_all
theorem fmt_head {f : Fmt} (h : ¬fmtHead f = 0) : fmtErr f = (0, fmtHead f) := by
  unfold fmtHead at h ⊢
  unfold fmtErr
  split
  · rfl
  split
  · rfl
  split
  · rfl
  · simp_all
theorem head_ok {f : Fmt} (h : fmtHead f = 0) : isName f.name = true ∧ 1 ≤ f.fields.length ∧ f.fields.length ≤ 20 := by
  unfold fmtHead at h
  split at h
  · cases h
  split at h
  · cases h
  split at h
  · cases h
  · exact ⟨by simpa using ‹¬isName f.name = false›, by omega, by omega⟩
theorem fld_eq (l : List Field) (i : Nat) : firstE [if isName (l.getD i zField).name = false then 7 else 0, if (atF (l.take i) (l.getD i zField).name).2.2 = true then 13 else 0, typeErr (l.getD i zField).type_, if (l.getD i zField).type_.kind = 4 then 17 else 0] = fieldE l i := by
  simp only [firstE, fieldE]
  (repeat' split) <;> first | rfl | omega | (exfalso; omega) | simp_all
def fileHead (f : File) : Int := if isName f.name = false then 7 else if (fmtErr f.format).2 ≠ 0 then (fmtErr f.format).2 else if 4 < f.keys.length then 2 else 0
theorem fhead_eq (f : File) : firstE [if isName f.name = false then 7 else 0, (fmtErr f.format).2, if 4 < (f.keys.length : Int) then 2 else 0] = fileHead f := by
  simp only [firstE, fileHead]
  (repeat' split) <;> first | rfl | omega | (exfalso; omega) | simp_all
def keyE (f : File) (i : Nat) : Int :=
  if (atF f.format.fields (f.keys.getD i zKField).name).2.2 = false then 11 else if (f.keys.take i).any (fun k => decide (k.name = (f.keys.getD i zKField).name)) = true then 13 else 0
def fileErr (f : File) : Int × Int :=
  if isName f.name = false then (0, 7) else if (fmtErr f.format).2 ≠ 0 then (0, (fmtErr f.format).2) else if 4 < f.keys.length then (0, 2)
  else match firstBad (keyE f) f.keys.length with
    | some i => (i, keyE f i)
    | none => (0, 0)
theorem file_bad {f : File} {i : Nat} (h0 : isName f.name = true ∧ (fmtErr f.format).2 = 0 ∧ f.keys.length ≤ 4) (h : ∀ j, j < i → keyE f j = 0) (hi : i < f.keys.length) (hg : ¬keyE f i = 0) : fileErr f = ((i : Int), keyE f i) := by
  unfold fileErr
  rw [if_neg (by simp [h0.1]), if_neg (fun e => e h0.2.1), if_neg (by omega), firstBad_some h hi hg]
theorem file_end {f : File} {i : Nat} (h0 : isName f.name = true ∧ (fmtErr f.format).2 = 0 ∧ f.keys.length ≤ 4) (h : ∀ j, j < i → keyE f j = 0) (hi : f.keys.length ≤ i) : fileErr f = (0, 0) := by
  unfold fileErr
  rw [if_neg (by simp [h0.1]), if_neg (fun e => e h0.2.1), if_neg (by omega), firstBad_none fun j hj => h j (by omega)]
def partB (f : Fmt) (b : ByteArray) (i : Nat) : ByteArray := b.extract (offTo f.fields i).toNat (offTo f.fields (i + 1)).toNat
def partV (f : Fmt) (b : ByteArray) (i : Nat) : Val × Int × Int := decodeV (f.fields.getD i zField).type_ (partB f b i)
def partE (f : Fmt) (b : ByteArray) (i : Nat) : Int := (partV f b i).2.2
def valsTo (f : Fmt) (b : ByteArray) : Nat → List Val
  | 0 => []
  | i + 1 => valsTo f b i ++ [(partV f b i).1]
theorem valsTo_len (f : Fmt) (b : ByteArray) : ∀ i, (valsTo f b i).length = i
  | 0 => rfl
  | i + 1 => by simp [valsTo, valsTo_len f b i]
def decodedC (f : Fmt) (b : ByteArray) : List Val × Int × Int := match firstBad (partE f b) f.fields.length with
  | some i => ([], i, partE f b i)
  | none => (valsTo f b f.fields.length, 0, 0)
theorem dec_bad {f : Fmt} {b : ByteArray} {i : Nat} (h : ∀ j, j < i → partE f b j = 0) (hi : i < f.fields.length) (hg : ¬partE f b i = 0) : decodedC f b = ([], (i : Int), partE f b i) := by
  unfold decodedC
  rw [firstBad_some h hi hg]
theorem dec_end {f : Fmt} {b : ByteArray} {i : Nat} (h : ∀ j, j < i → partE f b j = 0) (hi : f.fields.length ≤ i) : decodedC f b = (valsTo f b f.fields.length, 0, 0) := by
  unfold decodedC
  rw [firstBad_none fun j hj => h j (by omega)]
def sizeF (f : Fmt) : Int := offTo f.fields f.fields.length
def valuesC (f : Fmt) (b : ByteArray) : List Val × Int × Int :=
  if (fmtErr f).2 ≠ 0 then ([], 0, (fmtErr f).2) else if (b.size : Int) ≠ sizeF f then ([], 0, 18) else decodedC f b
def recE (t : Table) (i : Nat) : Int :=
  if (t.records.getD i zRec).deleted = true then (if (t.records.getD i zRec).bytes ≠ ⟨#[]⟩ then 5 else 0) else (valuesC t.file.format (t.records.getD i zRec).bytes).2.2
def tableErr (t : Table) : Int × Int :=
  if (fileErr t.file).2 ≠ 0 then (0, (fileErr t.file).2) else if 60 < t.records.length then (0, 2)
  else match firstBad (recE t) t.records.length with
    | some i => (i, recE t i)
    | none => (0, 0)
theorem table_bad {t : Table} {i : Nat} (h0 : (fileErr t.file).2 = 0 ∧ t.records.length ≤ 60) (h : ∀ j, j < i → recE t j = 0) (hi : i < t.records.length) (hg : ¬recE t i = 0) : tableErr t = ((i : Int), recE t i) := by
  unfold tableErr
  rw [if_neg (fun e => e h0.1), if_neg (by omega), firstBad_some h hi hg]
theorem table_end {t : Table} {i : Nat} (h0 : (fileErr t.file).2 = 0 ∧ t.records.length ≤ 60) (h : ∀ j, j < i → recE t j = 0) (hi : t.records.length ≤ i) : tableErr t = (0, 0) := by
  unfold tableErr
  rw [if_neg (fun e => e h0.1), if_neg (by omega), firstBad_none fun j hj => h j (by omega)]
theorem file_head {f : File} (h : ¬fileHead f = 0) : fileErr f = (0, fileHead f) := by
  unfold fileHead at h ⊢
  unfold fileErr
  split
  · rfl
  split
  · rfl
  split
  · rfl
  · simp_all
theorem fhead_ok {f : File} (h : fileHead f = 0) : isName f.name = true ∧ (fmtErr f.format).2 = 0 ∧ f.keys.length ≤ 4 := by
  unfold fileHead at h
  split at h
  · cases h
  split at h
  · rename_i h2; exact absurd h h2
  split at h
  · cases h
  · exact ⟨by simpa using ‹¬isName f.name = false›, by omega, by omega⟩
theorem key_eq (f : File) (i : Nat) : firstE [if (atF f.format.fields (f.keys.getD i zKField).name).2.2 = false then 11 else 0, if (f.keys.take i).any (fun k => decide (k.name = (f.keys.getD i zKField).name)) = true then 13 else 0] = keyE f i := by
  simp only [firstE, keyE]
  (repeat' split) <;> first | rfl | omega | (exfalso; omega) | simp_all
def tabHead (t : Table) : Int := if (fileErr t.file).2 ≠ 0 then (fileErr t.file).2 else if 60 < t.records.length then 2 else 0
theorem thead_eq (t : Table) : firstE [(fileErr t.file).2, if 60 < (t.records.length : Int) then 2 else 0] = tabHead t := by
  simp only [firstE, tabHead]
  (repeat' split) <;> first | rfl | omega | (exfalso; omega) | simp_all
theorem tab_head {t : Table} (h : ¬tabHead t = 0) : tableErr t = (0, tabHead t) := by
  unfold tabHead at h ⊢
  unfold tableErr
  split
  · rfl
  split
  · rfl
  · simp_all
theorem thead_ok {t : Table} (h : tabHead t = 0) : (fileErr t.file).2 = 0 ∧ t.records.length ≤ 60 := by
  unfold tabHead at h
  split at h
  · rename_i h2; exact absurd h h2
  split at h
  · cases h
  · exact ⟨by omega, by omega⟩
end Go.Ev
namespace Go.Ev
def keyD (k : KField) : D := .s k.name
def keyVs (l : List KField) : List V := (l.map fun _ => D.b true).map V.d
theorem keyIdx_any (l : List KField) (n : ByteArray) : (keyIdx (l.map keyD) (.s n)).isSome = l.any (fun k => decide (k.name = n)) := by
  induction l with
  | nil => rfl
  | cons k l ih =>
    have hk : kEq (keyD k) (.s n) = decide (k.name = n) := seq_dec _ _
    rw [List.map_cons, List.any_cons]
    unfold keyIdx
    by_cases e : k.name = n
    · rw [if_pos (by rw [hk]; simpa using e)]; simp [e]
    · have e' : decide (k.name = n) = false := by simpa using e
      rw [if_neg (by rw [hk, e']; simp), Option.isSome_map, e', Bool.false_or]
      exact ih
theorem keyIdx_lt : ∀ {l : List KField} {n : ByteArray} {i : Nat}, keyIdx (l.map keyD) (.s n) = some i → i < l.length
  | [], _, _, h => by cases h
  | k :: l, n, i, h => by
    simp only [List.map_cons, keyIdx] at h
    split at h
    · cases h; simp
    · rw [Option.map_eq_some_iff] at h
      obtain ⟨j, hj, rfl⟩ := h
      have := keyIdx_lt hj
      simp only [List.length_cons]; omega
theorem look_any (l : List KField) (n : ByteArray) : mget1 (.b false) (l.map keyD) (keyVs l) (.s n) = some (.b (l.any fun k => decide (k.name = n))) := by
  unfold mget1
  rw [← keyIdx_any]
  cases h : keyIdx (l.map keyD) (.s n) with
  | none => rfl
  | some i =>
    have hl := keyIdx_lt h
    have : (keyVs l).getD i (.d .np) = .d (.b true) := by
      unfold keyVs
      simp [List.getD, hl]
    simp only [this, Option.isSome_some]
theorem keyVs_snoc (l : List KField) (k : KField) : keyVs (l ++ [k]) = keyVs l ++ [V.d (.b true)] := by simp [keyVs]
theorem sh1_keys (l : List KField) : ∀ v ∈ keyVs l, sh1 (.b false) v = true := by
  intro v hv
  unfold keyVs at hv
  simp only [List.map_map, List.mem_map] at hv
  obtain ⟨_, _, rfl⟩ := hv
  rfl
theorem keyIdx_none {l : List KField} {n : ByteArray} (h : ¬l.any (fun k => decide (k.name = n)) = true) : keyIdx (l.map keyD) (.s n) = none := by
  rw [← keyIdx_any] at h
  cases hx : keyIdx (l.map keyD) (.s n) with
  | none => rfl
  | some i => rw [hx] at h; exact absurd rfl h
theorem keyE_ok {f : File} {i : Nat} (h : keyE f i = 0) : ¬(f.keys.take i).any (fun k => decide (k.name = (f.keys.getD i zKField).name)) = true := by
  intro hc
  unfold keyE at h
  rw [if_pos hc] at h
  split at h <;> cases h
theorem keys_snoc {f : File} {i : Nat} (hi : i < f.keys.length) (h : keyE f i = 0) : msetK ((f.keys.take i).map keyD) (.s (f.keys.getD i zKField).name) = (f.keys.take (i + 1)).map keyD := by
  unfold msetK
  rw [keyIdx_none (keyE_ok h), take_getD zKField hi, List.map_append]
  rfl
theorem keysV_snoc {f : File} {i : Nat} (hi : i < f.keys.length) (h : keyE f i = 0) : msetV ((f.keys.take i).map keyD) (keyVs (f.keys.take i)) (.s (f.keys.getD i zKField).name) (.d (.b true)) = keyVs (f.keys.take (i + 1)) := by
  unfold msetV
  rw [keyIdx_none (keyE_ok h), take_getD zKField hi, keyVs_snoc]
theorem keyVs_snoc2 {f : File} {i : Nat} (hi : i < f.keys.length) : keyVs (f.keys.take i) ++ [V.d (.b true)] = keyVs (f.keys.take (i + 1)) := by rw [take_getD zKField hi, keyVs_snoc]
theorem keyKs_snoc2 {f : File} {i : Nat} (hi : i < f.keys.length) : (f.keys.take i).map keyD ++ [.s (f.keys.getD i zKField).name] = (f.keys.take (i + 1)).map keyD := by rw [take_getD zKField hi, List.map_append]; rfl
end Go.Ev
namespace Go.Ev
theorem rhoVs_d : ∀ (l m : List D), rhoVs (l.map V.d) (m.map V.d) = []
  | [], m => by cases m <;> simp [rhoVs]
  | a :: l, [] => by simp [rhoVs]
  | a :: l, b :: m => by
    simp only [List.map_cons, rhoVs, rhoV, List.nil_append]
    exact rhoVs_d l m
theorem rhoVs_keys (l m : List KField) : rhoVs (keyVs l) (keyVs m) = [] := rhoVs_d _ _
theorem vss_keys {ρ : Nat → Option Nat} {nf : Nat → Prop} (l : List KField) : vss ρ nf (keyVs l) (keyVs l) = True := eq_true (by
  unfold keyVs
  generalize (l.map fun _ => D.b true) = m
  induction m with
  | nil => trivial
  | cons d m ih =>
    simp only [List.map_cons, vss, vs]
    exact ⟨dle_refl d, ih⟩)
theorem offTo_mono (l : List Field) (i : Nat) : ∀ j, i ≤ j → offTo l i ≤ offTo l j
  | 0, h => by rw [show i = 0 by omega]; exact Int.le_refl _
  | j + 1, h => by
    by_cases e : i = j + 1
    · rw [e]; exact Int.le_refl _
    · have := offTo_mono l i j (by omega)
      have := (widthF_ok (l.getD j zField)).1
      simp only [offTo]; omega
section
variable {f : Fmt} {b : ByteArray} {i : Nat}
theorem ext_all (b : ByteArray) : b.extract 0 b.size = b := by simp
theorem part_in (hs : (b.size : Int) = sizeF f) (hi : i < f.fields.length) : offTo f.fields i + widthF (f.fields.getD i zField) ≤ (b.size : Int) := by
  have h1 := offTo_mono f.fields (i + 1) f.fields.length (by omega)
  have h2 : offTo f.fields (i + 1) = offTo f.fields i + widthF (f.fields.getD i zField) := rfl
  rw [hs, ← h2]
  exact h1
theorem part_size (hs : (b.size : Int) = sizeF f) (hi : i < f.fields.length) : widthF (f.fields.getD i zField) ≤ ((b.extract (offTo f.fields i).toNat b.size).size : Int) := by
  have h1 := part_in hs hi
  have h2 := offTo_ok f.fields i
  rw [ByteArray.size_extract]
  omega
theorem part_eq (hs : (b.size : Int) = sizeF f) (hi : i < f.fields.length) : (b.extract (offTo f.fields i).toNat b.size).extract 0 (widthF (f.fields.getD i zField)).toNat = partB f b i := by
  have h1 := part_in hs hi
  have h2 := offTo_ok f.fields i
  have h3 := widthF_ok (f.fields.getD i zField)
  have h4 : offTo f.fields (i + 1) = offTo f.fields i + widthF (f.fields.getD i zField) := rfl
  unfold partB
  rw [ByteArray.extract_extract, h4, Nat.add_zero, show min ((offTo f.fields i).toNat + (widthF (f.fields.getD i zField)).toNat) b.size = (offTo f.fields i + widthF (f.fields.getD i zField)).toNat by omega]
theorem rest_eq (hs : (b.size : Int) = sizeF f) (hi : i < f.fields.length) : b.extract (offTo f.fields (i + 1)).toNat b.size = (b.extract (offTo f.fields i).toNat b.size).extract (widthF (f.fields.getD i zField)).toNat (b.extract (offTo f.fields i).toNat b.size).size := by
  have h1 := part_in hs hi
  have h2 := offTo_ok f.fields i
  have h3 := widthF_ok (f.fields.getD i zField)
  have h4 : offTo f.fields (i + 1) = offTo f.fields i + widthF (f.fields.getD i zField) := rfl
  rw [ByteArray.extract_extract, ByteArray.size_extract, h4, show (offTo f.fields i).toNat + (widthF (f.fields.getD i zField)).toNat = (offTo f.fields i + widthF (f.fields.getD i zField)).toNat by omega, show min ((offTo f.fields i).toNat + (min b.size b.size - (offTo f.fields i).toNat)) b.size = b.size by omega]
theorem part_err (hs : (b.size : Int) = sizeF f) (hi : i < f.fields.length) : (decodeV (f.fields.getD i zField).type_ ((b.extract (offTo f.fields i).toNat b.size).extract 0 (widthF (f.fields.getD i zField)).toNat)) = partV f b i := by
  rw [part_eq hs hi]; rfl
end
end Go.Ev
namespace Go.Ev
theorem val_fmt {f : Fmt} {b : ByteArray} (h : ¬(fmtErr f).2 = 0) : valuesC f b = ([], 0, (fmtErr f).2) := by rw [valuesC, if_pos h]
theorem val_len {f : Fmt} {b : ByteArray} (h : (fmtErr f).2 = 0) (h2 : ¬(b.size : Int) = sizeF f) : valuesC f b = ([], 0, 18) := by rw [valuesC, if_neg (fun e => e h), if_pos h2]
theorem val_dec {f : Fmt} {b : ByteArray} (h : (fmtErr f).2 = 0) (h2 : (b.size : Int) = sizeF f) : valuesC f b = decodedC f b := by rw [valuesC, if_neg (fun e => e h), if_neg (fun e => e h2)]
end Go.Ev

namespace Go.Ev
open Go.Proofs Ty
set_option maxRecDepth 10000
set_option maxHeartbeats 4000000
set_option linter.unusedSimpArgs false
set_option linter.unusedVariables false
noncomputable def e163 : List O → Option (Prop × O)
  | [.d x_x] => match decField x_x with
    | some x => some (True, .d (.i .i64 (widthF x)))
    | _ => none
  | _ => none
noncomputable def tab163 : FuncId → List O → Option (Prop × O) := addT tab174 163 e163
noncomputable def e154 : List O → Option (Prop × O)
  | [.d x_f, .d (.s name)] => match decFmt x_f with
    | some f => some (f.fields.length ≤ 1000000, .tup [.d (.i .i64 (atF f.fields name).1), .d (.i .i64 (atF f.fields name).2.1), .d (.b (atF f.fields name).2.2)])
    | _ => none
  | _ => none
noncomputable def tab154 : FuncId → List O → Option (Prop × O) := addT tab163 154 e154
noncomputable def e164 : List O → Option (Prop × O)
  | [.d x_f] => match decFmt x_f with
    | some f => some (f.fields.length ≤ 1000000, .d (.i .i64 (sizeF f)))
    | _ => none
  | _ => none
noncomputable def tab164 : FuncId → List O → Option (Prop × O) := addT tab154 164 e164
noncomputable def e162 : List O → Option (Prop × O)
  | [.d x_f] => match decFmt x_f with
    | some f => some (f.fields.length ≤ 1000000, .tup [.d (.i .i64 (fmtErr f).1), .d (.i .i64 (fmtErr f).2)])
    | _ => none
  | _ => none
noncomputable def tab162 : FuncId → List O → Option (Prop × O) := addT tab164 162 e162
noncomputable def e153 : List O → Option (Prop × O)
  | [.d x_f] => match decFmt x_f with
    | some f => some (f.fields.length ≤ 1000000, .d (.i .i64 (fmtErr f).2))
    | _ => none
  | _ => none
noncomputable def tab153 : FuncId → List O → Option (Prop × O) := addT tab162 153 e153
theorem isKs (n : ByteArray) : isK Tryz.prog 9 (.s n) = true := by unfold isK; rw [Tryz.underlying9]
theorem isKks (l : List KField) : ∀ d ∈ l.map keyD, isK Tryz.prog 9 d = true := fun d hd => by
  obtain ⟨k, _, rfl⟩ := List.mem_map.1 hd
  exact isKs _
noncomputable def e136 : List O → Option (Prop × O)
  | [.d x_f] => match decFile x_f with
    | some f => some (f.format.fields.length ≤ 1000000 ∧ f.keys.length ≤ 1000000, .tup [.d (.i .i64 (fileErr f).1), .d (.i .i64 (fileErr f).2)])
    | _ => none
  | _ => none
noncomputable def tab136 : FuncId → List O → Option (Prop × O) := addT tab153 136 e136
noncomputable def e118 : List O → Option (Prop × O)
  | [.d x_f] => match decFile x_f with
    | some f => some (f.format.fields.length ≤ 1000000 ∧ f.keys.length ≤ 1000000, .d (.i .i64 (fileErr f).2))
    | _ => none
  | _ => none
noncomputable def tab118 : FuncId → List O → Option (Prop × O) := addT tab136 118 e118
noncomputable def e165 : List O → Option (Prop × O)
  | [.d x_f, .d (.s b)] => match decFmt x_f with
    | some f => some (f.fields.length ≤ 1000 ∧ (b.size : Int) = sizeF f, .tup [.d (.sl 2 ((decodedC f b).1.map encVal)), .d (.i .i64 (decodedC f b).2.1), .d (.i .i64 (decodedC f b).2.2)])
    | _ => none
  | _ => none
noncomputable def tab165 : FuncId → List O → Option (Prop × O) := addT tab118 165 e165
noncomputable def e155 : List O → Option (Prop × O)
  | [.d x_f, .d (.s b)] => match decFmt x_f with
    | some f => some (f.fields.length ≤ 1000000, .tup [.d (.sl 2 ((valuesC f b).1.map encVal)), .d (.i .i64 (valuesC f b).2.1), .d (.i .i64 (valuesC f b).2.2)])
    | _ => none
  | _ => none
noncomputable def tab155 : FuncId → List O → Option (Prop × O) := addT tab165 155 e155
noncomputable def e137 : List O → Option (Prop × O)
  | [.d x_f, .d (.s b)] => match decFmt x_f with
    | some f => some (f.fields.length ≤ 1000000, .tup [.d (.i .i64 (valuesC f b).2.1), .d (.i .i64 (valuesC f b).2.2)])
    | _ => none
  | _ => none
noncomputable def tab137 : FuncId → List O → Option (Prop × O) := addT tab155 137 e137
noncomputable def e120 : List O → Option (Prop × O)
  | [.d x_f, .d (.s b)] => match decFmt x_f with
    | some f => some (f.fields.length ≤ 1000000, .d (.i .i64 (valuesC f b).2.2))
    | _ => none
  | _ => none
noncomputable def tab120 : FuncId → List O → Option (Prop × O) := addT tab137 120 e120
noncomputable def e90 : List O → Option (Prop × O)
  | [.d x_t] => match decTable x_t with
    | some t => some ((t.file.format.fields.length ≤ 1000000 ∧ t.file.keys.length ≤ 1000000 ∧ t.records.length ≤ 1000000), .tup [.d (.i .i64 (tableErr t).1), .d (.i .i64 (tableErr t).2)])
    | _ => none
  | _ => none
noncomputable def tab90 : FuncId → List O → Option (Prop × O) := addT tab120 90 e90
noncomputable def e121 : List O → Option (Prop × O)
  | [.d x_t] => match decTable x_t with
    | some t => some ((t.file.format.fields.length ≤ 1000000 ∧ t.file.keys.length ≤ 1000000 ∧ t.records.length ≤ 1000000), .d (.i .i64 (tableErr t).2))
    | _ => none
  | _ => none
noncomputable def tab121 : FuncId → List O → Option (Prop × O) := addT tab90 121 e121
end Go.Ev

namespace Go.Ev
def recAt (t : Table) (c : Change) : Rec := t.records.getD (c.rrn - 1).toNat zRec
def goneAt (t : Table) (c : Change) : Bool := decide (c.rrn = (t.records.length : Int) + 1) || (recAt t c).deleted
def placeErr (t : Table) (c : Change) : Int :=
  if c.kind = 0 then firstE [if (!goneAt t c) = true then 12 else 0, if 60 < c.rrn then 30 else 0]
  else if goneAt t c = true then 11
  else if (recAt t c).bytes ≠ c.before then 15 else 0
def mostAt (t : Table) (c : Change) : Int := if c.kind = 0 then (t.records.length : Int) + 1 else t.records.length
def formBad (c : Change) : Bool := (decide (c.kind = 0) && !decide (c.before = ⟨#[]⟩)) || (decide (c.kind = 2) && !decide (c.after = ⟨#[]⟩))
def chHead (t : Table) (c : Change) : Int :=
  if (tableErr t).2 ≠ 0 then (tableErr t).2
  else if c.file ≠ t.file.name then 11
  else if c.kind < 0 ∨ 3 ≤ c.kind then 4
  else if c.rrn < 1 ∨ mostAt t c < c.rrn then 3
  else if formBad c = true then 5 else 0
def chgErr (t : Table) (c : Change) : Int :=
  if chHead t c ≠ 0 then chHead t c
  else if placeErr t c ≠ 0 ∨ c.kind = 2 then placeErr t c
  else (valuesC t.file.format c.after).2.2
def withT (t : Table) (n : Int) (r : Rec) : Table := ⟨t.file, if (t.records.length : Int) < n then t.records ++ [r] else t.records.set (n - 1).toNat r⟩
def recOf (c : Change) : Rec := ⟨c.kind == 2, c.after⟩
def changedT (t : Table) (c : Change) : Table × Int := if chgErr t c ≠ 0 then (zTable, chgErr t c) else (withT t c.rrn (recOf c), 0)
def revKind (k : Int) : Int := if k = 0 then 2 else if k = 2 then 0 else k
def reversedC (c : Change) : Change × Int := if c.kind = 0 ∨ c.kind = 2 ∨ c.kind = 1 then (⟨c.file, revKind c.kind, c.rrn, c.after, c.before⟩, 0) else (zChange, 4)
theorem chHead_ok {t : Table} {c : Change} (h : chHead t c = 0) : (tableErr t).2 = 0 ∧ c.file = t.file.name ∧ 0 ≤ c.kind ∧ c.kind < 3 ∧ 1 ≤ c.rrn ∧ c.rrn ≤ mostAt t c ∧ formBad c = false := by
  unfold chHead at h
  split at h
  · contradiction
  split at h
  · cases h
  split at h
  · cases h
  split at h
  · cases h
  split at h
  · cases h
  · refine ⟨?_, ?_, ?_, ?_, ?_, ?_, ?_⟩
    · simpa using ‹¬¬(tableErr t).2 = 0›
    · simpa using ‹¬c.file ≠ t.file.name›
    · omega
    · omega
    · omega
    · omega
    · simpa using ‹¬formBad c = true›
theorem chHead_pos {t : Table} {c : Change} (h : chHead t c = 0) : 1 ≤ c.rrn ∧ c.rrn ≤ (t.records.length : Int) + 1 := by
  have H := chHead_ok h
  have := H.2.2.2.2.2.1
  unfold mostAt at this
  split at this <;> omega
theorem chgErr_head {t : Table} {c : Change} (h : ¬chHead t c = 0) : chgErr t c = chHead t c := by unfold chgErr; rw [if_pos h]
theorem chgErr_place {t : Table} {c : Change} (h : chHead t c = 0) (h2 : ¬placeErr t c = 0 ∨ c.kind = 2) : chgErr t c = placeErr t c := by unfold chgErr; rw [if_neg (fun e => e h), if_pos h2]
theorem chgErr_bytes {t : Table} {c : Change} (h : chHead t c = 0) (h2 : placeErr t c = 0 ∧ ¬c.kind = 2) : chgErr t c = (valuesC t.file.format c.after).2.2 := by
  unfold chgErr
  rw [if_neg (fun e => e h), if_neg (by rintro (e | e); exact e h2.1; exact h2.2 e)]
theorem chgErr_ok {t : Table} {c : Change} (h : chgErr t c = 0) : chHead t c = 0 := by
  unfold chgErr at h
  split at h
  · contradiction
  · rename_i h2; simpa using h2
theorem chgErr_pos {t : Table} {c : Change} (h : chgErr t c = 0) : 1 ≤ c.rrn ∧ c.rrn ≤ (t.records.length : Int) + 1 := chHead_pos (chgErr_ok h)
theorem chead_in (t : Table) (c : Change) (h : c.kind = 0) : firstE [(tableErr t).2, if ¬c.file = t.file.name then 11 else 0, if c.kind < 0 ∨ 3 ≤ c.kind then 4 else 0, if c.rrn < 1 ∨ (t.records.length : Int) + 1 < c.rrn then 3 else 0, if c.kind = 0 ∧ ¬c.before = ⟨#[]⟩ ∨ c.kind = 2 ∧ ¬c.after = ⟨#[]⟩ then 5 else 0] = chHead t c := by
  have hf : (formBad c = true) = (c.kind = 0 ∧ ¬c.before = ⟨#[]⟩ ∨ c.kind = 2 ∧ ¬c.after = ⟨#[]⟩) := by simp [formBad]
  simp only [firstE, chHead, mostAt, if_pos h, hf]
  (repeat' split) <;> first | rfl | omega | (exfalso; omega) | simp_all
theorem chead_at (t : Table) (c : Change) (h : ¬c.kind = 0) : firstE [(tableErr t).2, if ¬c.file = t.file.name then 11 else 0, if c.kind < 0 ∨ 3 ≤ c.kind then 4 else 0, if c.rrn < 1 ∨ (t.records.length : Int) < c.rrn then 3 else 0, if c.kind = 0 ∧ ¬c.before = ⟨#[]⟩ ∨ c.kind = 2 ∧ ¬c.after = ⟨#[]⟩ then 5 else 0] = chHead t c := by
  have hf : (formBad c = true) = (c.kind = 0 ∧ ¬c.before = ⟨#[]⟩ ∨ c.kind = 2 ∧ ¬c.after = ⟨#[]⟩) := by simp [formBad]
  simp only [firstE, chHead, mostAt, if_neg h, hf]
  (repeat' split) <;> first | rfl | omega | (exfalso; omega) | simp_all
theorem withT_app {t : Table} {n : Int} {r : Rec} (h : (t.records.length : Int) < n) : List.take (t.records.length + 1) (t.records.map encRec ++ [D.agg [.b r.deleted, .s r.bytes]]) = (withT t n r).records.map encRec := by
  unfold withT
  simp only [if_pos h]
  rw [List.take_of_length_le (by simp), List.map_append]
  rfl
theorem withT_set {t : Table} {n : Int} {r : Rec} (h : n ≤ (t.records.length : Int)) : List.take t.records.length ((t.records.map encRec).set (n - 1).toNat (D.agg [.b r.deleted, .s r.bytes])) = (withT t n r).records.map encRec := by
  unfold withT
  simp only [if_neg (show ¬(t.records.length : Int) < n by omega)]
  rw [List.take_of_length_le (by simp), List.map_set]
  rfl
theorem changed_err {t : Table} {c : Change} (h : ¬chgErr t c = 0) : changedT t c = (zTable, chgErr t c) := by unfold changedT; rw [if_pos h]
theorem changed_ok {t : Table} {c : Change} (h : chgErr t c = 0) : changedT t c = (withT t c.rrn (recOf c), 0) := by unfold changedT; rw [if_neg (fun e => e h)]
end Go.Ev

namespace Go.Ev
open Go.Proofs Ty
set_option maxRecDepth 10000
set_option maxHeartbeats 4000000
set_option linter.unusedSimpArgs false
set_option linter.unusedVariables false
noncomputable def e66 : List O → Option (Prop × O)
  | [.d x_l] => match decL 4 decField x_l with
    | some l => some (l.length ≤ 1000000, .own 110 4 (l.map encField))
    | _ => none
  | _ => none
noncomputable def tab66 : FuncId → List O → Option (Prop × O) := addT tab121 66 e66
noncomputable def e67 : List O → Option (Prop × O)
  | [.d x_l] => match decL 2 decKField x_l with
    | some l => some (l.length ≤ 1000000, .own 113 2 (l.map encKField))
    | _ => none
  | _ => none
noncomputable def tab67 : FuncId → List O → Option (Prop × O) := addT tab66 67 e67
noncomputable def e68 : List O → Option (Prop × O)
  | [.d x_l] => match decL 2 decRec x_l with
    | some l => some (l.length ≤ 1000000, .own 104 2 (l.map encRec))
    | _ => none
  | _ => none
noncomputable def tab68 : FuncId → List O → Option (Prop × O) := addT tab67 68 e68
noncomputable def e122 : List O → Option (Prop × O)
  | [.d x_t, .d x_c] => match decTable x_t, decChange x_c with
    | some t, some c => some (1 ≤ c.rrn ∧ c.rrn ≤ (t.records.length : Int) + 1 ∧ t.records.length ≤ 1000000, .d (.i .i64 (placeErr t c)))
    | _, _ => none
  | _ => none
noncomputable def tab122 : FuncId → List O → Option (Prop × O) := addT tab68 122 e122
noncomputable def e93 : List O → Option (Prop × O)
  | [.d x_t, .d x_c] => match decTable x_t, decChange x_c with
    | some t, some c => some ((t.file.format.fields.length ≤ 1000000 ∧ t.file.keys.length ≤ 1000000 ∧ t.records.length ≤ 1000000), .d (.i .i64 (chgErr t c)))
    | _, _ => none
  | _ => none
noncomputable def tab93 : FuncId → List O → Option (Prop × O) := addT tab122 93 e93
noncomputable def e94 : List O → Option (Prop × O)
  | [.d x_t, .d (.i .i64 n), .d x_r] => match decTable x_t, decRec x_r with
    | some t, some r => some (1 ≤ n ∧ n ≤ (t.records.length : Int) + 1 ∧ t.records.length ≤ 1000000, .d (encTable (withT t n r)))
    | _, _ => none
  | _ => none
noncomputable def tab94 : FuncId → List O → Option (Prop × O) := addT tab93 94 e94
noncomputable def e70 : List O → Option (Prop × O)
  | [.d x_t, .d x_c] => match decTable x_t, decChange x_c with
    | some t, some c => some ((t.file.format.fields.length ≤ 1000000 ∧ t.file.keys.length ≤ 1000000 ∧ t.records.length ≤ 1000000), .tup [.d (encTable (changedT t c).1), .d (.i .i64 (changedT t c).2)])
    | _, _ => none
  | _ => none
noncomputable def tab70 : FuncId → List O → Option (Prop × O) := addT tab94 70 e70
noncomputable def e71 : List O → Option (Prop × O)
  | [.d x_c] => match decChange x_c with
    | some c => some (True, .tup [.d (encChange (reversedC c).1), .d (.i .i64 (reversedC c).2)])
    | _ => none
  | _ => none
noncomputable def tab71 : FuncId → List O → Option (Prop × O) := addT tab70 71 e71
end Go.Ev

namespace Go.Ev
def okT (t : Table) : Prop := t.file.format.fields.length ≤ 1000000 ∧ t.file.keys.length ≤ 1000000 ∧ t.records.length ≤ 1000000
def okTs (l : List Table) : Prop := l.length ≤ 1000000 ∧ ∀ i, okT (l.getD i zTable)
theorem getD_mapT {l : List Table} {i : Nat} (h : i < l.length) (z : D) : (l.map encTable).getD i z = encTable (l.getD i zTable) := by
  simp [List.getD, List.getElem?_map, List.getElem?_eq_getElem h]
def nameHit (l : List Table) (n : ByteArray) (i : Nat) : Int := if (l.getD i zTable).file.name = n then 1 else 0
def findT (l : List Table) (n : ByteArray) : Int := match firstBad (nameHit l n) l.length with
  | some i => i
  | none => -1
theorem find_yes {l : List Table} {n : ByteArray} {i : Nat} (h : ∀ j, j < i → nameHit l n j = 0) (hi : i < l.length) (hg : (l.getD i zTable).file.name = n) : findT l n = i := by
  unfold findT
  rw [firstBad_some h hi (by unfold nameHit; rw [if_pos hg]; decide)]
theorem find_end {l : List Table} {n : ByteArray} {i : Nat} (h : ∀ j, j < i → nameHit l n j = 0) (hi : l.length ≤ i) : findT l n = -1 := by
  unfold findT
  rw [firstBad_none fun j hj => h j (by omega)]
theorem hit_no {l : List Table} {n : ByteArray} {i : Nat} (hg : ¬(l.getD i zTable).file.name = n) : nameHit l n i = 0 := by unfold nameHit; rw [if_neg hg]
def tabE (l : List Table) (i : Nat) : Int := if (tableErr (l.getD i zTable)).2 ≠ 0 then (tableErr (l.getD i zTable)).2 else if findT l (l.getD i zTable).file.name < i then 13 else 0
def tablesErr (l : List Table) : Int := if 8 < l.length then 2 else match firstBad (tabE l) l.length with
  | some i => tabE l i
  | none => 0
theorem tabs_many {l : List Table} (h : 8 < (l.length : Int)) : tablesErr l = 2 := by unfold tablesErr; rw [if_pos (by omega)]
theorem tabs_bad {l : List Table} {i : Nat} (h8 : l.length ≤ 8) (h : ∀ j, j < i → tabE l j = 0) (hi : i < l.length) (hg : ¬tabE l i = 0) : tablesErr l = tabE l i := by
  unfold tablesErr
  rw [if_neg (by omega), firstBad_some h hi hg]
theorem tabs_end {l : List Table} {i : Nat} (h8 : l.length ≤ 8) (h : ∀ j, j < i → tabE l j = 0) (hi : l.length ≤ i) : tablesErr l = 0 := by
  unfold tablesErr
  rw [if_neg (by omega), firstBad_none fun j hj => h j (by omega)]
theorem tabE_err {l : List Table} {i : Nat} (h : ¬(tableErr (l.getD i zTable)).2 = 0) : tabE l i = (tableErr (l.getD i zTable)).2 := by unfold tabE; rw [if_pos h]
theorem tabE_dup {l : List Table} {i : Nat} (h : (tableErr (l.getD i zTable)).2 = 0) (h2 : findT l (l.getD i zTable).file.name < i) : tabE l i = 13 := by unfold tabE; rw [if_neg (fun e => e h), if_pos h2]
theorem tabE_ok {l : List Table} {i : Nat} (h : (tableErr (l.getD i zTable)).2 = 0) (h2 : (i : Int) ≤ findT l (l.getD i zTable).file.name) : tabE l i = 0 := by unfold tabE; rw [if_neg (fun e => e h), if_neg (by omega)]
def chkL (ts : List Table) (l : List Entry) : List AUnit := if tablesErr ts ≠ 0 then [] else cycles l
def chkE (ts : List Table) (l : List Entry) : Int := if tablesErr ts ≠ 0 then tablesErr ts else (check l).2
theorem chk_bad {ts : List Table} {l : List Entry} (h : ¬tablesErr ts = 0) : chkL ts l = [] ∧ chkE ts l = tablesErr ts := ⟨by unfold chkL; rw [if_pos h], by unfold chkE; rw [if_pos h]⟩
theorem chk_good {ts : List Table} {l : List Entry} (h : tablesErr ts = 0) : chkL ts l = cycles l ∧ chkE ts l = (check l).2 := ⟨by unfold chkL; rw [if_neg (fun e => e h)], by unfold chkE; rw [if_neg (fun e => e h)]⟩
structure Want where
  up : Bool
  n : Int
def Want.has (w : Want) (x : Entry) : Bool := if w.up then decide (x.number ≤ w.n) else decide (w.n ≤ x.number)
def takenE (w : Want) (x : Entry) : Bool := decide (x.kind = 0) && w.has x
def chgOf (back : Bool) (x : Entry) : Change := if back then (reversedC x.change).1 else x.change
def chgsOf (w : Want) (back : Bool) (l : List Entry) : List Change := (l.filter (takenE w)).map (chgOf back)
def changesOf (w : Want) (back : Bool) (l : List Entry) : List Change := if back then (chgsOf w back l).reverse else chgsOf w back l
theorem chgs_take {w : Want} {back : Bool} {l : List Entry} {i : Nat} (hi : i < l.length) : chgsOf w back (l.take (i + 1)) = if takenE w (l.getD i zEntry) = true then chgsOf w back (l.take i) ++ [chgOf back (l.getD i zEntry)] else chgsOf w back (l.take i) := by
  unfold chgsOf
  rw [take_getD zEntry hi, List.filter_append, List.map_append]
  generalize l.getD i zEntry = x
  cases h : takenE w x <;> simp [List.filter_cons, h]
theorem chgs_len {w : Want} {back : Bool} {l : List Entry} {i : Nat} : (chgsOf w back (l.take i)).length ≤ i := by
  unfold chgsOf
  rw [List.length_map]
  have := List.length_filter_le (takenE w) (l.take i)
  rw [List.length_take] at this
  omega
theorem chgs_all (w : Want) (back : Bool) (l : List Entry) : (chgsOf w back l).length ≤ l.length := by
  have := chgs_len (w := w) (back := back) (l := l) (i := l.length)
  rwa [List.take_length] at this
theorem takenE_f {n : Int} {x : Entry} : takenE ⟨false, n⟩ x = true ↔ x.kind = 0 ∧ n ≤ x.number := by simp [takenE, Want.has]
theorem takenE_t {n : Int} {x : Entry} : takenE ⟨true, n⟩ x = true ↔ x.kind = 0 ∧ x.number ≤ n := by simp [takenE, Want.has]
theorem chgs_no {w : Want} {back : Bool} {l : List Entry} {i : Nat} (hi : i < l.length) (h : ¬takenE w (l.getD i zEntry) = true) : chgsOf w back (l.take (i + 1)) = chgsOf w back (l.take i) := by rw [chgs_take hi, if_neg h]
theorem chgs_yes {w : Want} {back : Bool} {l : List Entry} {i : Nat} (hi : i < l.length) (h : takenE w (l.getD i zEntry) = true) : chgsOf w back (l.take (i + 1)) = chgsOf w back (l.take i) ++ [chgOf back (l.getD i zEntry)] := by rw [chgs_take hi, if_pos h]
theorem changes_t {w : Want} {l : List Entry} {i : Nat} (h : l.length ≤ i) : (chgsOf w true (l.take i)).reverse = changesOf w true l := by rw [List.take_of_length_le h]; rfl
theorem changes_f {w : Want} {l : List Entry} {i : Nat} (h : l.length ≤ i) : chgsOf w false (l.take i) = changesOf w false l := by rw [List.take_of_length_le h]; rfl
theorem changes_t2 {w : Want} {l : List Entry} {i : Nat} (h : l.length ≤ i) : List.take (chgsOf w true (l.take i)).length (chgsOf w true (l.take i)).reverse = changesOf w true l := by
  rw [List.take_of_length_le (l := (chgsOf w true (l.take i)).reverse) (by simp), changes_t h]
def mStep (s : List Table × Int) (c : Change) : List Table × Int :=
  if findT s.1 c.file < 0 then s else (s.1.set (findT s.1 c.file).toNat (withT (s.1.getD (findT s.1 c.file).toNat zTable) c.rrn (recOf c)), s.2 + 1)
def mTo (ts : List Table) (cs : List Change) : Nat → List Table × Int
  | 0 => (ts, 0)
  | k + 1 => mStep (mTo ts cs k) (cs.getD k zChange)
def mErr (ts : List Table) (cs : List Change) (k : Nat) : Int :=
  if findT (mTo ts cs k).1 (cs.getD k zChange).file < 0 then 0 else chgErr ((mTo ts cs k).1.getD (findT (mTo ts cs k).1 (cs.getD k zChange).file).toNat zTable) (cs.getD k zChange)
def madeT (ts : List Table) (cs : List Change) : List Table × Int × Int := match firstBad (mErr ts cs) cs.length with
  | some k => ([], 0, mErr ts cs k)
  | none => ((mTo ts cs cs.length).1, (mTo ts cs cs.length).2, 0)
theorem getD_setL {α : Type} (l : List α) (a i : Nat) (x z : α) : (l.set a x).getD i z = if a = i ∧ a < l.length then x else l.getD i z := by
  simp only [List.getD, List.getElem?_set]
  by_cases e : a = i
  · subst e
    by_cases h : a < l.length
    · simp [h]
    · simp [h]
  · simp [e]
theorem firstBad_lt {g : Nat → Int} {n i : Nat} (h : firstBad g n = some i) : i < n := by
  unfold firstBad at h
  have := List.mem_of_find?_eq_some h
  simpa using this
theorem table_len {t : Table} (h : (tableErr t).2 = 0) : t.records.length ≤ 60 := by
  unfold tableErr at h
  split at h
  · rename_i h2; exact absurd h h2
  split at h
  · cases h
  · omega
theorem changed_snd (t : Table) (c : Change) : (changedT t c).2 = chgErr t c := by
  unfold changedT
  split
  · rfl
  · rename_i h; simp only; exact (Decidable.not_not.1 h).symm
theorem findT_lt (l : List Table) (n : ByteArray) : -1 ≤ findT l n ∧ findT l n < l.length := by
  unfold findT
  cases h : firstBad (nameHit l n) l.length with
  | none => simp only; omega
  | some i => have := firstBad_lt h; simp only; omega
theorem mTo_len (ts : List Table) (cs : List Change) : ∀ k, (mTo ts cs k).1.length = ts.length
  | 0 => rfl
  | k + 1 => by
    have ih := mTo_len ts cs k
    simp only [mTo, mStep]
    split
    · exact ih
    · simpa using ih
theorem mTo_cnt (ts : List Table) (cs : List Change) : ∀ k, 0 ≤ (mTo ts cs k).2 ∧ (mTo ts cs k).2 ≤ k
  | 0 => by simp [mTo]
  | k + 1 => by
    have ih := mTo_cnt ts cs k
    simp only [mTo, mStep]
    split
    · omega
    · simp only; omega
theorem okT_with {t : Table} {c : Change} (h : okT t) (hc : chgErr t c = 0) : okT (withT t c.rrn (recOf c)) := by
  have h1 := (chHead_ok (chgErr_ok hc)).1
  have h2 : t.records.length ≤ 60 := table_len h1
  refine ⟨h.1, h.2.1, ?_⟩
  unfold withT
  simp only
  split
  · simp; omega
  · simp; omega
theorem mTo_ok {ts : List Table} {cs : List Change} (h : okTs ts) : ∀ {k : Nat}, (∀ j, j < k → mErr ts cs j = 0) → okTs (mTo ts cs k).1
  | 0, _ => h
  | k + 1, he => by
    have ih := mTo_ok h (k := k) fun j hj => he j (by omega)
    have hk := he k (by omega)
    have hl := mTo_len ts cs (k + 1)
    refine ⟨by rw [hl]; exact h.1, ?_⟩
    intro i
    simp only [mTo, mStep]
    unfold mErr at hk
    split
    · exact ih.2 i
    · rename_i hf
      rw [if_neg hf] at hk
      simp only
      have hb := findT_lt (mTo ts cs k).1 (cs.getD k zChange).file
      rw [getD_setL]
      split
      · exact okT_with (ih.2 _) hk
      · exact ih.2 i
theorem made_bad {ts : List Table} {cs : List Change} {k : Nat} (h : ∀ j, j < k → mErr ts cs j = 0) (hk : k < cs.length) (hg : ¬mErr ts cs k = 0) : madeT ts cs = ([], 0, mErr ts cs k) := by
  unfold madeT
  rw [firstBad_some h hk hg]
theorem made_end {ts : List Table} {cs : List Change} {k : Nat} (h : ∀ j, j < k → mErr ts cs j = 0) (hk : k = cs.length) : madeT ts cs = ((mTo ts cs k).1, (mTo ts cs k).2, 0) := by
  subst hk
  unfold madeT
  rw [firstBad_none fun j hj => h j hj]
theorem mErr_skip {ts : List Table} {cs : List Change} {k : Nat} (h : findT (mTo ts cs k).1 (cs.getD k zChange).file < 0) : mErr ts cs k = 0 := by unfold mErr; rw [if_pos h]
theorem mErr_at {ts : List Table} {cs : List Change} {k : Nat} (h : 0 ≤ findT (mTo ts cs k).1 (cs.getD k zChange).file) : mErr ts cs k = chgErr ((mTo ts cs k).1.getD (findT (mTo ts cs k).1 (cs.getD k zChange).file).toNat zTable) (cs.getD k zChange) := by unfold mErr; rw [if_neg (by omega)]
theorem mTo_skip {ts : List Table} {cs : List Change} {k : Nat} (h : findT (mTo ts cs k).1 (cs.getD k zChange).file < 0) : mTo ts cs (k + 1) = mTo ts cs k := by simp only [mTo, mStep]; rw [if_pos h]
theorem mTo_at {ts : List Table} {cs : List Change} {k : Nat} (h : 0 ≤ findT (mTo ts cs k).1 (cs.getD k zChange).file) : mTo ts cs (k + 1) = ((mTo ts cs k).1.set (findT (mTo ts cs k).1 (cs.getD k zChange).file).toNat (withT ((mTo ts cs k).1.getD (findT (mTo ts cs k).1 (cs.getD k zChange).file).toNat zTable) (cs.getD k zChange).rrn (recOf (cs.getD k zChange))), (mTo ts cs k).2 + 1) := by simp only [mTo, mStep]; rw [if_neg (by omega)]
end Go.Ev
namespace Go.Ev
def swpL {α : Type} (l : List α) (z : α) (i j : Nat) : List α := (l.set i (l.getD j z)).set j (l.getD i z)
def revTo {α : Type} (l : List α) (z : α) : Nat → List α
  | 0 => l
  | i + 1 => swpL (revTo l z i) z i (l.length - 1 - i)
theorem revTo_len {α : Type} (l : List α) (z : α) : ∀ i, (revTo l z i).length = l.length
  | 0 => rfl
  | i + 1 => by simp [revTo, swpL, revTo_len l z i]
theorem revTo_get {α : Type} (l : List α) (z : α) : ∀ i, 2 * i ≤ l.length → ∀ k, k < l.length → (revTo l z i)[k]? = if k < i ∨ l.length - i ≤ k then l[l.length - 1 - k]? else l[k]?
  | 0, _, k, hk => by rw [if_neg (by omega)]; rfl
  | i + 1, hi, k, hk => by
    have ih := revTo_get l z i (by omega)
    have hl := revTo_len l z i
    have g : ∀ q, q < l.length → (revTo l z i).getD q z = l.getD (if q < i ∨ l.length - i ≤ q then l.length - 1 - q else q) z := fun q hq => by
      simp only [List.getD]
      rw [ih q hq]
      split <;> rfl
    simp only [revTo, swpL]
    rw [List.getElem?_set, List.getElem?_set, List.length_set, hl]
    by_cases e1 : l.length - 1 - i = k
    · rw [if_pos e1, if_pos (by omega), if_pos (by omega), g i (by omega), if_neg (by omega)]
      have : i = l.length - 1 - k := by omega
      rw [← this]
      simp [List.getD, List.getElem?_eq_getElem (show i < l.length by omega)]
    · rw [if_neg e1]
      by_cases e2 : i = k
      · subst e2
        rw [if_pos rfl, if_pos (by omega), if_pos (by omega), g _ (by omega), if_neg (by omega)]
        simp [List.getD, List.getElem?_eq_getElem (show l.length - 1 - i < l.length by omega)]
      · rw [if_neg e2, ih k hk]
        by_cases e3 : k < i ∨ l.length - i ≤ k
        · rw [if_pos e3, if_pos (by omega)]
        · rw [if_neg e3, if_neg (by omega)]
theorem revTo_end {α : Type} (l : List α) (z : α) {i : Nat} (h : 2 * i ≤ l.length) (h2 : l.length ≤ 2 * i + 1) : revTo l z i = l.reverse := by
  apply List.ext_getElem?
  intro k
  by_cases hk : k < l.length
  · rw [revTo_get l z i h k hk, List.getElem?_reverse hk]
    split
    · rfl
    · rw [show l.length - 1 - k = k by omega]
  · rw [List.getElem?_eq_none (by rw [revTo_len]; omega), List.getElem?_eq_none (by simp; omega)]
theorem revTo_step {l : List Change} {i : Nat} : (((revTo l zChange i).map encChange).set i (encChange ((revTo l zChange i).getD (l.length - 1 - i) zChange))).set (l.length - 1 - i) (encChange ((revTo l zChange i).getD i zChange)) = (revTo l zChange (i + 1)).map encChange := by
  simp [revTo, swpL, List.map_set]
theorem revTo_at {l : List Change} {i : Nat} (h : 2 * i ≤ l.length) (h2 : (i : Int) < (l.length : Int) - 1 - i) (d z : D) : (((revTo l zChange i).map encChange).set i d).getD (l.length - 1 - i) z = encChange ((revTo l zChange i).getD (l.length - 1 - i) zChange) := by
  have hl := revTo_len l zChange i
  simp only [List.getD]
  rw [List.getElem?_set_ne (by omega), List.getElem?_map, List.getElem?_eq_getElem (by omega)]
  rfl
theorem flatCh (l : List Change) : (l.map encChange).all D.flatA = true := by
  rw [List.all_map, List.all_eq_true]
  intro x _; rfl
end Go.Ev
