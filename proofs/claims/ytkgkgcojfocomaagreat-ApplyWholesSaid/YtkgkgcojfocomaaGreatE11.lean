/- Tools and contracts under the laws of this seat: DevOpen, DyE16. -/
import Derived.Test.YtkgkgcojfocomaaGreatE09
import Derived.Test.YtkgkgcojfocomaaGreatE10
set_option linter.unusedVariables false
set_option linter.unusedSimpArgs false
namespace Go.Ev
def stU2 (us : List AUnit) (n : Int) : Int := match uidx us n with
  | some k => (us.getD k ⟨0, 0, 0, 0⟩).state
  | none => 0
def opn (us : List AUnit) (ss : List Int) : List Int := ss.filter fun n => decide (stU2 us n = 2)
def qpr (us : List AUnit) : List Int := opn us (qfo (us.map (·.unit)))
def qm3 (k : Nat) : List Int := (List.range k).map fun (i : Nat) => (i : Int) + 1
def qhi (l : List Entry) (k : Nat) : List Int := (qm3 k).filter (isOpen l)
@[irreducible] def qdl (l : List Entry) : List Int := qhi l 999
theorem q1l (l : List Entry) : qhi l 999 = qdl l := by unfold qdl; rfl
theorem qsd (l : List Entry) (k : Nat) : qhi l (k + 1) = qhi l k ++ if isOpen l ((k : Int) + 1) = true then [(k : Int) + 1] else [] := by
  unfold qhi qm3
  rw [List.range_succ, List.map_append, List.filter_append]
  congr 1
  simp only [List.map_cons, List.map_nil, List.filter_cons, List.filter_nil]
theorem qui {l : List Entry} {k : Nat} (h : isOpen l ((k : Int) + 1) = true) : qhi l (k + 1) = qhi l k ++ [(k : Int) + 1] := by rw [qsd, if_pos h]
theorem q94 {l : List Entry} {k : Nat} (h : isOpen l ((k : Int) + 1) = false) : qhi l (k + 1) = qhi l k := by rw [qsd, h]; simp
theorem quj (l : List Entry) (k : Nat) : (qhi l k).length ≤ k := by
  unfold qhi qm3
  have := List.length_filter_le (isOpen l) ((List.range k).map fun (i : Nat) => (i : Int) + 1)
  simpa using this
theorem qbvf (k : Nat) : (qm3 k).Pairwise fun a b => a < b := by
  unfold qm3
  rw [List.pairwise_map]
  exact List.pairwise_lt_range.imp fun h => by omega
theorem qpw {l : List Entry} (h : (qbc l).2 = 0) {n : Int} (hb : begins l n = true) : 1 ≤ n ∧ n ≤ 999 := by
  unfold begins at hb
  rw [List.any_eq_true] at hb
  obtain ⟨e, he, hp⟩ := hb
  obtain ⟨j, hj, rfl⟩ := List.getElem_of_mem he
  have hc := (qji h hj).1
  simp only [List.getD, List.getElem?_eq_getElem hj, Option.getD_some] at hc
  unfold qkx at hp
  simp only [Bool.and_eq_true, beq_iff_eq] at hp
  obtain ⟨k1, k2⟩ := hp
  unfold qc3 at hc
  split at hc
  · cases hc
  split at hc
  · cases hc
  split at hc
  · cases hc
  · omega
theorem qxk {l : List Entry} (h : (qbc l).2 = 0) {n : Int} (ho : isOpen l n = true) : 1 ≤ n ∧ n ≤ 999 := qpw h (qmo.1 ho).1
theorem qw4 {l : List Entry} (h : (qbc l).2 = 0) {n : Int} : n ∈ qdl l ↔ isOpen l n = true := by
  unfold qdl qhi qm3
  rw [List.mem_filter, List.mem_map]
  constructor
  · exact fun q => q.2
  · intro ho
    have := qxk h ho
    exact ⟨⟨(n - 1).toNat, by rw [List.mem_range]; omega, by omega⟩, ho⟩
theorem qoe {us : List AUnit} {n : Int} (h : n ∈ us.map (·.unit)) : ∃ k, uidx us n = some k := by
  obtain ⟨u, hu, rfl⟩ := List.mem_map.1 h
  cases hx : uidx us u.unit with
  | some k => exact ⟨k, rfl⟩
  | none =>
    unfold uidx at hx
    rw [List.findIdx?_eq_none_iff] at hx
    have := hx u hu
    simp at this
theorem qbld {l : List Entry} (h : (qbc l).2 = 0) : qpr (qek l) = qdl l := by
  rw [qko h]
  have hP := qmp h
  have tr : ∀ a b c : Int, decide (a ≤ b) = true → decide (b ≤ c) = true → decide (a ≤ c) = true := fun a b c h1 h2 => by simp only [decide_eq_true_eq] at *; omega
  have to : ∀ a b : Int, (decide (a ≤ b) || decide (b ≤ a)) = true := fun a b => by simp only [Bool.or_eq_true, decide_eq_true_eq]; omega
  have hp1 : (qfo ((qbs l).map (·.unit))).Perm ((qbs l).map (·.unit)) := List.mergeSort_perm _ _
  have s1 : (qpr (qbs l)).Pairwise fun a b => decide (a ≤ b) = true := (List.pairwise_mergeSort tr to _).filter _
  have n1 : (qpr (qbs l)).Nodup := ((hp1.nodup_iff).2 hP.nd).filter _
  have s2' := qbvf 999
  have s2 : (qdl l).Pairwise fun a b => a < b := by unfold qdl qhi; exact s2'.filter _
  have n2 : (qdl l).Nodup := s2.imp fun h => by omega
  refine List.Perm.eq_of_pairwise (le := fun a b => decide (a ≤ b) = true) (fun a b _ _ h1 h2 => by simp only [decide_eq_true_eq] at *; omega) s1 (s2.imp fun h => by simp only [decide_eq_true_eq]; omega) ?_
  refine (List.perm_ext_iff_of_nodup n1 n2).2 fun n => ?_
  rw [qw4 h, hP.u.isOpen n]
  unfold qpr opn
  rw [List.mem_filter, hp1.mem_iff]
  unfold stU2
  constructor
  · rintro ⟨hm, hs⟩
    obtain ⟨k, hk⟩ := qoe hm
    rw [hk] at hs ⊢
    exact hs
  · intro hs
    cases hk : uidx (qbs l) n with
    | none => rw [hk] at hs; cases hs
    | some k =>
      rw [hk] at hs
      obtain ⟨u, hu, hn, hl⟩ := qhv hk
      exact ⟨List.mem_map.2 ⟨u, List.mem_of_getElem? hu, hn⟩, hs⟩
theorem q1m {us : List AUnit} {ss : List Int} {j : Nat} (hj : j < ss.length) : opn us (ss.take (j + 1)) = opn us (ss.take j) ++ if stU2 us (ss.getD j 0) = 2 then [ss.getD j 0] else [] := by
  unfold opn
  rw [qdy 0 hj, List.filter_append]
  congr 1
  generalize ss.getD j 0 = n
  by_cases e : stU2 us n = 2
  · simp [e]
  · simp [e]
theorem q3w {us : List AUnit} {ss : List Int} {j : Nat} (hj : j < ss.length) (h : stU2 us (ss.getD j 0) = 2) : opn us (ss.take (j + 1)) = opn us (ss.take j) ++ [ss.getD j 0] := by rw [q1m hj, if_pos h]
theorem qbpv {us : List AUnit} {ss : List Int} {j : Nat} (hj : j < ss.length) (h : ¬stU2 us (ss.getD j 0) = 2) : opn us (ss.take (j + 1)) = opn us (ss.take j) := by rw [q1m hj, if_neg h, List.append_nil]
theorem qble (us : List AUnit) (ss : List Int) : (opn us ss).length ≤ ss.length := List.length_filter_le _ _
theorem qq2 (ks : List Int) : (qfo ks).length = ks.length := List.length_mergeSort _
theorem qbpw {us : List AUnit} {j : Nat} (hj : j < us.length) : ∃ k u, uidx us ((qfo (us.map (·.unit))).getD j 0) = some k ∧ us[k]? = some u ∧ (us.map fun u => D.cp (qdf u))[k]? = some (.cp (qdf u)) ∧ stU2 us ((qfo (us.map (·.unit))).getD j 0) = u.state := by
  have hl := qq2 (us.map (·.unit))
  rw [List.length_map] at hl
  have hm : (qfo (us.map (·.unit))).getD j 0 ∈ us.map (·.unit) := by
    have : (qfo (us.map (·.unit))).getD j 0 = (qfo (us.map (·.unit)))[j]'(by omega) := by simp [List.getD, List.getElem?_eq_getElem (show j < (qfo (us.map (·.unit))).length by omega)]
    rw [this]
    exact (List.mergeSort_perm (us.map (·.unit)) _).mem_iff.1 (List.getElem_mem _)
  obtain ⟨k, hk⟩ := qoe hm
  obtain ⟨u, hu, _, _⟩ := qhv hk
  refine ⟨k, u, hk, hu, by rw [List.getElem?_map, hu]; rfl, ?_⟩
  unfold stU2
  rw [hk]
  simp [List.getD, hu]
def qfm (ts : List Table) (l : List Entry) : List Table × List Int × Int :=
  if chkE ts l ≠ 0 then ([], [], chkE ts l) else if (qcu ts (qbx (WantZ.out (qdl l)).has false l)).2.2 ≠ 0 then ([], [], (qcu ts (qbx (WantZ.out (qdl l)).has false l)).2.2)
  else ((qcu ts (qbx (WantZ.out (qdl l)).has false l)).1, qdl l, 0)
def qgm (ts : List Table) (l : List Entry) : List Table × List Int × Int :=
  if chkE ts l ≠ 0 then ([], [], chkE ts l) else if (qcu ts (qbx (WantZ.inn (qdl l)).has true l)).2.2 ≠ 0 then ([], [], (qcu ts (qbx (WantZ.inn (qdl l)).has true l)).2.2)
  else ((qcu ts (qbx (WantZ.inn (qdl l)).has true l)).1, qdl l, 0)
def ansW (r : List Table × List Int × Int) : Ans := ⟨r.1, 0, r.2.1, r.2.2⟩
section
variable {ts : List Table} {l : List Entry}
theorem q95 (h : ¬chkE ts l = 0) : qfm ts l = ([], [], chkE ts l) := by unfold qfm; rw [if_pos h]
theorem q96 (h : chkE ts l = 0) (h2 : ¬(qcu ts (qbx (WantZ.out (qdl l)).has false l)).2.2 = 0) : qfm ts l = ([], [], (qcu ts (qbx (WantZ.out (qdl l)).has false l)).2.2) := by unfold qfm; rw [if_neg (fun e => e h), if_pos h2]
theorem qbg5 (h : chkE ts l = 0) (h2 : (qcu ts (qbx (WantZ.out (qdl l)).has false l)).2.2 = 0) : qfm ts l = ((qcu ts (qbx (WantZ.out (qdl l)).has false l)).1, qdl l, 0) := by unfold qfm; rw [if_neg (fun e => e h), if_neg (fun e => e h2)]
theorem q97 (h : ¬chkE ts l = 0) : qgm ts l = ([], [], chkE ts l) := by unfold qgm; rw [if_pos h]
theorem q98 (h : chkE ts l = 0) (h2 : ¬(qcu ts (qbx (WantZ.inn (qdl l)).has true l)).2.2 = 0) : qgm ts l = ([], [], (qcu ts (qbx (WantZ.inn (qdl l)).has true l)).2.2) := by unfold qgm; rw [if_neg (fun e => e h), if_pos h2]
theorem qbg6 (h : chkE ts l = 0) (h2 : (qcu ts (qbx (WantZ.inn (qdl l)).has true l)).2.2 = 0) : qgm ts l = ((qcu ts (qbx (WantZ.inn (qdl l)).has true l)).1, qdl l, 0) := by unfold qgm; rw [if_neg (fun e => e h), if_neg (fun e => e h2)]
theorem qps (h : chkE ts l = 0) : qpr (chkL ts l) = qdl l := by rw [(qlm (qfj h).1).1, qbld (qfj h).2]
theorem qmz (h : chkE ts l = 0) : (chkL ts l).length ≤ 1000 ∧ ∀ u ∈ chkL ts l, 1 ≤ u.unit ∧ u.unit ≤ 999 := by
  have hc := (qfj h).2
  rw [(qlm (qfj h).1).1]
  refine ⟨by have := qph (l := l); omega, fun u hu => ?_⟩
  rw [qko hc] at hu
  obtain ⟨k, hk⟩ := qoe (us := qbs l) (n := u.unit) (List.mem_map.2 ⟨u, hu, rfl⟩)
  have hb := (qmp hc).u.begins u.unit
  rw [hk] at hb
  exact qpw hc hb
def wP (l : List Entry) (x : Entry) : Bool := !isOpen l x.unit
def oP (l : List Entry) (x : Entry) : Bool := isOpen l x.unit
theorem q3x (h : (qbc l).2 = 0) (n : Int) : decide (n ∈ qdl l) = isOpen l n := by
  rw [Bool.eq_iff_iff, decide_eq_true_eq]; exact qw4 h
theorem q99 (h : (qbc l).2 = 0) (back : Bool) : qbx (WantZ.out (qdl l)).has back l = qbx (wP l) back l := qlr fun x _ _ => by
  show (!decide (x.unit ∈ qdl l)) = !isOpen l x.unit
  rw [q3x h]
theorem qbaa (h : (qbc l).2 = 0) (back : Bool) : qbx (WantZ.inn (qdl l)).has back l = qbx (oP l) back l := qlr fun x _ _ => by
  show decide (x.unit ∈ qdl l) = isOpen l x.unit
  rw [q3x h]
theorem qw5 {cs : List Change} (h : ¬(qcu ts cs).2.2 = 0) : qe6 (qcu ts cs) = ⟨[], 0, [], (qcu ts cs).2.2⟩ := by
  unfold qcu at h ⊢
  cases hf : qdc (mErr ts cs) cs.length with
  | some k => rfl
  | none => rw [hf] at h; exact absurd rfl h
theorem qbpx (h : ¬chkE ts l = 0) : ansW (qfm ts l) = ⟨[], 0, [], chkE ts l⟩ := by rw [q95 h]; rfl
theorem qbpy (h : chkE ts l = 0) (h2 : ¬(qcu ts (qbx (wP l) false l)).2.2 = 0) : ansW (qfm ts l) = qe6 (qcu ts (qbx (wP l) false l)) := by
  have e := q99 (qfj h).2 (l := l) false
  rw [qw5 h2, q96 h (by rw [e]; exact h2), e]; rfl
theorem qbvg (h : chkE ts l = 0) (h2 : (qcu ts (qbx (wP l) false l)).2.2 = 0) : ansW (qfm ts l) = ⟨(qcu ts (qbx (wP l) false l)).1, 0, qdl l, 0⟩ := by
  have e := q99 (qfj h).2 (l := l) false
  rw [qbg5 h (by rw [e]; exact h2), e]; rfl
theorem qbpz (h : ¬chkE ts l = 0) : ansW (qgm ts l) = ⟨[], 0, [], chkE ts l⟩ := by rw [q97 h]; rfl
theorem qbp0 (h : chkE ts l = 0) (h2 : ¬(qcu ts (qbx (oP l) true l)).2.2 = 0) : ansW (qgm ts l) = qe6 (qcu ts (qbx (oP l) true l)) := by
  have e := qbaa (qfj h).2 (l := l) true
  rw [qw5 h2, q98 h (by rw [e]; exact h2), e]; rfl
theorem qbvh (h : chkE ts l = 0) (h2 : (qcu ts (qbx (oP l) true l)).2.2 = 0) : ansW (qgm ts l) = ⟨(qcu ts (qbx (oP l) true l)).1, 0, qdl l, 0⟩ := by
  have e := qbaa (qfj h).2 (l := l) true
  rw [qbg6 h (by rw [e]; exact h2), e]; rfl
theorem qn6 (l : List Entry) : (qdl l).length ≤ 999 := by rw [← q1l]; exact quj l 999
theorem quk (h : okTs ts) : okTs (qfm ts l).1 := by
  unfold qfm
  split
  · exact qh8
  split
  · exact qh8
  · exact qmc h
theorem qw6 (h : okTs ts) : okTs (qgm ts l).1 := by
  unfold qgm
  split
  · exact qh8
  split
  · exact qh8
  · exact qmc h
theorem whU (ts : List Table) (l : List Entry) : (qfm ts l).2.1.length ≤ 999 := by
  have := qn6 l
  unfold qfm
  split
  · simp
  split
  · simp
  · exact this
theorem opU (ts : List Table) (l : List Entry) : (qgm ts l).2.1.length ≤ 999 := by
  have := qn6 l
  unfold qgm
  split
  · simp
  split
  · simp
  · exact this
end
def qi3 (p : Entry → Bool) (l : List Entry) (j : Nat) : List Change := ((l.drop j).filter (takP p)).reverse.map fun x => revC x.change
section
variable {p : Entry → Bool} {l : List Entry} {j : Nat}
theorem qw7 (hj : j < l.length) (h : (l.getD j q0q).kind = 0) (h2 : p (l.getD j q0q) = true) : qi3 p l j = qi3 p l (j + 1) ++ [revC (l.getD j q0q).change] := by
  unfold qi3
  rw [qe0 q0q hj, List.filter_cons, if_pos (qnj.2 ⟨h, h2⟩), List.reverse_cons, List.map_append]
  rfl
theorem qbeh (hj : j < l.length) (h : ¬(l.getD j q0q).kind = 0 ∨ p (l.getD j q0q) = false) : qi3 p l j = qi3 p l (j + 1) := by
  unfold qi3
  rw [qe0 q0q hj, List.filter_cons, if_neg]
  rw [qnj]
  rintro ⟨a, b⟩
  rcases h with h | h
  · exact h a
  · rw [h] at b; cases b
theorem q2t (hj : l.length ≤ j) : qi3 p l j = [] := by
  unfold qi3; rw [List.drop_of_length_le hj]; rfl
theorem qbab (p : Entry → Bool) (l : List Entry) (j : Nat) : (qi3 p l j).length ≤ l.length := by
  unfold qi3
  rw [List.length_map, List.length_reverse]
  have := List.length_filter_le (takP p) (l.drop j)
  rw [List.length_drop] at this
  omega
theorem qw8 (h : (qbc l).2 = 0) : qi3 p l 0 = qbx p true l := by
  show _ = ((l.filter (takP p)).map (qn2 true)).reverse
  unfold qi3
  rw [List.drop_zero, List.map_reverse]
  congr 1
  apply List.map_congr_left
  intro x hx
  obtain ⟨h1, h2⟩ := List.mem_filter.1 hx
  obtain ⟨j, hj, rfl⟩ := List.getElem_of_mem h1
  have hc := (qji h hj).1
  simp only [List.getD, List.getElem?_eq_getElem hj, Option.getD_some] at hc
  exact (q3u (qt6 hc (qnj.1 h2).1)).symm
end
end Go.Ev

namespace Go.Ev
open Go.Proofs Ty
set_option maxRecDepth 10000
set_option maxHeartbeats 4000000
set_option linter.unusedSimpArgs false
set_option linter.unusedVariables false
def qq3 : D → Option AUnit
  | .cp [.i .i64 a, .i .i64 b, .i .i64 c, .i .i64 d] => some ⟨a, b, c, d⟩
  | _ => none
theorem q2u {d : D} {u : AUnit} (h : qq3 d = some u) : d = .cp (qdf u) := by
  unfold qq3 at h
  split at h
  · cases h; rfl
  · cases h
theorem q1n : ∀ {l : List D} {us : List AUnit}, decM qq3 l = some us → l = us.map fun u => .cp (qdf u)
  | [], us, h => by cases h; rfl
  | d :: l, us, h => by
    unfold decM at h
    split at h
    · rename_i x y h1 h2
      cases h
      rw [List.map_cons, q2u h1, q1n h2]
    · cases h
def keyN : D → Option Int
  | .i .i64 n => some n
  | _ => none
def qul (k v : List D) : Option (List AUnit) := match decM qq3 v with
  | some us => if k.map keyN = us.map (fun u => some u.unit) then some us else none
  | none => none
theorem q3y : ∀ {k : List D} {us : List AUnit}, k.map keyN = us.map (fun u => some u.unit) → k = us.map keyU
  | [], [], _ => rfl
  | [], _ :: _, h => by cases h
  | _ :: _, [], h => by cases h
  | d :: k, u :: us, h => by
    simp only [List.map_cons, List.cons.injEq] at h
    rw [List.map_cons, q3y h.2]
    have : d = keyU u := by
      have h1 := h.1
      unfold keyN at h1
      split at h1
      · cases h1; rfl
      · cases h1
    rw [this]
theorem qbei {k v : List D} {us : List AUnit} (h : qul k v = some us) : dle (.mp k v) (.mp (us.map keyU) (us.map fun u => .cp (qdf u))) := by
  unfold qul at h
  split at h
  · rename_i us' h1
    split at h
    · rename_i h2
      cases h
      rw [q1n h1, q3y h2]
      exact q01 _
    · cases h
  · cases h
theorem qbej (us : List AUnit) : decM qq3 (us.map fun u => .cp (qdf u)) = some us := qfq (g := fun u => .cp (qdf u)) (fun u => rfl) us
theorem dUs (us : List AUnit) : qul (us.map keyU) (us.map fun u => .cp (qdf u)) = some us := by
  unfold qul
  rw [qbej]
  simp only
  rw [if_pos (by rw [List.map_map]; rfl)]
theorem isKU (us : List AUnit) : ∀ d ∈ us.map keyU, isK Tryz.prog 3 d = true := qbgv us
theorem qbek (us : List AUnit) : us.map keyU = (us.map (·.unit)).map (D.i .i64) := by rw [List.map_map]; rfl
theorem qblf {us : List AUnit} (h : ∀ u ∈ us, 1 ≤ u.unit ∧ u.unit ≤ 999) : ∀ k ∈ us.map (·.unit), (Lit.int .i64 k).wf = true := by
  intro k hk
  obtain ⟨u, hu, rfl⟩ := List.mem_map.1 hk
  have := h u hu
  simp [Lit.wf, IntKind.min, IntKind.max, IntKind.bits, IntKind.signed]
  omega
noncomputable def e53 : List O → Option (Prop × O)
  | [.d (.mp k_us v_us)] => match qul k_us v_us with
    | some us => some (us.length ≤ 1000 ∧ ∀ u ∈ us, 1 ≤ u.unit ∧ u.unit ≤ 999, .d (.sl 1 ((qpr us).map (D.i .i64))))
    | _ => none
  | _ => none
noncomputable def q7p : FuncId → List O → Option (Prop × O) := addT tab5 53 e53
noncomputable def e58 : List O → Option (Prop × O)
  | [.d x_l] => match decL 8 q0w x_l with
    | some l => some (l.length ≤ 1000000, .d (.sl 1 ((qdl l).map (D.i .i64))))
    | _ => none
  | _ => none
noncomputable def q7q : FuncId → List O → Option (Prop × O) := addT q7p 58 e58
noncomputable def e21 : List O → Option (Prop × O)
  | [.d x_ts, .d x_l] => match decL 6 q0x x_ts, decL 8 q0w x_l with
    | some ts, some l => some (okTs ts ∧ l.length ≤ 1000000, .tup [.d (.sl 6 ((qfm ts l).1.map q0g)), .d (.sl 1 ((qfm ts l).2.1.map (D.i .i64))), .d (.i .i64 (qfm ts l).2.2)])
    | _, _ => none
  | _ => none
noncomputable def q7r : FuncId → List O → Option (Prop × O) := addT q7q 21 e21
noncomputable def e22 : List O → Option (Prop × O)
  | [.d x_ts, .d x_l] => match decL 6 q0x x_ts, decL 8 q0w x_l with
    | some ts, some l => some (okTs ts ∧ l.length ≤ 1000000, .tup [.d (.sl 6 ((qgm ts l).1.map q0g)), .d (.sl 1 ((qgm ts l).2.1.map (D.i .i64))), .d (.i .i64 (qgm ts l).2.2)])
    | _, _ => none
  | _ => none
noncomputable def q7s : FuncId → List O → Option (Prop × O) := addT q7r 22 e22
noncomputable def e23 : List O → Option (Prop × O)
  | [.d x_ts, .d x_l] => match decL 6 q0x x_ts, decL 8 q0w x_l with
    | some ts, some l => some (okTs ts ∧ l.length ≤ 1000000, .d (qd2 (ansW (qfm ts l))))
    | _, _ => none
  | _ => none
noncomputable def q7t : FuncId → List O → Option (Prop × O) := addT q7s 23 e23
noncomputable def e24 : List O → Option (Prop × O)
  | [.d x_ts, .d x_l] => match decL 6 q0x x_ts, decL 8 q0w x_l with
    | some ts, some l => some (okTs ts ∧ l.length ≤ 1000000, .d (qd2 (ansW (qgm ts l))))
    | _, _ => none
  | _ => none
noncomputable def qbg7 : FuncId → List O → Option (Prop × O) := addT q7t 24 e24
noncomputable def e6 : List O → Option (Prop × O)
  | [.d x_ts, .d x_l] => match decL 6 q0x x_ts, decL 8 q0w x_l with
    | some ts, some l => some (True, .d (.b true))
    | _, _ => none
  | _ => none
end Go.Ev
