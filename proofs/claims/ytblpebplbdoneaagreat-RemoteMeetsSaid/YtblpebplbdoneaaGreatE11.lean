/- Tools and contracts under the laws of this seat: DevOpen to DrE20. -/
import Derived.Test.YtblpebplbdoneaaGreatE09
import Derived.Test.YtblpebplbdoneaaGreatE10
import Derived.Test.YtblpebplbdoneaaGreatE03
set_option linter.unusedVariables false
set_option linter.unusedSimpArgs false
namespace Go.Ev
def stU2 (us : List AUnit) (n : Int) : Int := match uidx us n with
 | some k => (us.getD k ⟨0, 0, 0, 0⟩).state
 | none => 0
def opn (us : List AUnit) (ss : List Int) : List Int := ss.filter fun n => decide (stU2 us n = 2)
def qra (us : List AUnit) : List Int := opn us (qgg (us.map (·.unit)))
def qob (k : Nat) : List Int := (List.range k).map fun (i : Nat) => (i : Int) + 1
def qf1 (l : List Entry) (k : Nat) : List Int := (qob k).filter (isOpen l)
@[irreducible] def qbw (l : List Entry) : List Int := qf1 l 999
theorem qrb (l : List Entry) : qf1 l 999 = qbw l := by unfold qbw; rfl
theorem quc (l : List Entry) (k : Nat) : qf1 l (k + 1) = qf1 l k ++ if isOpen l ((k : Int) + 1) = true then [(k : Int) + 1] else [] := by
 unfold qf1 qob
 rw [List.range_succ, List.map_append, List.filter_append]
 congr 1
 simp only [List.map_cons, List.map_nil, List.filter_cons, List.filter_nil]
theorem qrc {l : List Entry} {k : Nat} (h : isOpen l ((k : Int) + 1) = true) : qf1 l (k + 1) = qf1 l k ++ [(k : Int) + 1] := by rw [quc, if_pos h]
theorem qzh {l : List Entry} {k : Nat} (h : isOpen l ((k : Int) + 1) = false) : qf1 l (k + 1) = qf1 l k := by rw [quc, h]; simp
theorem qrd (l : List Entry) (k : Nat) : (qf1 l k).length ≤ k := by
 unfold qf1 qob
 have := List.length_filter_le (isOpen l) ((List.range k).map fun (i : Nat) => (i : Int) + 1)
 simpa using this
theorem qbjn (k : Nat) : (qob k).Pairwise fun a b => a < b := by
 unfold qob
 rw [List.pairwise_map]
 exact List.pairwise_lt_range.imp fun h => by omega
theorem qrp {l : List Entry} (h : (qbv l).2 = 0) {n : Int} (hb : begins l n = true) : 1 ≤ n ∧ n ≤ 999 := by
 unfold begins at hb
 rw [List.any_eq_true] at hb
 obtain ⟨e, he, hp⟩ := hb
 obtain ⟨j, hj, rfl⟩ := List.getElem_of_mem he
 have hc := (qg5 h hj).1
 simp only [List.getD, List.getElem?_eq_getElem hj, Option.getD_some] at hc
 unfold qle at hp
 simp only [Bool.and_eq_true, beq_iff_eq] at hp
 obtain ⟨k1, k2⟩ := hp
 unfold qde at hc
 split at hc
 ·cases hc
 split at hc
 ·cases hc
 split at hc
 ·cases hc
 ·omega
theorem qrq {l : List Entry} (h : (qbv l).2 = 0) {n : Int} (ho : isOpen l n = true) : 1 ≤ n ∧ n ≤ 999 := qrp h (qj0.1 ho).1
theorem ql9 {l : List Entry} (h : (qbv l).2 = 0) {n : Int} : n ∈ qbw l ↔ isOpen l n = true := by
 unfold qbw qf1 qob
 rw [List.mem_filter, List.mem_map]
 constructor
 ·exact fun q => q.2
 ·intro ho
  have := qrq h ho
  exact ⟨⟨(n - 1).toNat, by rw [List.mem_range]; omega, by omega⟩, ho⟩
theorem qpr {us : List AUnit} {n : Int} (h : n ∈ us.map (·.unit)) : ∃ k, uidx us n = some k := by
 obtain ⟨u, hu, rfl⟩ := List.mem_map.1 h
 cases hx : uidx us u.unit with
 | some k => exact ⟨k, rfl⟩
 | none =>
   unfold uidx at hx
   rw [List.findIdx?_eq_none_iff] at hx
   have := hx u hu
   simp at this
theorem qbnx {l : List Entry} (h : (qbv l).2 = 0) : qra (qj8 l) = qbw l := by
 rw [qo8 h]
 have hP := qv6 h
 have tr : ∀ a b c : Int, decide (a ≤ b) = true → decide (b ≤ c) = true → decide (a ≤ c) = true := fun a b c h1 h2 => by simp only [decide_eq_true_eq] at *; omega
 have to : ∀ a b : Int, (decide (a ≤ b) || decide (b ≤ a)) = true := fun a b => by simp only [Bool.or_eq_true, decide_eq_true_eq]; omega
 have hp1 : (qgg ((qb6 l).map (·.unit))).Perm ((qb6 l).map (·.unit)) := List.mergeSort_perm _ _
 have s1 : (qra (qb6 l)).Pairwise fun a b => decide (a ≤ b) = true := (List.pairwise_mergeSort tr to _).filter _
 have n1 : (qra (qb6 l)).Nodup := ((hp1.nodup_iff).2 hP.nd).filter _
 have s2' := qbjn 999
 have s2 : (qbw l).Pairwise fun a b => a < b := by unfold qbw qf1; exact s2'.filter _
 have n2 : (qbw l).Nodup := s2.imp fun h => by omega
 refine List.Perm.eq_of_pairwise (le := fun a b => decide (a ≤ b) = true) (fun a b _ _ h1 h2 => by simp only [decide_eq_true_eq] at *; omega) s1 (s2.imp fun h => by simp only [decide_eq_true_eq]; omega) ?_
 refine (List.perm_ext_iff_of_nodup n1 n2).2 fun n => ?_
 rw [ql9 h, hP.u.isOpen n]
 unfold qra opn
 rw [List.mem_filter, hp1.mem_iff]
 unfold stU2
 constructor
 ·rintro ⟨hm, hs⟩
  obtain ⟨k, hk⟩ := qpr hm
  rw [hk] at hs ⊢
  exact hs
 ·intro hs
  cases hk : uidx (qb6 l) n with
  | none => rw [hk] at hs; cases hs
  | some k =>
    rw [hk] at hs
    obtain ⟨u, hu, hn, hl⟩ := qix hk
    exact ⟨List.mem_map.2 ⟨u, List.mem_of_getElem? hu, hn⟩, hs⟩
theorem q3r {us : List AUnit} {ss : List Int} {j : Nat} (hj : j < ss.length) : opn us (ss.take (j + 1)) = opn us (ss.take j) ++ if stU2 us (ss.getD j 0) = 2 then [ss.getD j 0] else [] := by
 unfold opn
 rw [qdx 0 hj, List.filter_append]
 congr 1
 generalize ss.getD j 0 = n
 by_cases e : stU2 us n = 2
 ·simp [e]
 ·simp [e]
theorem q53 {us : List AUnit} {ss : List Int} {j : Nat} (hj : j < ss.length) (h : stU2 us (ss.getD j 0) = 2) : opn us (ss.take (j + 1)) = opn us (ss.take j) ++ [ss.getD j 0] := by rw [q3r hj, if_pos h]
theorem qbti {us : List AUnit} {ss : List Int} {j : Nat} (hj : j < ss.length) (h : ¬stU2 us (ss.getD j 0) = 2) : opn us (ss.take (j + 1)) = opn us (ss.take j) := by rw [q3r hj, if_neg h, List.append_nil]
theorem qbny (us : List AUnit) (ss : List Int) : (opn us ss).length ≤ ss.length := List.length_filter_le _ _
theorem qst (ks : List Int) : (qgg ks).length = ks.length := List.length_mergeSort _
theorem qbtj {us : List AUnit} {j : Nat} (hj : j < us.length) : ∃ k u, uidx us ((qgg (us.map (·.unit))).getD j 0) = some k ∧ us[k]? = some u ∧ (us.map fun u => D.cp (qed u))[k]? = some (.cp (qed u)) ∧ stU2 us ((qgg (us.map (·.unit))).getD j 0) = u.state := by
 have hl := qst (us.map (·.unit))
 rw [List.length_map] at hl
 have hm : (qgg (us.map (·.unit))).getD j 0 ∈ us.map (·.unit) := by
  have : (qgg (us.map (·.unit))).getD j 0 = (qgg (us.map (·.unit)))[j]'(by omega) := by simp [List.getD, List.getElem?_eq_getElem (show j < (qgg (us.map (·.unit))).length by omega)]
  rw [this]
  exact (List.mergeSort_perm (us.map (·.unit)) _).mem_iff.1 (List.getElem_mem _)
 obtain ⟨k, hk⟩ := qpr hm
 obtain ⟨u, hu, _, _⟩ := qix hk
 refine ⟨k, u, hk, hu, by rw [List.getElem?_map, hu]; rfl, ?_⟩
 unfold stU2
 rw [hk]
 simp [List.getD, hu]
def qd8 (ts : List Table) (l : List Entry) : List Table × List Int × Int :=
 if chkE ts l ≠ 0 then ([], [], chkE ts l) else if (qc4 ts (qd1 (WantZ.out (qbw l)).has false l)).2.2 ≠ 0 then ([], [], (qc4 ts (qd1 (WantZ.out (qbw l)).has false l)).2.2)
 else ((qc4 ts (qd1 (WantZ.out (qbw l)).has false l)).1, qbw l, 0)
def ansW (r : List Table × List Int × Int) : Ans := ⟨r.1, 0, r.2.1, r.2.2⟩
section
variable {ts : List Table} {l : List Entry}
theorem q3s (h : ¬chkE ts l = 0) : qd8 ts l = ([], [], chkE ts l) := by unfold qd8; rw [if_pos h]
theorem qwx (h : chkE ts l = 0) (h2 : ¬(qc4 ts (qd1 (WantZ.out (qbw l)).has false l)).2.2 = 0) : qd8 ts l = ([], [], (qc4 ts (qd1 (WantZ.out (qbw l)).has false l)).2.2) := by unfold qd8; rw [if_neg (fun e => e h), if_pos h2]
theorem qz4 (h : chkE ts l = 0) (h2 : (qc4 ts (qd1 (WantZ.out (qbw l)).has false l)).2.2 = 0) : qd8 ts l = ((qc4 ts (qd1 (WantZ.out (qbw l)).has false l)).1, qbw l, 0) := by unfold qd8; rw [if_neg (fun e => e h), if_neg (fun e => e h2)]
theorem q3t (h : chkE ts l = 0) : qra (chkL ts l) = qbw l := by rw [(qkt (qjm h).1).1, qbnx (qjm h).2]
theorem qwy (h : chkE ts l = 0) : (chkL ts l).length ≤ 1000 ∧ ∀ u ∈ chkL ts l, 1 ≤ u.unit ∧ u.unit ≤ 999 := by
 have hc := (qjm h).2
 rw [(qkt (qjm h).1).1]
 refine ⟨by have := q7b (l := l); omega, fun u hu => ?_⟩
 rw [qo8 hc] at hu
 obtain ⟨k, hk⟩ := qpr (us := qb6 l) (n := u.unit) (List.mem_map.2 ⟨u, hu, rfl⟩)
 have hb := (qv6 hc).u.begins u.unit
 rw [hk] at hb
 exact qrp hc hb
def wP (l : List Entry) (x : Entry) : Bool := !isOpen l x.unit
def oP (l : List Entry) (x : Entry) : Bool := isOpen l x.unit
theorem qbnz (h : (qbv l).2 = 0) (n : Int) : decide (n ∈ qbw l) = isOpen l n := by
 rw [Bool.eq_iff_iff, decide_eq_true_eq]; exact ql9 h
theorem q3u (h : (qbv l).2 = 0) (back : Bool) : qd1 (WantZ.out (qbw l)).has back l = qd1 (wP l) back l := qxy fun x _ _ => by
 show (!decide (x.unit ∈ qbw l)) = !isOpen l x.unit
 rw [qbnz h]
theorem qbcd {cs : List Change} (h : ¬(qc4 ts cs).2.2 = 0) : qpe (qc4 ts cs) = ⟨[], 0, [], (qc4 ts cs).2.2⟩ := by
 unfold qc4 at h ⊢
 cases hf : qcf (mErr ts cs) cs.length with
 | some k => rfl
 | none => rw [hf] at h; exact absurd rfl h
theorem qbtk (h : ¬chkE ts l = 0) : ansW (qd8 ts l) = ⟨[], 0, [], chkE ts l⟩ := by rw [q3s h]; rfl
theorem qbtl (h : chkE ts l = 0) (h2 : ¬(qc4 ts (qd1 (wP l) false l)).2.2 = 0) : ansW (qd8 ts l) = qpe (qc4 ts (qd1 (wP l) false l)) := by
 have e := q3u (qjm h).2 (l := l) false
 rw [qbcd h2, qwx h (by rw [e]; exact h2), e]; rfl
theorem qbzk (h : chkE ts l = 0) (h2 : (qc4 ts (qd1 (wP l) false l)).2.2 = 0) : ansW (qd8 ts l) = ⟨(qc4 ts (qd1 (wP l) false l)).1, 0, qbw l, 0⟩ := by
 have e := q3u (qjm h).2 (l := l) false
 rw [qz4 h (by rw [e]; exact h2), e]; rfl
theorem qsu (l : List Entry) : (qbw l).length ≤ 999 := by rw [← qrb]; exact qrd l 999
theorem q9k (h : okTs ts) : okTs (qd8 ts l).1 := by
 unfold qd8
 split
 ·exact qku
 split
 ·exact qku
 ·exact qpc h
end
def qi3 (p : Entry → Bool) (l : List Entry) (j : Nat) : List Change := ((l.drop j).filter (takP p)).reverse.map fun x => revC x.change
section
variable {p : Entry → Bool} {l : List Entry} {j : Nat}
theorem qbce (hj : j < l.length) (h : (l.getD j q0i).kind = 0) (h2 : p (l.getD j q0i) = true) : qi3 p l j = qi3 p l (j + 1) ++ [revC (l.getD j q0i).change] := by
 unfold qi3
 rw [qd2 q0i hj, List.filter_cons, if_pos (qmz.2 ⟨h, h2⟩), List.reverse_cons, List.map_append]
 rfl
theorem qbgt (hj : j < l.length) (h : ¬(l.getD j q0i).kind = 0 ∨ p (l.getD j q0i) = false) : qi3 p l j = qi3 p l (j + 1) := by
 unfold qi3
 rw [qd2 q0i hj, List.filter_cons, if_neg]
 rw [qmz]
 rintro ⟨a, b⟩
 rcases h with h | h
 ·exact h a
 ·rw [h] at b; cases b
theorem q44 (hj : l.length ≤ j) : qi3 p l j = [] := by
 unfold qi3; rw [List.drop_of_length_le hj]; rfl
theorem qbcf (p : Entry → Bool) (l : List Entry) (j : Nat) : (qi3 p l j).length ≤ l.length := by
 unfold qi3
 rw [List.length_map, List.length_reverse]
 have := List.length_filter_le (takP p) (l.drop j)
 rw [List.length_drop] at this
 omega
theorem qbcg (h : (qbv l).2 = 0) : qi3 p l 0 = qd1 p true l := by
 show _ = ((l.filter (takP p)).map (qn0 true)).reverse
 unfold qi3
 rw [List.drop_zero, List.map_reverse]
 congr 1
 apply List.map_congr_left
 intro x hx
 obtain ⟨h1, h2⟩ := List.mem_filter.1 hx
 obtain ⟨j, hj, rfl⟩ := List.getElem_of_mem h1
 have hc := (qg5 h hj).1
 simp only [List.getD, List.getElem?_eq_getElem hj, Option.getD_some] at hc
 exact (qtp (qk6 hc (qmz.1 h2).1)).symm
end
end Go.Ev
namespace Go.Ev
noncomputable section
open Go.Proofs Ty
set_option maxRecDepth 10000
set_option maxHeartbeats 4000000
def qsv : D → Option AUnit
 | .cp [.i .i64 a, .i .i64 b, .i .i64 c, .i .i64 d] => some ⟨a, b, c, d⟩
 | _ => none
theorem q45 {d : D} {u : AUnit} (h : qsv d = some u) : d = .cp (qed u) := by
 unfold qsv at h
 split at h
 ·cases h; rfl
 ·cases h
theorem q3v : ∀ {l : List D} {us : List AUnit}, decM qsv l = some us → l = us.map fun u => .cp (qed u)
 | [], us, h => by cases h; rfl
 | d :: l, us, h => by
   unfold decM at h
   split at h
   ·rename_i x y h1 h2
    cases h
    rw [List.map_cons, q45 h1, q3v h2]
   ·cases h
def keyN : D → Option Int
 | .i .i64 n => some n
 | _ => none
def qwz (k v : List D) : Option (List AUnit) := match decM qsv v with
 | some us => if k.map keyN = us.map (fun u => some u.unit) then some us else none
 | none => none
theorem q54 : ∀ {k : List D} {us : List AUnit}, k.map keyN = us.map (fun u => some u.unit) → k = us.map keyU
 | [], [], _ => rfl
 | [], _ :: _, h => by cases h
 | _ :: _, [], h => by cases h
 | d :: k, u :: us, h => by
   simp only [List.map_cons, List.cons.injEq] at h
   rw [List.map_cons, q54 h.2]
   have : d = keyU u := by
    have h1 := h.1
    unfold keyN at h1
    split at h1
    ·cases h1; rfl
    ·cases h1
   rw [this]
theorem qbgu {k v : List D} {us : List AUnit} (h : qwz k v = some us) : dle (.mp k v) (.mp (us.map keyU) (us.map fun u => .cp (qed u))) := by
 unfold qwz at h
 split at h
 ·rename_i us' h1
  split at h
  ·rename_i h2
   cases h
   rw [q3v h1, q54 h2]
   exact q09 _
  ·cases h
 ·cases h
theorem qbgv (us : List AUnit) : decM qsv (us.map fun u => .cp (qed u)) = some us := qhc (g := fun u => .cp (qed u)) (fun u => rfl) us
theorem dUs (us : List AUnit) : qwz (us.map keyU) (us.map fun u => .cp (qed u)) = some us := by
 unfold qwz
 rw [qbgv]
 simp only
 rw [if_pos (by rw [List.map_map]; rfl)]
theorem isKU (us : List AUnit) : ∀ d ∈ us.map keyU, isK Tryz.prog 3 d = true := qbjg us
theorem qbgw (us : List AUnit) : us.map keyU = (us.map (·.unit)).map (D.i .i64) := by rw [List.map_map]; rfl
theorem qbn0 {us : List AUnit} (h : ∀ u ∈ us, 1 ≤ u.unit ∧ u.unit ≤ 999) : ∀ k ∈ us.map (·.unit), (Lit.int .i64 k).wf = true := by
 intro k hk
 obtain ⟨u, hu, rfl⟩ := List.mem_map.1 hk
 have := h u hu
 simp [Lit.wf, IntKind.min, IntKind.max, IntKind.bits, IntKind.signed]
 omega
def e65 : List O → Option (Prop × O)
 | [.d (.mp k_us v_us)] => match qwz k_us v_us with
   | some us => some (us.length ≤ 1000 ∧ ∀ u ∈ us, 1 ≤ u.unit ∧ u.unit ≤ 999, .d (.sl 1 ((qra us).map (D.i .i64))))
   | _ => none
 | _ => none
def q9l : FuncId → List O → Option (Prop × O) := addT q3q 65 e65
def e69 : List O → Option (Prop × O)
 | [.d x_l] => match decL 8 q0v x_l with
   | some l => some (l.length ≤ 1000000, .d (.sl 1 ((qbw l).map (D.i .i64))))
   | _ => none
 | _ => none
def q9m : FuncId → List O → Option (Prop × O) := addT q9l 69 e69
def e39 : List O → Option (Prop × O)
 | [.d x_ts, .d x_l] => match decL 6 q0y x_ts, decL 8 q0v x_l with
   | some ts, some l => some (okTs ts ∧ l.length ≤ 1000000, .tup [.d (.sl 6 ((qd8 ts l).1.map q0c)), .d (.sl 1 ((qd8 ts l).2.1.map (D.i .i64))), .d (.i .i64 (qd8 ts l).2.2)])
   | _, _ => none
 | _ => none
def q9n : FuncId → List O → Option (Prop × O) := addT q9m 39 e39
def e43 : List O → Option (Prop × O)
 | [.d x_ts, .d x_l] => match decL 6 q0y x_ts, decL 8 q0v x_l with
   | some ts, some l => some (okTs ts ∧ l.length ≤ 1000000, .d (qft (ansW (qd8 ts l))))
   | _, _ => none
 | _ => none
def q9o : FuncId → List O → Option (Prop × O) := addT q9n 43 e43
end
end Go.Ev
namespace Go.Ev
def pl (t : Table) (r : Int) : Option Rec := if 1 ≤ r ∧ r ≤ (t.records.length : Int) then some (t.records.getD (r - 1).toNat zRec) else none
def atP (f : ByteArray) (r : Int) (c : Change) : Bool := decide (c.file = f) && decide (c.rrn = r)
def qk9 (cs : List Change) (f : ByteArray) (r : Int) : Option Change := (cs.filter (atP f r)).getLast?
theorem qma {f : ByteArray} {r : Int} {c : Change} : atP f r c = true ↔ c.file = f ∧ c.rrn = r := by simp [atP]
theorem q3w (a b : List Change) (f : ByteArray) (r : Int) : qk9 (a ++ b) f r = (qk9 b f r).or (qk9 a f r) := by
 unfold qk9
 rw [List.filter_append, List.getLast?_append]
theorem qz0 {f : ByteArray} {r : Int} {c : Change} (h : c.file = f ∧ c.rrn = r) : qk9 [c] f r = some c := by
 unfold qk9
 rw [List.filter_cons, if_pos (qma.2 h)]; rfl
theorem qou {f : ByteArray} {r : Int} {c : Change} (h : ¬(c.file = f ∧ c.rrn = r)) : qk9 [c] f r = none := by
 unfold qk9
 rw [List.filter_cons, if_neg (fun e => h (qma.1 e))]; rfl
theorem qbn1 {t : Table} {c : Change} (h : ChgOk t c) (r : Int) : pl (qek t c.rrn (qdo c)) r = if r = c.rrn then some (qdo c) else pl t r := by
 have hlo := h.lo
 have hl := qsn t c.rrn (qdo c)
 have hp : c.rrn ≤ (t.records.length : Int) + 1 := by
  by_cases k : c.kind = 0
  ·exact (h.ins k).1
  ·have := (h.upd k).1; omega
 unfold pl
 by_cases e : r = c.rrn
 ·subst e
  have hw := qsm (r := qdo c) hlo hp
  rw [if_pos ⟨hlo, hw.1⟩, if_pos rfl, hw.2]
 ·rw [if_neg e]
  by_cases q : 1 ≤ r ∧ r ≤ (t.records.length : Int)
  ·have hw := qwj (t := t) (r := qdo c) (n := c.rrn) (m := r) hlo q.1 q.2 (fun x => e x.symm)
   rw [if_pos ⟨q.1, hw.1⟩, if_pos q, hw.2]
  ·rw [if_neg q, if_neg]
   intro q2
   apply q
   split at hl <;> omega
def qgy (s : List Table) (ts : List Table) (f : ByteArray) : Table := s.getD (qbg ts f).toNat q0z
theorem qi4 (cs : List Change) : ∀ (s : List Table × Int), (cs.foldl qcc s).1.map (·.file) = s.1.map (·.file) := by
 induction cs with
 | nil => intro s; rfl
 | cons c cs ih => intro s; rw [List.foldl_cons, ih, qn2]
theorem qux (cs : List Change) (s : List Table × Int) (n : ByteArray) : qbg (cs.foldl qcc s).1 n = qbg s.1 n := qjb (qi4 cs s) n
theorem qxz (cs : List Change) (s : List Table × Int) : (cs.foldl qcc s).1.length = s.1.length := by
 have := congrArg List.length (qi4 cs s); simpa using this
theorem qov {ts : List Table} {f : ByteArray} (hf : 0 ≤ qbg ts f) (r : Int) : ∀ (cs : List Change) (s : List Table × Int), s.1.map (·.file) = ts.map (·.file) → qgw s cs →
 pl (qgy (cs.foldl qcc s).1 ts f) r = ((qk9 cs f r).map qdo).or (pl (qgy s.1 ts f) r) := by
 intro cs
 induction cs with
 | nil => intro s _ _; rfl
 | cons c cs ih =>
   intro s hs hr
   have hr := qgx.1 hr
   have hs' : (qcc s c).1.map (·.file) = ts.map (·.file) := by rw [qn2, hs]
   rw [List.foldl_cons, ih (qcc s c) hs' hr.2]
   have hc := hr.1
   have hfs : ∀ n, qbg s.1 n = qbg ts n := qjb hs
   have hlt := qhe ts f
   have hlen : s.1.length = ts.length := by have := congrArg List.length hs; simpa using this
   have key : pl (qgy (qcc s c).1 ts f) r = ((qk9 [c] f r).map qdo).or (pl (qgy s.1 ts f) r) := by
    unfold cond at hc
    unfold qcc
    rw [hfs] at hc ⊢
    by_cases hn : qbg ts c.file < 0
    ·rw [if_pos hn]
     have : ¬(c.file = f ∧ c.rrn = r) := fun e => by rw [e.1] at hn; omega
     rw [qou this]; rfl
    ·rw [if_neg hn] at hc ⊢
     simp only
     by_cases hcf : c.file = f
     ·subst hcf
      have e : qgy (s.1.set (qbg ts c.file).toNat (qek (s.1.getD (qbg ts c.file).toNat q0z) c.rrn (qdo c))) ts c.file = qek (qgy s.1 ts c.file) c.rrn (qdo c) := by
       unfold qgy
       rw [qiz, if_pos ⟨rfl, by omega⟩]
      have hck : ChgOk (qgy s.1 ts c.file) c := qmy hc
      rw [e, qbn1 hck]
      by_cases hr' : r = c.rrn
      ·rw [if_pos hr', qz0 ⟨rfl, hr'.symm⟩]; rfl
      ·rw [if_neg hr', qou (fun q => hr' q.2.symm)]; rfl
     ·have e : qgy (s.1.set (qbg ts c.file).toNat (qek (s.1.getD (qbg ts c.file).toNat q0z) c.rrn (qdo c))) ts f = qgy s.1 ts f := by
       unfold qgy
       rw [qiz, if_neg]
       rintro ⟨q, _⟩
       have a := qze (l := ts) (n := c.file) (by omega)
       have b := qze hf
       rw [q, b] at a
       exact hcf a.symm
      rw [e, qou (fun q => hcf q.1)]; rfl
   rw [key, show c :: cs = [c] ++ cs from rfl, q3w]
   cases qk9 cs f r with
   | none => rfl
   | some x => rfl
theorem qbch {a b : Table} (hf : b.file = a.file) (h : ∀ r, pl b r = pl a r ∨ (pl a r = none ∧ pl b r = some delR)) : extT a b := by
 have hlen : a.records.length ≤ b.records.length := by
  by_cases h0 : a.records.length = 0
  ·omega
  ·have := h (a.records.length : Int)
   unfold pl at this
   rw [if_pos (c := 1 ≤ (a.records.length : Int) ∧ (a.records.length : Int) ≤ (a.records.length : Int)) (by omega)] at this
   rcases this with q | q
   ·split at q
    ·omega
    ·cases q
   ·cases q.1
 refine ⟨hf, b.records.length - a.records.length, ?_⟩
 apply List.ext_getElem
 ·simp; omega
 ·intro i h1 h2
  have hi := h ((i : Int) + 1)
  have e1 : ((i : Int) + 1 - 1).toNat = i := by omega
  unfold pl at hi
  rw [e1] at hi
  rw [if_pos (c := 1 ≤ (i : Int) + 1 ∧ (i : Int) + 1 ≤ (b.records.length : Int)) (by omega)] at hi
  have gb : b.records.getD i zRec = b.records[i] := by simp [List.getD, List.getElem?_eq_getElem h1]
  rw [gb] at hi
  by_cases hia : i < a.records.length
  ·rw [if_pos (c := 1 ≤ (i : Int) + 1 ∧ (i : Int) + 1 ≤ (a.records.length : Int)) (by omega)] at hi
   have ga : a.records.getD i zRec = a.records[i] := by simp [List.getD, List.getElem?_eq_getElem hia]
   rw [ga] at hi
   rw [List.getElem_append_left hia]
   rcases hi with q | q
   ·exact Option.some.inj q
   ·cases q.1
  ·rw [if_neg (c := 1 ≤ (i : Int) + 1 ∧ (i : Int) + 1 ≤ (a.records.length : Int)) (by omega)] at hi
   rw [List.getElem_append_right (by omega), List.getElem_replicate]
   rcases hi with q | q
   ·cases q
   ·exact Option.some.inj q.2
def qnn (f : ByteArray) (r : Int) (x : Entry) : Bool := atP f r x.change
theorem quy (E : List Entry) (f : ByteArray) (r : Int) : (E.map (·.change)).filter (atP f r) = (E.filter (qnn f r)).map (·.change) := by
 rw [List.filter_map]; rfl
theorem qw0 {p : Entry → Bool} : ∀ (E : List Entry), E.Pairwise (fun x y => p x = true → p y = true) → ∃ w o, E = w ++ o ∧ (∀ x ∈ w, p x = false) ∧ (∀ x ∈ o, p x = true)
 | [], _ => ⟨[], [], rfl, fun _ h => (by cases h), fun _ h => (by cases h)⟩
 | x :: E, h => by
   have h' := List.pairwise_cons.1 h
   cases hx : p x with
   | true => exact ⟨[], x :: E, rfl, fun _ h => (by cases h), fun y hy => by
      rcases List.mem_cons.1 hy with rfl | hy
      ·exact hx
      ·exact h'.1 y hy hx⟩
   | false =>
     obtain ⟨w, o, e, h1, h2⟩ := qw0 E h'.2
     exact ⟨x :: w, o, by rw [e]; rfl, fun y hy => by
      rcases List.mem_cons.1 hy with rfl | hy
      ·exact hx
      ·exact h1 y hy, h2⟩
theorem qbgx {c : Change} (h : c.kind = 0 ∨ c.kind = 1 ∨ c.kind = 2) (f : ByteArray) (r : Int) : atP f r (rv c) = atP f r c := by rw [qwk h]; rfl
theorem qbci {cs : List Change} (h : ∀ c ∈ cs, c.kind = 0 ∨ c.kind = 1 ∨ c.kind = 2) (f : ByteArray) (r : Int) : (cs.map rv).filter (atP f r) = (cs.filter (atP f r)).map rv := by
 rw [List.filter_map]
 congr 1
 apply List.filter_congr
 intro c hc
 exact qbgx (h c hc) f r
theorem qw1 {t : Table} {c : Change} (h : ChgOk t c) : pl t c.rrn = some (qdo (rv c)) ∨ (pl t c.rrn = none ∧ qdo (rv c) = delR) := by
 have hlo := h.lo
 rw [qwk h.kind]
 unfold pl
 by_cases hn : c.rrn ≤ (t.records.length : Int)
 ·left
  rw [if_pos ⟨hlo, hn⟩]
  congr 1
  have hi : (c.rrn - 1).toNat < t.records.length := by omega
  by_cases k0 : c.kind = 0
  ·have hd := (h.ins k0).2.2 hn
   have hg := h.right.recs (c.rrn - 1).toNat hi
   unfold qkj at hd
   unfold recR at hg
   rw [if_pos hd] at hg
   have hb : (t.records.getD (c.rrn - 1).toNat zRec).bytes = ⟨#[]⟩ := by
    split at hg
    ·cases hg
    ·rename_i q; exact Decidable.not_not.1 q
   have hk : qea c.kind = 2 := by rw [k0]; rfl
   simp only [qdo, hk, h.form0 k0]
   generalize t.records.getD (c.rrn - 1).toNat zRec = x at hd hb
   cases x; simp_all
  ·obtain ⟨u1, u2, u3⟩ := h.upd k0
   have hnk : ¬qea c.kind = 2 := by
    have := h.kind
    unfold qea
    split
    ·contradiction
    split <;> omega
   unfold qkj at u2 u3
   simp only [qdo]
   generalize t.records.getD (c.rrn - 1).toNat zRec = x at u2 u3
   cases x; simp_all
 ·right
  rw [if_neg (by omega)]
  have k0 : c.kind = 0 := Decidable.byContradiction fun e => by have := (h.upd e).1; omega
  have hk : qea c.kind = 2 := by rw [k0]; rfl
  refine ⟨rfl, ?_⟩
  simp [qdo, delR, hk, h.form0 k0]
theorem q46 {l : List Table} {i : Nat} (hi : i < l.length) : qbg l (l.getD i q0z).file.name ≤ i := by
 unfold qbg
 cases h : qcf (qf9 l (l.getD i q0z).file.name) l.length with
 | none => have := qjo h i hi; unfold qf9 at this; rw [if_pos rfl] at this; cases this
 | some k =>
   unfold qcf at h
   rw [List.find?_eq_some_iff_getElem] at h
   obtain ⟨_, m, hm, he, hb⟩ := h
   rw [List.getElem_range] at he
   show (k : Int) ≤ i
   by_cases e : k ≤ i
   ·omega
   ·have := hb i (by omega)
    simp [qf9] at this
def hitC (x y : Entry) : Bool := decide (y.kind = 0) && !decide (y.unit = x.unit) && decide (y.change.file = x.change.file) && decide (y.change.rrn = x.change.rrn)
theorem quz {l : List Entry} {i : Nat} : ((List.range l.length).any fun k => decide (i < k) && hitC (l.getD i q0i) (l.getD k q0i)) = true ↔ ∃ k, i < k ∧ k < l.length ∧ hitC (l.getD i q0i) (l.getD k q0i) = true := by
 rw [List.any_eq_true]
 constructor
 ·rintro ⟨k, hk, h⟩
  rw [Bool.and_eq_true, decide_eq_true_eq] at h
  exact ⟨k, h.1, List.mem_range.1 hk, h.2⟩
 ·rintro ⟨k, h1, h2, h3⟩
  exact ⟨k, List.mem_range.2 h2, by rw [h3]; simp [h1]⟩
theorem qu0 {x y : Entry} : hitC x y = true ↔ y.kind = 0 ∧ ¬y.unit = x.unit ∧ y.change.file = x.change.file ∧ y.change.rrn = x.change.rrn := by simp [hitC, and_assoc]
end Go.Ev
namespace Go.Ev
open Go.Proofs Ty
set_option maxRecDepth 10000
set_option maxHeartbeats 4000000
end Go.Ev
namespace Go.Ev
end Go.Ev
namespace Go.Ev
theorem qre {x : Remote} (h : rightR x) : ∀ j, j < x.source.length → (x.source.getD j q0i).number = (j : Int) + 1 :=
 qv4 (fun _ hj => qg5 h.c hj) h.f (by have := h.n; omega)
def fwdC (l : List Entry) : List Change := (l.filter fun x => decide (x.kind = 0)).map (·.change)
def cuB (x : Remote) : List Change := qfx ⟨false, (x.target.length : Int) + 1⟩ true x.source
def qi5 (x : Remote) (ts : List Table) (l : List Entry) : Int :=
 if qbq x ≠ 0 then qbq x else if qci ts ≠ 0 then qci ts else if (qbv l).2 ≠ 0 then (qbv l).2 else if qeb l x.target = false then 41 else 0
def qjq (x : Remote) (ts : List Table) (l : List Entry) : List Table × Int × Int := qc4 ts (cuB x ++ fwdC (l.drop x.target.length))
def qfc (x : Remote) (ts : List Table) (l : List Entry) : List Table × Int := if qi5 x ts l ≠ 0 then ([], qi5 x ts l) else ((qjq x ts l).1, (qjq x ts l).2.2)
def cuS (x : Remote) (ts : List Table) (l : List Entry) (i : Nat) : List Table := ((cuB x ++ fwdC ((l.drop x.target.length).take i)).foldl qcc (ts, 0)).1
def cuOk (x : Remote) (ts : List Table) (l : List Entry) (i : Nat) : Prop := qgw (ts, 0) (cuB x ++ fwdC ((l.drop x.target.length).take i))
theorem qi6 (ts : List Table) : (qgn ts [] 0).2.2 = qci ts := by
 by_cases h : qci ts = 0
 ·have hc : chkE ts [] = 0 := by rw [(qkt h).2]; rfl
  rw [qq5 hc ⟨by simp [qlk], by simp [qm6]⟩, h]; rfl
 ·have hc : chkE ts [] = qci ts := (qp5 h).2
  rw [qnj (by rw [hc]; exact h), hc]
theorem qx0 (ts : List Table) (A B : List Change) : ∀ k, k ≤ A.length → mTo ts (A ++ B) k = mTo ts A k
 | 0, _ => rfl
 | k + 1, h => by
   rw [mTo, mTo, qx0 ts A B k (by omega)]
   congr 1
   simp [List.getD, List.getElem?_append_left (show k < A.length by omega)]
theorem qrf (ts : List Table) (A B : List Change) {k : Nat} (h : k < A.length) : mErr ts (A ++ B) k = mErr ts A k := by
 unfold mErr
 rw [qx0 ts A B k (by omega)]
 have : (A ++ B).getD k q08 = A.getD k q08 := by simp [List.getD, List.getElem?_append_left h]
 rw [this]
theorem qbgy {ts : List Table} {A B : List Change} (h : ¬(qc4 ts A).2.2 = 0) : qc4 ts (A ++ B) = ([], 0, (qc4 ts A).2.2) := by
 have hr : ¬qgw (ts, 0) A := fun q => h (qot.2 q)
 unfold qc4 at h ⊢
 cases hf : qcf (mErr ts A) A.length with
 | none => rw [hf] at h; exact absurd rfl h
 | some k =>
   rw [hf] at h
   have hk := qub hf
   have hb : ∀ j, j < k → mErr ts A j = 0 := by
    unfold qcf at hf
    rw [List.find?_eq_some_iff_getElem] at hf
    obtain ⟨_, m, hm, he, hb⟩ := hf
    rw [List.getElem_range] at he
    subst he
    intro j hj
    have := hb j hj
    simpa using this
   rw [qeu (i := k) (fun j hj => by rw [qrf ts A B (by omega)]; exact hb j hj) (by rw [List.length_append]; omega) (by rw [qrf ts A B hk]; exact h)]
   simp only
   rw [qrf ts A B hk]
theorem qbn2 {ts : List Table} {A B : List Change} {c : Change} (h : qgw (ts, 0) A) (hc : ¬cond (A.foldl qcc (ts, 0)).1 c = 0) : qc4 ts (A ++ c :: B) = ([], 0, cond (A.foldl qcc (ts, 0)).1 c) := by
 have e : mErr ts (A ++ c :: B) A.length = cond (A.foldl qcc (ts, 0)).1 c := by
  rw [qnm, qx0 ts A (c :: B) A.length (Nat.le_refl _), qn9 (Nat.le_refl _), List.take_length]
  simp [List.getD]
 rw [qj3 (k := A.length) (fun j hj => by
  rw [qrf ts A _ hj, qnm, qn9 (by omega)]
  exact h j hj) (by simp) (by rw [e]; exact hc), e]
section
variable {x : Remote} {ts : List Table} {l : List Entry} {i : Nat}
theorem ct_1 (h : ¬qbq x = 0) : qfc x ts l = ([], qbq x) := by
 have e : qi5 x ts l = qbq x := by unfold qi5; rw [if_pos h]
 unfold qfc; rw [e, if_pos h]
theorem ct_2 (h1 : qbq x = 0) (h : ¬qci ts = 0) : qfc x ts l = ([], qci ts) := by
 have e : qi5 x ts l = qci ts := by unfold qi5; rw [if_neg (fun e => e h1), if_pos h]
 unfold qfc; rw [e, if_pos h]
theorem ct_3 (h1 : qbq x = 0) (h2 : qci ts = 0) (h : ¬(qbv l).2 = 0) : qfc x ts l = ([], (qbv l).2) := by
 have e : qi5 x ts l = (qbv l).2 := by unfold qi5; rw [if_neg (fun e => e h1), if_neg (fun e => e h2), if_pos h]
 unfold qfc; rw [e, if_pos h]
theorem ct_4 (h1 : qbq x = 0) (h2 : qci ts = 0) (h3 : (qbv l).2 = 0) (h : qeb l x.target = false) : qfc x ts l = ([], 41) := by
 have e : qi5 x ts l = 41 := by unfold qi5; rw [if_neg (fun e => e h1), if_neg (fun e => e h2), if_neg (fun e => e h3), if_pos h]
 unfold qfc; rw [e, if_pos (by decide)]
theorem qx1 (h1 : qbq x = 0) (h2 : qci ts = 0) (h3 : (qbv l).2 = 0) (h : ¬qeb l x.target = false) : qi5 x ts l = 0 := by
 unfold qi5; rw [if_neg (fun e => e h1), if_neg (fun e => e h2), if_neg (fun e => e h3), if_neg h]
theorem qtq (h : qi5 x ts l = 0) : qfc x ts l = ((qjq x ts l).1, (qjq x ts l).2.2) := by
 unfold qfc; rw [if_neg (fun e => e h)]
theorem bw_f (h : (l.length : Int) < x.target.length ∨ ¬l.take x.target.length = x.target) : qeb l x.target = false := by
 unfold qeb
 rcases h with h | h
 ·rw [decide_eq_false (by omega)]; rfl
 ·rw [decide_eq_false h, Bool.and_false]
theorem bw_t (h1 : (x.target.length : Int) ≤ l.length) (h2 : l.take x.target.length = x.target) : ¬qeb l x.target = false := by
 unfold qeb
 rw [decide_eq_true (show x.target.length ≤ l.length by omega), decide_eq_true h2]; decide
theorem qbtm (h : ¬qeb l x.target = false) : x.target.length ≤ l.length := by
 unfold qeb at h
 rw [Bool.not_eq_false, Bool.and_eq_true, decide_eq_true_eq] at h
 exact h.1
theorem qbcj (h1 : qbq x = 0) (h2 : qci ts = 0) : qfb ts x.source ((x.target.length : Int) + 1) = qc4 ts (cuB x) := by
 have hr := qhx.1 h1
 have hc : chkE ts x.source = 0 := by rw [(qkt h2).2]; exact hr.c
 have hn := qre hr
 have ht := hr.t
 refine qnk hc ?_
 unfold qni qpa
 by_cases e : 0 < x.source.length
 ·rw [if_pos e, if_pos e, hn 0 e, hn _ (by omega : x.source.length - 1 < x.source.length)]
  omega
 ·rw [if_neg e, if_neg e]; omega
theorem qbn3 : (cuB x).length ≤ x.source.length := qja _ _ _
theorem qbn4 (l : List Entry) : (fwdC l).length ≤ l.length := by
 unfold fwdC
 rw [List.length_map]
 exact List.length_filter_le _ _
theorem q55 {l : List Entry} {i : Nat} (hi : i < l.length) (h : (l.getD i q0i).kind = 0) : fwdC (l.take (i + 1)) = fwdC (l.take i) ++ [(l.getD i q0i).change] := by
 unfold fwdC
 rw [qdx q0i hi, List.filter_append, List.map_append]
 generalize l.getD i q0i = e at *
 simp [List.filter_cons, h]
theorem qbck {l : List Entry} {i : Nat} (hi : i < l.length) (h : ¬(l.getD i q0i).kind = 0) : fwdC (l.take (i + 1)) = fwdC (l.take i) := by
 unfold fwdC
 rw [qdx q0i hi, List.filter_append, List.map_append]
 generalize l.getD i q0i = e at *
 simp [List.filter_cons, h]
theorem qbcl {l : List Entry} {i : Nat} (hi : i < l.length) (h : (l.getD i q0i).kind = 0) : fwdC l = fwdC (l.take i) ++ (l.getD i q0i).change :: fwdC (l.drop (i + 1)) := by
 conv => lhs; rw [← List.take_append_drop i l]
 unfold fwdC
 rw [List.filter_append, List.map_append, qd2 q0i hi, List.filter_cons]
 generalize l.getD i q0i = e at *
 simp [h]
theorem qbgz (h1 : qbq x = 0) (h2 : qci ts = 0) (h : (qfb ts x.source ((x.target.length : Int) + 1)).2.2 = 0) : cuOk x ts l 0 ∧ cuS x ts l 0 = (qfb ts x.source ((x.target.length : Int) + 1)).1 := by
 rw [qbcj h1 h2] at h ⊢
 have hr := qot.1 h
 have e : cuB x ++ fwdC ((l.drop x.target.length).take 0) = cuB x := by simp [fwdC]
 unfold cuOk cuS
 rw [e]
 exact ⟨hr, by rw [qoa hr]⟩
theorem q56 (hi : i < (l.drop x.target.length).length) (h : ¬((l.drop x.target.length).getD i q0i).kind = 0) : cuS x ts l (i + 1) = cuS x ts l i ∧ (cuOk x ts l i → cuOk x ts l (i + 1)) := by
 unfold cuS cuOk
 rw [qbck hi h]
 exact ⟨rfl, id⟩
theorem qbjo (ho : cuOk x ts l i) (hi : i < (l.drop x.target.length).length) (h : ((l.drop x.target.length).getD i q0i).kind = 0) (hc : cond (cuS x ts l i) ((l.drop x.target.length).getD i q0i).change = 0) :
 cuOk x ts l (i + 1) ∧ cuS x ts l (i + 1) = doT (cuS x ts l i) ((l.drop x.target.length).getD i q0i).change := by
 have hd : doT (cuS x ts l i) ((l.drop x.target.length).getD i q0i).change = qwt (cuS x ts l i) ((l.drop x.target.length).getD i q0i).change := by unfold doT; rw [if_pos hc]
 rw [hd]
 unfold cuS cuOk at *
 rw [q55 hi h, ← List.append_assoc]
 refine ⟨qgc.2 ⟨ho, qgx.2 ⟨hc, qkv⟩⟩, ?_⟩
 rw [List.foldl_append]
 exact qzg _ _ _ _
theorem qbtn (ho : cuOk x ts l i) (hi : i < (l.drop x.target.length).length) (h : ((l.drop x.target.length).getD i q0i).kind = 0) (hc : ¬cond (cuS x ts l i) ((l.drop x.target.length).getD i q0i).change = 0) :
 qjq x ts l = ([], 0, cond (cuS x ts l i) ((l.drop x.target.length).getD i q0i).change) := by
 unfold qjq cuS cuOk at *
 rw [qbcl hi h, ← List.append_assoc]
 exact qbn2 ho hc
theorem qbcm (ho : cuOk x ts l i) (hi : (l.drop x.target.length).length ≤ i) : (qjq x ts l).1 = cuS x ts l i ∧ (qjq x ts l).2.2 = 0 := by
 unfold qjq cuS cuOk at *
 rw [List.take_of_length_le hi] at *
 rw [qoa ho]
 exact ⟨rfl, rfl⟩
theorem qbn5 (h : okTs ts) (ho : cuOk x ts l i) : okTs (cuS x ts l i) := by
 have := qpc (cs := cuB x ++ fwdC ((l.drop x.target.length).take i)) h
 rw [qoa ho] at this
 exact this
theorem qbto (h : qi5 x ts l = 0) (h1 : qbq x = 0) (h2 : qci ts = 0) (hr : ¬(qfb ts x.source ((x.target.length : Int) + 1)).2.2 = 0) : qfc x ts l = ([], (qfb ts x.source ((x.target.length : Int) + 1)).2.2) := by
 rw [qbcj h1 h2] at hr ⊢
 rw [qtq h]
 unfold qjq
 rw [qbgy hr]
theorem qey (h : okTs ts) : okTs (qfc x ts l).1 := by
 unfold qfc
 split
 ·exact qku
 ·exact qpc h
theorem q57 : (cuS x ts l i).length = ts.length := qxz _ _
def allE (_ : Entry) : Bool := true
theorem q58 (h : qbq x = 0) : qi3 allE x.source x.target.length = cuB x := by
 have hr := qhx.1 h
 have hn := qre hr
 have hc := hr.c
 have hbk := qbcg (p := fun e => decide ((x.target.length : Int) + 1 ≤ e.number)) hc
 have e1 : qd1 (fun e => decide ((x.target.length : Int) + 1 ≤ e.number)) true x.source = cuB x := rfl
 rw [← e1, ← hbk]
 unfold qi3
 congr 2
 rw [List.drop_zero]
 conv => rhs; rw [← List.take_append_drop x.target.length x.source]
 rw [List.filter_append]
 have q1 : (x.source.take x.target.length).filter (takP fun e => decide ((x.target.length : Int) + 1 ≤ e.number)) = [] := by
  rw [List.filter_eq_nil_iff]
  intro e he
  obtain ⟨j, hj, rfl⟩ := List.mem_take_iff_getElem.1 he
  have q := hn j (by omega)
  rw [List.getD_eq_getElem?_getD, List.getElem?_eq_getElem (by omega), Option.getD_some] at q
  rw [qmz]
  rintro ⟨_, q2⟩
  rw [decide_eq_true_eq] at q2
  omega
 rw [q1, List.nil_append]
 apply List.filter_congr
 intro e he
 obtain ⟨j, hj, rfl⟩ := List.getElem_of_mem he
 rw [List.getElem_drop]
 rw [List.length_drop] at hj
 have q := hn (x.target.length + j) (by omega)
 rw [List.getD_eq_getElem?_getD, List.getElem?_eq_getElem (by omega), Option.getD_some] at q
 unfold takP allE
 simp only
 rw [decide_eq_true (show (x.target.length : Int) + 1 ≤ x.source[x.target.length + j].number by omega)]
end
theorem qx2 (l : List Entry) (n k : Nat) : (l.drop n).getD k q0i = l.getD (n + k) q0i := by simp [List.getD, List.getElem?_drop]
section
variable {l : List Entry} {n k : Nat}
theorem qbg0 (h : n + k < l.length) (hk : (l.getD (n + k) q0i).kind = 0) : fwdC ((l.drop n).take (k + 1)) = fwdC ((l.drop n).take k) ++ [(l.getD (n + k) q0i).change] := by
 rw [q55 (by rw [List.length_drop]; omega) (by rw [qx2]; exact hk), qx2]
theorem qbn6 (h : n + k < l.length) (hk : ¬(l.getD (n + k) q0i).kind = 0) : fwdC ((l.drop n).take (k + 1)) = fwdC ((l.drop n).take k) :=
 qbck (by rw [List.length_drop]; omega) (by rw [qx2]; exact hk)
theorem qbg1 (h : l.length ≤ n + k) : (l.drop n).take k = l.drop n := List.take_of_length_le (by rw [List.length_drop]; omega)
theorem qbg2 (l : List Entry) (n k : Nat) : (fwdC ((l.drop n).take k)).length ≤ l.length := by
 have := qbn4 ((l.drop n).take k)
 rw [List.length_take, List.length_drop] at this
 omega
end
theorem q59 : fwdC [] = [] := rfl
theorem remW (l : List Entry) (n : Int) : qd1 (WantZ.ge n).has true l = qfx ⟨false, n⟩ true l := rfl
theorem qsw {x : Remote} (h : qqp x = true) : x.source.length ≤ 82 ∧ x.target.length ≤ 82 := by
 unfold qqp at h
 simp only [Bool.and_eq_true] at h
 exact ⟨qng h.1.1, qng h.1.2⟩
def addE (out : List Entry) (y : Entry) : List Entry := out ++ [⟨(out.length : Int) + 1, y.kind, y.unit, y.change⟩]
def uP (u : Int) (e : Entry) : Bool := decide (e.kind = 0) && decide (e.unit = u)
def qla (l : List Entry) (u : Int) (j : Nat) : List Entry := ((l.drop j).filter (uP u)).reverse.map fun e => ⟨0, 0, u, revC e.change⟩
def uniE (l : List Entry) (u : Int) : List Entry := qla l u 0 ++ [⟨0, 3, u, q08⟩]
def qgq (l : List Entry) (us : List Int) : List Entry := (us.flatMap (uniE l)).foldl addE l
def inE (l : List Entry) (us : List Int) (u : Int) (j : Nat) : List Entry := (qla l u j).foldl addE (qgq l us)
theorem qrg (out : List Entry) (y : Entry) : (addE out y).length = out.length + 1 := by simp [addE]
theorem qsx : ∀ (ys out : List Entry), (ys.foldl addE out).length = out.length + ys.length
 | [], out => rfl
 | y :: ys, out => by rw [List.foldl_cons, qsx ys, qrg, List.length_cons]; omega
theorem qzi (l : List Entry) (u : Int) (j : Nat) : (qla l u j).length ≤ l.length := by
 unfold qla
 rw [List.length_map, List.length_reverse]
 have := List.length_filter_le (uP u) (l.drop j)
 rw [List.length_drop] at this
 omega
theorem qbg3 (l : List Entry) (u : Int) : (uniE l u).length ≤ l.length + 1 := by
 unfold uniE
 have := qzi l u 0
 simp; omega
theorem q3x (l : List Entry) : ∀ us : List Int, (us.flatMap (uniE l)).length ≤ us.length * (l.length + 1)
 | [] => by simp
 | u :: us => by
   rw [List.flatMap_cons, List.length_append, List.length_cons, Nat.succ_mul]
   have := q3x l us
   have := qbg3 l u
   omega
theorem qph (l : List Entry) (us : List Int) (hu : us.length ≤ 999) : (qgq l us).length ≤ l.length + 999 * (l.length + 1) := by
 unfold qgq
 rw [qsx]
 have := q3x l us
 have := Nat.mul_le_mul_right (l.length + 1) hu
 omega
section
variable {l : List Entry} {u : Int} {j : Nat} {us : List Int}
theorem q6a (hu : us.length ≤ 999) : (inE l us u j).length ≤ l.length + 999 * (l.length + 1) + l.length := by
 unfold inE
 rw [qsx]
 have := qph l us hu
 have := qzi l u j
 omega
theorem qqb {e : Entry} : uP u e = true ↔ e.kind = 0 ∧ e.unit = u := by simp [uP]
theorem qzj (hj : l.length ≤ j) : inE l us u j = qgq l us := by
 unfold inE qla
 rw [List.drop_of_length_le hj]; rfl
theorem q6b (hj : j < l.length) (h : (l.getD j q0i).kind = 0 ∧ (l.getD j q0i).unit = u) : inE l us u j = addE (inE l us u (j + 1)) ⟨0, 0, u, revC (l.getD j q0i).change⟩ := by
 unfold inE qla
 rw [qd2 q0i hj, List.filter_cons, if_pos (qqb.2 h), List.reverse_cons, List.map_append, List.foldl_append]
 rfl
theorem qbcn (hj : j < l.length) (h : ¬((l.getD j q0i).kind = 0 ∧ (l.getD j q0i).unit = u)) : inE l us u j = inE l us u (j + 1) := by
 unfold inE qla
 rw [qd2 q0i hj, List.filter_cons, if_neg (fun q => h (qqb.1 q))]
theorem qw2 : qgq l (us ++ [u]) = addE (inE l us u 0) ⟨0, 3, u, q08⟩ := by
 unfold qgq inE
 rw [List.flatMap_append, List.foldl_append]
 simp only [List.flatMap_cons, List.flatMap_nil, List.append_nil]
 unfold uniE
 rw [List.foldl_append]
 rfl
theorem q9p {k : Nat} (hk : k < us.length) : qgq l (us.take (k + 1)) = addE (inE l (us.take k) (us.getD k 0) 0) ⟨0, 3, us.getD k 0, q08⟩ := by
 rw [qdx 0 hk, qw2]
end
def qes (x : Remote) (ts : List Table) : List Table × List Entry × Int :=
 if qbq x ≠ 0 then ([], [], qbq x) else if (qd8 ts x.target).2.2 ≠ 0 then ([], [], (qd8 ts x.target).2.2) else ((qd8 ts x.target).1, qgq x.target (qbw x.target), 0)
section
variable {x : Remote} {ts : List Table} {l : List Entry}
theorem tk_1 (h : ¬qbq x = 0) : qes x ts = ([], [], qbq x) := by unfold qes; rw [if_pos h]
theorem tk_2 (h1 : qbq x = 0) (h : ¬(qd8 ts x.target).2.2 = 0) : qes x ts = ([], [], (qd8 ts x.target).2.2) := by unfold qes; rw [if_neg (fun e => e h1), if_pos h]
theorem tk_3 (h1 : qbq x = 0) (h : (qd8 ts x.target).2.2 = 0) : qes x ts = ((qd8 ts x.target).1, qgq x.target (qbw x.target), 0) := by unfold qes; rw [if_neg (fun e => e h1), if_neg (fun e => e h)]
theorem qu1 (h : (qd8 ts l).2.2 = 0) : chkE ts l = 0 ∧ (qd8 ts l).2.1 = qbw l := by
 have hc : chkE ts l = 0 := Decidable.byContradiction fun q => by rw [q3s q] at h; exact q h
 refine ⟨hc, ?_⟩
 have w1 : (qc4 ts (qd1 (WantZ.out (qbw l)).has false l)).2.2 = 0 := Decidable.byContradiction fun q => by rw [qwx hc q] at h; exact q h
 rw [qz4 hc w1]
theorem qbco (h : (qd8 ts l).2.2 = 0) {j : Nat} (hj : j < l.length) (hk : (l.getD j q0i).kind = 0) : (qgm (l.getD j q0i).change).1 = revC (l.getD j q0i).change :=
 qtp (qk6 (qg5 (qjm (qu1 h).1).2 hj).1 hk)
theorem qh6 (h : okTs ts) : okTs (qes x ts).1 := by
 unfold qes
 split
 ·exact qku
 split
 ·exact qku
 ·exact q9k h
theorem qbg4 {m n : Nat} (h : n ≤ m + 999 * (m + 1)) (hm : m ≤ 82) : n ≤ 100000 := Nat.le_trans h (Nat.le_trans (Nat.add_le_add hm (Nat.mul_le_mul_left 999 (Nat.succ_le_succ hm))) (by decide))
theorem qsy (hx : x.target.length ≤ 82) : (qes x ts).2.1.length ≤ 100000 := by
 unfold qes
 split
 ·exact Nat.zero_le _
 split
 ·exact Nat.zero_le _
 ·exact qbg4 (qph x.target (qbw x.target) (qsu _)) hx
end
end Go.Ev
namespace Go.Ev
def D.body : D → List D
 | .agg l => l
 | d => [d]
def qz5 {α : Type} (f : D → Option α) : D → Option α
 | .cp l => f (.agg l)
 | _ => none
theorem q3y {α : Type} {f : D → Option α} {g : α → List D} (h : ∀ {d x}, f d = some x → dle d (.agg (g x))) {d : D} {x : α} (hd : qz5 f d = some x) : dle d (.cp (g x)) := by
 cases d with
 | cp l =>
   have := h hd
   simp only [dle] at this ⊢
   exact this
 | _ => cases hd
theorem qu2 {α : Type} {f : D → Option α} {l : List D} : qz5 f (.cp l) = f (.agg l) := rfl
end Go.Ev
namespace Go.Ev
noncomputable section
open Go.Proofs Ty
set_option maxRecDepth 10000
set_option maxHeartbeats 4000000
def e26 : List O → Option (Prop × O)
 | [.d x_a, .d x_b] => match decL 8 q0v x_a, decL 8 q0v x_b with
   | some a, some b => some (a.length ≤ 1000000, .d (.b (decide (a = b))))
   | _, _ => none
 | _ => none
def q9q : FuncId → List O → Option (Prop × O) := addT q9o 26 e26
def e35 : List O → Option (Prop × O)
 | [.d x_l, .d x_first] => match decL 8 q0v x_l, decL 8 q0v x_first with
   | some l, some first => some (l.length ≤ 1000000, .d (.b (qeb l first)))
   | _, _ => none
 | _ => none
def q9r : FuncId → List O → Option (Prop × O) := addT q9q 35 e35
def e32 : List O → Option (Prop × O)
 | [.d x_x] => match qcg x_x with
   | some x => some (x.source.length ≤ 1000000 ∧ x.target.length ≤ 1000000 ∧ x.wire.length ≤ 1000000, .d (.i .i64 (qbq x)))
   | _ => none
 | _ => none
def q9s : FuncId → List O → Option (Prop × O) := addT q9r 32 e32
def e24 : List O → Option (Prop × O)
 | [.d x_x] => match qcg x_x with
   | some x => some (x.source.length ≤ 1000000 ∧ x.target.length ≤ 1000000 ∧ x.wire.length ≤ 1000000, .d (.i .i64 (qbq x)))
   | _ => none
 | _ => none
def q9t : FuncId → List O → Option (Prop × O) := addT q9s 24 e24
def e40 : List O → Option (Prop × O)
 | [.d x_l] => match decL 8 q0v x_l with
   | some l => some (l.length ≤ 1000000, .own 52 8 (l.map q0h))
   | _ => none
 | _ => none
def q9u : FuncId → List O → Option (Prop × O) := addT q9t 40 e40
def e78 : List O → Option (Prop × O)
 | [.d x_l] => match decL 2 qdy x_l with
   | some l => some (l.length ≤ 1000000, .own 59 2 (l.map qbf))
   | _ => none
 | _ => none
def q9v : FuncId → List O → Option (Prop × O) := addT q9u 78 e78
def e50 : List O → Option (Prop × O)
 | [.d x_x] => match qcg x_x with
   | some x => some (x.source.length ≤ 1000000 ∧ x.target.length ≤ 1000000 ∧ x.wire.length ≤ 1000000, .agg [.d (.b x.sync), .own 52 8 (x.source.map q0h), .own 52 8 (x.target.map q0h), .d (.i .i64 x.sent), .d (.i .i64 x.acked), .own 59 2 (x.wire.map qbf)])
   | _ => none
 | _ => none
def q9w : FuncId → List O → Option (Prop × O) := addT q9v 50 e50
def e11 : List O → Option (Prop × O)
 | [.d x_x] => match qcg x_x with
   | some x => some (x.source.length ≤ 1000000 ∧ x.target.length ≤ 1000000 ∧ x.wire.length ≤ 1000000, .agg [.d (.b x.sync), .own 52 8 (x.source.map q0h), .own 52 8 (x.target.map q0h), .d (.i .i64 x.sent), .d (.i .i64 x.acked), .own 59 2 (x.wire.map qbf)])
   | _ => none
 | _ => none
def q9x : FuncId → List O → Option (Prop × O) := addT q9w 11 e11
def e7 : List O → Option (Prop × O)
 | [.d x_x] => match qcg x_x with
   | some x => some (True, .d (.b (qqp x)))
   | _ => none
 | _ => none
def tab7 : FuncId → List O → Option (Prop × O) := addT q9x 7 e7
def e99 : List O → Option (Prop × O)
 | [.d x_x] => match qcg x_x with
   | some x => some (x.source.length ≤ 1000000 ∧ (x.acked ≠ x.source.length → 0 < x.source.length), .d (.b (qv1 x)))
   | _ => none
 | _ => none
def q9y : FuncId → List O → Option (Prop × O) := addT tab7 99 e99
def qju (x : Remote) : O := .agg [.d (.b x.sync), .own 52 8 (x.source.map q0h), .own 52 8 (x.target.map q0h), .d (.i .i64 x.sent), .d (.i .i64 x.acked), .own 59 2 (x.wire.map qbf)]
def qkx : O → Option Remote
 | .agg [.d (.b a), .own 52 8 s, .own 52 8 t, .d (.i .i64 n), .d (.i .i64 k), .own 59 2 w] => match decM q0v s, decM q0v t, decM qdy w with
   | some s, some t, some w => some ⟨a, s, t, n, k, w⟩
   | _, _, _ => none
 | _ => none
theorem qpi {o : O} {x : Remote} (h : qkx o = some x) : ole o (qju x) := by
 unfold qkx at h
 split at h
 ·split at h
  ·rename_i h1 h2 h3
   cases h
   simp only [ole, oles, dle, qju, true_and, and_true]
   exact ⟨ql4 q02 h1, ql4 q02 h2, ql4 qks h3⟩
  ·cases h
 ·cases h
def mvr : FuncId → Nat → List (Nat × TypeId × Nat) := fun f => if f = 61 then (fun j => if j = 0 then [(4242, 88, 0), (0, 69, 6)] else []) else if f = 79 then (fun j => if j = 0 then [(1, 52, 8), (2, 52, 8), (5, 59, 2)] else []) else if f = 81 then (fun j => if j = 0 then [(1, 52, 8), (2, 52, 8), (5, 59, 2)] else []) else if f = 80 then (fun j => if j = 0 then [(0, 59, 2)] else []) else if f = 41 then (fun j => if j = 1 then [(4242, 22, 0), (0, 52, 8)] else []) else fun _ => []
def e80 : List O → Option (Prop × O)
 | [.own 59 2 s, .d (.i .i64 i), .d (.i .i64 j)] => match decM qdy s with
   | some l => some (l.length ≤ 1000000 ∧ 0 ≤ i ∧ i < l.length ∧ j = i + 1, .own 59 2 ((l.eraseIdx i.toNat).map qbf))
   | none => none
 | _ => none
def q9z : FuncId → List O → Option (Prop × O) := addT q9y 80 e80
def e81 : List O → Option (Prop × O)
 | [o_x, .d x_p] => match qkx o_x, qdy x_p with
   | some x, some p => some (x.source.length ≤ 1000000 ∧ x.target.length ≤ 1000000 ∧ x.wire.length ≤ 1000000 ∧ (p.kind ≠ 1 → p.number = x.target.length + 1 → x.target.length < x.source.length), .d (qbb (qlu x p)))
   | _, _ => none
 | _ => none
def q90 : FuncId → List O → Option (Prop × O) := addT q9z 81 e81
def e79 : List O → Option (Prop × O)
 | [o_x, .d x_entry] => match qkx o_x, q0v x_entry with
   | some x, some entry => some (x.source.length ≤ 1000000 ∧ x.target.length ≤ 1000000 ∧ x.wire.length ≤ 1000000 ∧ (x.acked ≠ x.source.length → 0 < x.source.length), .tup [.d (qbb (qh9 x entry).1), .d (.i .i64 (qh9 x entry).2)])
   | _, _ => none
 | _ => none
def q91 : FuncId → List O → Option (Prop × O) := addT q90 79 e79
def e51 : List O → Option (Prop × O)
 | [.d x_x, .d x_a] => match qcg x_x, qe9 x_a with
   | some x, some a => some (goodR x, .tup [.d (qbb (actR x a).1), .d (.i .i64 (actR x a).2)])
   | _, _ => none
 | _ => none
def q92 : FuncId → List O → Option (Prop × O) := addT q91 51 e51
def e50d : List O → Option (Prop × O)
 | [.d x_x] => match qcg x_x with
   | some x => some (x.source.length ≤ 1000000 ∧ x.target.length ≤ 1000000 ∧ x.wire.length ≤ 1000000, .d (qbb x))
   | _ => none
 | _ => none
def q3z : FuncId → List O → Option (Prop × O) := addT q92 50 e50d
def e22 : List O → Option (Prop × O)
 | [.d x_x, .d x_l] => match qcg x_x, decL 10 qe9 x_l with
   | some x, some l => some (x.source.length ≤ 1000000 ∧ x.target.length ≤ 1000000 ∧ x.wire.length ≤ 1000000 ∧ l.length ≤ 1000000, .tup [.d (qbb (runR x l).1), .d (.i .i64 (runR x l).2.1), .d (.i .i64 (runR x l).2.2)])
   | _, _ => none
 | _ => none
def q93 : FuncId → List O → Option (Prop × O) := addT q3z 22 e22
def e11d : List O → Option (Prop × O)
 | [.d x_x] => match qcg x_x with
   | some x => some (x.source.length ≤ 1000000 ∧ x.target.length ≤ 1000000 ∧ x.wire.length ≤ 1000000, .d (qbb x))
   | _ => none
 | _ => none
def q30 : FuncId → List O → Option (Prop × O) := addT q93 11 e11d
def e6 : List O → Option (Prop × O)
 | [] => some (True, .d (.b true))
 | _ => none
def tab6 : FuncId → List O → Option (Prop × O) := addT q30 6 e6
end
end Go.Ev
namespace Go.Ev
noncomputable section
open Go.Proofs Ty
set_option maxRecDepth 10000
set_option maxHeartbeats 4000000
def e46o : List O → Option (Prop × O)
 | [.d x_ts, .d x_cs] => match decL 6 q0y x_ts, decL 5 q0x x_cs with
   | some ts, some cs => some (okTs ts ∧ cs.length ≤ 1000000, .tup [.own 69 6 ((qc4 ts cs).1.map q0c), .d (.i .i64 (qc4 ts cs).2.1), .d (.i .i64 (qc4 ts cs).2.2)])
   | _, _ => none
 | _ => none
def q31 : FuncId → List O → Option (Prop × O) := addT tab6 46 e46o
def e27o : List O → Option (Prop × O)
 | [.d x_ts, .d x_l, .d (.i .i64 n)] => match decL 6 q0y x_ts, decL 8 q0v x_l with
   | some ts, some l => some (okTs ts ∧ l.length ≤ 1000000, .tup [.own 69 6 ((qfb ts l n).1.map q0c), .d (.i .i64 (qfb ts l n).2.1), .d (.i .i64 (qfb ts l n).2.2)])
   | _, _ => none
 | _ => none
def q32 : FuncId → List O → Option (Prop × O) := addT q31 27 e27o
def e29 : List O → Option (Prop × O)
 | [.d x_t, .d x_y] => match q0y x_t, qz5 q0v x_y with
   | some t, some y => some (True, .d (.b (decide (t.file.name = y.change.file))))
   | _, _ => none
 | _ => none
def q94 : FuncId → List O → Option (Prop × O) := addT q32 29 e29
def e28y : List O → Option (Prop × O)
 | [.d x_l, .d (.fn 29 [x_y])] => match decL 6 q0y x_l, qz5 q0v x_y with
   | some l, some y => some (l.length ≤ 1000000, .d (.i .i64 (qbg l y.change.file)))
   | _, _ => none
 | _ => none
def q33 : FuncId → List O → Option (Prop × O) := addT q94 28 e28y
def e10 : List O → Option (Prop × O)
 | [.d x_x, .d x_ts, .d x_l] => match qcg x_x, decL 6 q0y x_ts, decL 8 q0v x_l with
   | some x, some ts, some l => some (x.source.length ≤ 1000000 ∧ x.target.length ≤ 1000000 ∧ x.wire.length ≤ 1000000 ∧ okTs ts ∧ l.length ≤ 1000000, .tup [.d (.sl 6 ((qfc x ts l).1.map q0c)), .d (.i .i64 (qfc x ts l).2)])
   | _, _, _ => none
 | _ => none
def q95 : FuncId → List O → Option (Prop × O) := addT q33 10 e10
def e14 : List O → Option (Prop × O)
 | [.d x_x, .d x_ts, .d x_l] => match qcg x_x, decL 6 q0y x_ts, decL 8 q0v x_l with
   | some x, some ts, some l => some (x.source.length ≤ 1000000 ∧ x.target.length ≤ 1000000 ∧ x.wire.length ≤ 1000000 ∧ okTs ts ∧ l.length ≤ 1000000, .d (.agg [.sl 6 ((qfc x ts l).1.map q0c), .sl 8 [], .i .i64 (qfc x ts l).2]))
   | _, _, _ => none
 | _ => none
def q96 : FuncId → List O → Option (Prop × O) := addT q95 14 e14
def e41 : List O → Option (Prop × O)
 | [.d x_y, .bx 22 [.own 52 8 x_l]] => match q0v x_y, decM q0v x_l with
   | some y, some l => some (l.length ≤ 1000000, .tup [.bx 22 [.own 52 8 ((addE l y).map q0h)]])
   | _, _ => none
 | _ => none
def q97 : FuncId → List O → Option (Prop × O) := addT q96 41 e41
def e16 : List O → Option (Prop × O)
 | [.d x_x, .d x_ts] => match qcg x_x, decL 6 q0y x_ts with
   | some x, some ts => some (x.source.length ≤ 1000000 ∧ x.target.length ≤ 1000000 ∧ x.wire.length ≤ 1000000 ∧ okTs ts, .tup [.d (.sl 6 ((qes x ts).1.map q0c)), .d (.sl 8 ((qes x ts).2.1.map q0h)), .d (.i .i64 (qes x ts).2.2)])
   | _, _ => none
 | _ => none
def q98 : FuncId → List O → Option (Prop × O) := addT q97 16 e16
def e44 : List O → Option (Prop × O)
 | [.d x_l] => match decL 8 q0v x_l with
   | some l => some (l.length ≤ 100, .d (.sl 8 ((qgq l (qbw l)).map q0h)))
   | _ => none
 | _ => none
def q99 : FuncId → List O → Option (Prop × O) := addT q98 44 e44
def e17 : List O → Option (Prop × O)
 | [.d x_x, .d x_ts] => match qcg x_x, decL 6 q0y x_ts with
   | some x, some ts => some (x.source.length ≤ 1000000 ∧ x.target.length ≤ 1000000 ∧ x.wire.length ≤ 1000000 ∧ okTs ts, .d (.agg [.sl 6 ((qes x ts).1.map q0c), .sl 8 ((qes x ts).2.1.map q0h), .i .i64 (qes x ts).2.2]))
   | _, _ => none
 | _ => none
def qbaa : FuncId → List O → Option (Prop × O) := addT q99 17 e17
def e3 : List O → Option (Prop × O)
 | [.d x_x, .d x_ts, .d x_l] => match qcg x_x, decL 6 q0y x_ts, decL 8 q0v x_l with
   | some x, some ts, some l => some (True, .d (.b true))
   | _, _, _ => none
 | _ => none
def tab3 : FuncId → List O → Option (Prop × O) := addT qbaa 3 e3
def e4 : List O → Option (Prop × O)
 | [.d x_x, .d x_ts] => match qcg x_x, decL 6 q0y x_ts with
   | some x, some ts => some (True, .d (.b true))
   | _, _ => none
 | _ => none
def tab4 : FuncId → List O → Option (Prop × O) := addT tab3 4 e4
end
end Go.Ev
namespace Go.Ev
def qw3 (l : List Entry) : Prop := ∀ j, j < l.length → (l.getD j q0i).number = (j : Int) + 1
theorem qpj {l : List Entry} {e : Entry} {j : Nat} (h : j < l.length) : (l ++ [e]).getD j q0i = l.getD j q0i := by
 simp [List.getD, List.getElem?_append_left h]
theorem qzk {l : List Entry} {e : Entry} : (l ++ [e]).getD l.length q0i = e := by simp [List.getD]
theorem qbab {l : List Entry} {e : Entry} (h : (qbv l).2 = 0) (hl : l.length < 80) (hn : qw3 l) (h1 : qde e = 0) (h2 : e.number = (l.length : Int) + 1) (h3 : qez l e = 0) : (qbv (l ++ [e])).2 = 0 ∧ qw3 (l ++ [e]) := by
 have hlen : (l ++ [e]).length = l.length + 1 := by simp
 refine ⟨?_, fun j hj => ?_⟩
 ·unfold qbv
  rw [if_neg (by omega)]
  refine qso _ _ fun j _ hj => ?_
  rw [hlen] at hj
  by_cases q : j < l.length
  ·have c := qg5 h q
   unfold chk at c ⊢
   rw [qpj q, qpj (show ((j : Int) - 1).toNat < l.length by omega), List.take_append_of_le_length (by omega)]
   exact c
  ·obtain rfl : j = l.length := by omega
   unfold chk
   rw [qzk, List.take_left']
   ·refine ⟨h1, fun ⟨q1, q2⟩ => q2 ?_, h3⟩
    rw [qpj (by omega), hn _ (by omega), w64 (by omega) (by omega), h2]
    omega
   ·rfl
 ·rw [hlen] at hj
  by_cases q : j < l.length
  ·rw [qpj q]; exact hn j q
  ·obtain rfl : j = l.length := by omega
   rw [qzk, h2]
def q34 (y : Entry) : Prop := (y.kind = 0 ∨ y.kind = 3) ∧ ∀ n : Int, 1 ≤ n → n ≤ 9999 → qde ⟨n, y.kind, y.unit, y.change⟩ = 0
theorem qbcp {b : List Entry} {e : Entry} {u : Int} (h : isOpen b u = true) (he : ¬((e.kind = 2 ∨ e.kind = 3) ∧ e.unit = u)) : isOpen (b ++ [e]) u = true := by
 obtain ⟨h1, h2⟩ := qj0.1 h
 refine qj0.2 ⟨by rw [qt7, h1]; rfl, (qyu b e u).2 ⟨h2, ?_⟩⟩
 unfold pEnd
 rw [← Bool.not_eq_true]
 simp only [Bool.and_eq_true, Bool.or_eq_true, beq_iff_eq]
 exact he
theorem qzl : ∀ (ys : List Entry) (out : List Entry), (qbv out).2 = 0 → qw3 out → (∀ y ∈ ys, q34 y) → out.length + ys.length ≤ 80 → (∀ y ∈ ys, isOpen out y.unit = true) → ys.Pairwise (fun a b => a.kind = 3 → a.unit ≠ b.unit) → (qbv (ys.foldl addE out)).2 = 0
 | [], out, h, _, _, _, _, _ => h
 | y :: ys, out, h, hn, hy, hl, ho, hp => by
   rw [List.foldl_cons]
   obtain ⟨p1, p2⟩ := List.pairwise_cons.1 hp
   rw [List.length_cons] at hl
   have hy1 := hy y (List.mem_cons_self ..)
   have ho1 := ho y (List.mem_cons_self ..)
   have hs := qbab (e := ⟨(out.length : Int) + 1, y.kind, y.unit, y.change⟩) h (by omega) hn (hy1.2 _ (by omega) (by omega)) rfl (by
    unfold qez
    simp only
    rcases hy1.1 with k | k
    ·rw [if_neg (by omega), if_neg (by omega), if_pos k, if_neg (by rw [ho1]; simp)]
    ·rw [if_neg (by omega), if_pos (.inr k), if_pos ho1])
   refine qzl ys (addE out y) hs.1 hs.2 (fun b hb => hy b (List.mem_cons_of_mem _ hb)) (by rw [qrg]; omega) (fun b hb => ?_) p2
   refine qbcp (ho b (List.mem_cons_of_mem _ hb)) ?_
   simp only
   rintro ⟨k, e⟩
   have : y.kind = 3 := by rcases hy1.1 with q | q <;> omega
   exact p1 b hb this e
theorem qbcq {u : Int} (h : 1 ≤ u ∧ u ≤ 999) : q34 ⟨0, 3, u, q08⟩ := by
 refine ⟨.inr rfl, fun n h1 h2 => ?_⟩
 simp [qde, qlt]
 omega
theorem qbcr {e : Entry} (h : qde e = 0) (hk : e.kind = 0) : q34 ⟨0, 0, e.unit, revC e.change⟩ := by
 refine ⟨.inl rfl, fun n h1 h2 => ?_⟩
 have hc := qk6 h hk
 have hkr : qea e.change.kind = 0 ∧ e.change.kind = 2 ∨ qea e.change.kind = 1 ∧ e.change.kind = 1 ∨ qea e.change.kind = 2 ∧ e.change.kind = 0 := by
  rcases hc with q | q | q <;> rw [q] <;> simp [qea]
 unfold qde at h ⊢
 simp only at h ⊢
 rw [if_neg (by omega)] at h
 split at h
 ·cases h
 rw [if_neg (by omega)] at h
 split at h
 ·cases h
 rename_i hu
 split at h
 ·cases h
 rw [if_neg (by omega)] at h
 split at h
 ·cases h
 rename_i hnm
 rw [if_neg (by omega)] at h
 have hc2 : qjs (revC e.change) = 0 := by
  unfold qjs revC at *
  simp only
  split at h
  ·cases h
  split at h
  ·cases h
  split at h
  ·cases h
  split at h
  ·cases h
  rename_i k1 k2 k3 k4
  rw [if_neg (by omega), if_neg k2, if_neg (by omega), if_neg]
  intro q
  apply k4
  rcases q with q | q
  ·right
   intro w
   apply q
   rw [w]; omega
  ·left
   intro w
   apply q
   rw [w]; omega
 rw [if_neg (by omega), if_neg (by omega), if_neg (by omega), if_neg (by omega), if_neg (by simp [qlt]), if_neg (by omega), if_neg (show ¬qcn (revC e.change).file = false from hnm), if_neg (by omega)]
 exact hc2
theorem qrh {α : Type} {a b c : α → Bool} (h1 : ∀ x, a x = true → c x = true) (h2 : ∀ x, b x = true → c x = true) (h3 : ∀ x, a x = true → b x = true → False) : ∀ l : List α, (l.filter a).length + (l.filter b).length ≤ (l.filter c).length
 | [] => by simp
 | x :: l => by
   have ih := qrh h1 h2 h3 l
   simp only [List.filter_cons]
   cases ha : a x <;> cases hb : b x
   ·cases hc : c x <;> simp <;> omega
   ·rw [h2 x hb]; simp; omega
   ·rw [h1 x ha]; simp; omega
   ·exact (h3 x ha hb).elim
def qU (u : Int) (e : Entry) : Bool := decide (e.unit = u) && (decide (e.kind = 0) || decide (e.kind = 1))
theorem qzm (T : List Entry) : ∀ us : List Int, us.Nodup → (us.flatMap fun u => T.filter (qU u)).length + (T.filter fun e => !decide (e.unit ∈ us)).length ≤ T.length
 | [], _ => by
   have := List.length_filter_le (fun e : Entry => !decide (e.unit ∈ ([] : List Int))) T
   simpa using this
 | u :: us, hn => by
   obtain ⟨n1, n2⟩ := List.nodup_cons.1 hn
   have ih := qzm T us n2
   have h := qrh (a := qU u) (b := fun e : Entry => !decide (e.unit ∈ u :: us)) (c := fun e : Entry => !decide (e.unit ∈ us)) (fun x hx => by
    simp only [qU, Bool.and_eq_true, decide_eq_true_eq] at hx
    rw [hx.1]; simp [n1]) (fun x hx => by
    simp only [Bool.not_eq_true', decide_eq_false_iff_not, List.mem_cons, not_or] at hx ⊢
    exact hx.2) (fun x hx hy => by
    simp only [qU, Bool.and_eq_true, decide_eq_true_eq] at hx
    simp [hx.1] at hy) T
   rw [List.flatMap_cons, List.length_append]
   omega
theorem qbtp {T : List Entry} {u : Int} (ho : isOpen T u = true) : (uniE T u).length ≤ (T.filter (qU u)).length := by
 have hb := (qj0.1 ho).1
 unfold begins at hb
 rw [List.any_eq_true] at hb
 obtain ⟨e, he, hp⟩ := hb
 unfold qle at hp
 simp only [Bool.and_eq_true, beq_iff_eq] at hp
 have h1 : 1 ≤ (T.filter fun e => decide (e.unit = u) && decide (e.kind = 1)).length := by
  refine List.length_pos_of_mem (a := e) (List.mem_filter.2 ⟨he, ?_⟩)
  simp [hp.1, hp.2]
 have h := qrh (a := uP u) (b := fun e : Entry => decide (e.unit = u) && decide (e.kind = 1)) (c := qU u) (fun x hx => by
  have := qqb.1 hx
  simp [qU, this.1, this.2]) (fun x hx => by
  simp only [Bool.and_eq_true, decide_eq_true_eq] at hx
  simp [qU, hx.1, hx.2]) (fun x hx hy => by
  have := qqb.1 hx
  simp only [Bool.and_eq_true, decide_eq_true_eq] at hy
  omega) T
 unfold uniE qla
 rw [List.drop_zero]
 simp
 omega
theorem q6c {T : List Entry} : ∀ us : List Int, (∀ u ∈ us, isOpen T u = true) → (us.flatMap (uniE T)).length ≤ (us.flatMap fun u => T.filter (qU u)).length
 | [], _ => by simp
 | u :: us, h => by
   rw [List.flatMap_cons, List.flatMap_cons, List.length_append, List.length_append]
   have := q6c us fun v hv => h v (List.mem_cons_of_mem _ hv)
   have := qbtp (h u (List.mem_cons_self ..))
   omega
theorem qps (l : List Entry) : (qbw l).Nodup := by
 rw [← qrb]
 unfold qf1
 refine ((qbjn 999).filter _).imp fun h => ?_
 omega
theorem qtr {T : List Entry} {u : Int} {y : Entry} (h : y ∈ uniE T u) : y.unit = u ∧ (y.kind = 3 ∧ y = ⟨0, 3, u, q08⟩ ∨ ∃ e ∈ T, uP u e = true ∧ y = ⟨0, 0, u, revC e.change⟩) := by
 unfold uniE qla at h
 rw [List.drop_zero, List.mem_append, List.mem_map, List.mem_singleton] at h
 rcases h with ⟨e, he, rfl⟩ | rfl
 ·rw [List.mem_reverse, List.mem_filter] at he
  exact ⟨rfl, .inr ⟨e, he.1, he.2, rfl⟩⟩
 ·exact ⟨rfl, .inl ⟨rfl, rfl⟩⟩
theorem qbg5 (T : List Entry) (u : Int) : (uniE T u).Pairwise fun a b => a.kind = 3 → a.unit ≠ b.unit := by
 unfold uniE
 rw [List.pairwise_append]
 refine ⟨?_, List.pairwise_singleton .., fun a ha b hb k => ?_⟩
 ·unfold qla
  rw [List.pairwise_map]
  exact List.pairwise_of_forall fun a b k => by cases k
 ·unfold qla at ha
  obtain ⟨e, _, rfl⟩ := List.mem_map.1 ha
  cases k
theorem qzn (T : List Entry) : ∀ us : List Int, us.Nodup → (us.flatMap (uniE T)).Pairwise fun a b => a.kind = 3 → a.unit ≠ b.unit
 | [], _ => by simp
 | u :: us, hn => by
   obtain ⟨n1, n2⟩ := List.nodup_cons.1 hn
   rw [List.flatMap_cons, List.pairwise_append]
   refine ⟨qbg5 T u, qzn T us n2, fun a ha b hb k e => ?_⟩
   obtain ⟨v, hv, hb⟩ := List.mem_flatMap.1 hb
   rw [(qtr ha).1, (qtr hb).1] at e
   subst e
   exact n1 hv
theorem qbac {T : List Entry} (h : (qbv T).2 = 0) (hn : qw3 T) (hl : T.length ≤ 40) : (qbv (qgq T (qbw T))).2 = 0 := by
 have ho : ∀ u ∈ qbw T, isOpen T u = true := fun u hu => (ql9 h).1 hu
 refine qzl _ T h hn (fun y hy => ?_) ?_ (fun y hy => ?_) (qzn T _ (qps T))
 ·obtain ⟨u, hu, hy⟩ := List.mem_flatMap.1 hy
  have hb := qrq h (ho u hu)
  rcases (qtr hy).2 with ⟨_, rfl⟩ | ⟨e, he, hp, rfl⟩
  ·exact qbcq hb
  ·obtain ⟨k1, k2⟩ := qqb.1 hp
   obtain ⟨j, hj, rfl⟩ := List.getElem_of_mem he
   have hc := (qg5 h hj).1
   simp only [List.getD, List.getElem?_eq_getElem hj, Option.getD_some] at hc
   have := qbcr hc k1
   rw [k2] at this
   exact this
 ·have h1 := qzm T (qbw T) (qps T)
  have h2 := q6c (qbw T) ho
  omega
 ·obtain ⟨u, hu, hy⟩ := List.mem_flatMap.1 hy
  rw [(qtr hy).1]
  exact ho u hu
theorem qsz : ∀ (ys out : List Entry), ∃ r, ys.foldl addE out = out ++ r ∧ r.map (fun y => (y.kind, y.change)) = ys.map (fun y => (y.kind, y.change))
 | [], out => ⟨[], by simp, rfl⟩
 | y :: ys, out => by
   obtain ⟨r, h1, h2⟩ := qsz ys (addE out y)
   refine ⟨⟨(out.length : Int) + 1, y.kind, y.unit, y.change⟩ :: r, ?_, ?_⟩
   ·rw [List.foldl_cons, h1]
    unfold addE
    simp
   ·rw [List.map_cons, List.map_cons, h2]
end Go.Ev
namespace Go.Ev
theorem qbn7 {t u : Table} {c : Change} (h : ChgOk t c) (hf : u.file = t.file) (hu : RightT u) (hp : pl u c.rrn = some (qdo c)) : ChgOk u (rv c) := by
 have hlo := h.lo
 have hul : c.rrn ≤ (u.records.length : Int) ∧ u.records.getD (c.rrn - 1).toNat zRec = qdo c := by
  unfold pl at hp
  split at hp
  ·rename_i q; exact ⟨q.2, Option.some.inj hp⟩
  ·cases hp
 obtain ⟨hle, hat⟩ := hul
 have hkr : c.kind = 0 ∧ qea c.kind = 2 ∨ c.kind = 1 ∧ qea c.kind = 1 ∨ c.kind = 2 ∧ qea c.kind = 0 := by
  rcases h.kind with e | e | e <;> rw [e] <;> simp [qea]
 have hk2 : qea c.kind = 2 ↔ c.kind = 0 := by omega
 have hk0 : qea c.kind = 0 ↔ c.kind = 2 := by omega
 rw [qwk h.kind]
 have hu60 := hu.len
 refine ⟨hu, by rw [hf]; exact h.file, by simp only; omega, hlo, fun e => h.form2 (hk0.1 e), fun e => h.form0 (hk2.1 e), fun e => ⟨by simp only; omega, by simp only; omega, fun _ => ?_⟩, fun e => ⟨by simp only; omega, ?_, ?_⟩, fun e => ?_⟩
 ·show (u.records.getD (c.rrn - 1).toNat zRec).deleted = true
  rw [hat]; simp [qdo, hk0.1 e]
 ·show (u.records.getD (c.rrn - 1).toNat zRec).deleted = false
  have : ¬c.kind = 2 := fun q => e (hk0.2 q)
  rw [hat]; simp [qdo, this]
 ·show (u.records.getD (c.rrn - 1).toNat zRec).bytes = c.after
  rw [hat]; rfl
 ·have k0 : c.kind ≠ 0 := fun q => e (hk2.2 q)
  obtain ⟨u1, u2, u3⟩ := h.upd k0
  have hg := h.right.recs (c.rrn - 1).toNat (by omega)
  unfold recR at hg
  unfold qkj at u2 u3
  rw [if_neg (by rw [u2]; decide), u3] at hg
  rw [hf]; exact hg
theorem qbtq {a b : Table} (h : extT a b) (r : Int) : pl b r = pl a r ∨ (pl a r = none ∧ pl b r = some delR) := by
 obtain ⟨_, k, hr⟩ := h
 have hl : b.records.length = a.records.length + k := by rw [hr]; simp
 unfold pl
 by_cases q : 1 ≤ r ∧ r ≤ (a.records.length : Int)
 ·left
  rw [if_pos q, if_pos (by omega), hr]
  congr 1
  simp only [List.getD]
  rw [List.getElem?_append_left (show (r - 1).toNat < a.records.length by omega)]
 ·rw [if_neg q]
  by_cases q2 : 1 ≤ r ∧ r ≤ (b.records.length : Int)
  ·right
   rw [if_pos q2, hr]
   refine ⟨rfl, ?_⟩
   congr 1
   have h1 : a.records.length ≤ (r - 1).toNat := by omega
   have h2 : (r - 1).toNat - a.records.length < k := by omega
   simp only [List.getD]
   rw [List.getElem?_append_right h1, List.getElem?_replicate, if_pos h2]
   rfl
  ·left; rw [if_neg q2]
def Near (ts : List Table) (a b : List Table) : Prop := ∀ f, 0 ≤ qbg ts f → ∀ r, pl (qgy b ts f) r = pl (qgy a ts f) r ∨ (pl (qgy a ts f) r = none ∧ pl (qgy b ts f) r = some delR)
theorem qbg6 {ts a b : List Table} (h : extL a b) (hl : a.length = ts.length) : Near ts a b := fun f hf r => by
 have := qhe ts f
 exact qbtq (h.2 (qbg ts f).toNat (by omega)) r
theorem qip (cs : List Change) (f : ByteArray) (r : Int) : qk9 cs f r = (cs.filter (atP f r)).getLast? := rfl
theorem q35 {cs : List Change} {f : ByteArray} {r : Int} (h : ∀ x ∈ cs, ¬atP f r x = true) : cs.filter (atP f r) = [] := List.filter_eq_nil_iff.2 h
theorem qbg7 {ts : List Table} {A U : List Change} {V : List Table × Int} (hk : ∀ c ∈ A, c.kind = 0 ∨ c.kind = 1 ∨ c.kind = 2) (hA : qgw (ts, 0) A) (hT : TabsR ts) (hV : TabsR V.1) (hf : V.1.map (·.file) = ts.map (·.file))
 (hn : Near ts (A.foldl qcc (ts, 0)).1 V.1) (hU : ∀ f r, ∃ w o, A.filter (atP f r) = w ++ o ∧ U.filter (atP f r) = (o.map rv).reverse) : qgw V U := by
 have key : ∀ k, k ≤ U.length → qgw V (U.take k) := by
  intro k
  induction k with
  | zero => intro _; rw [List.take_zero]; exact qkv
  | succ k ih =>
    intro hk1
    have ih := ih (by omega)
    rw [qdx q08 (by omega)]
    refine qgc.2 ⟨ih, qgx.2 ⟨?_, qkv⟩⟩
    have hU1 : U = U.take k ++ U.getD k q08 :: U.drop (k + 1) := by
     conv => lhs; rw [← List.take_append_drop k U, qd2 q08 (by omega)]
    generalize U.getD k q08 = c at *
    have hsr := qpd hV ih
    have hsf : ((U.take k).foldl qcc V).1.map (·.file) = ts.map (·.file) := by rw [qi4, hf]
    have hfind : qbg ((U.take k).foldl qcc V).1 c.file = qbg ts c.file := qjb hsf _
    unfold cond
    rw [hfind]
    by_cases hneg : qbg ts c.file < 0
    ·rw [if_pos hneg]
    rw [if_neg hneg]
    have hpos : 0 ≤ qbg ts c.file := by omega
    obtain ⟨w, o, e1, e2⟩ := hU c.file c.rrn
    have hcc : atP c.file c.rrn c = true := qma.2 ⟨rfl, rfl⟩
    rw [hU1, List.filter_append, List.filter_cons, if_pos hcc] at e2
    have e3 := congrArg List.reverse e2
    rw [List.reverse_append, List.reverse_cons, List.reverse_reverse, List.append_assoc, List.singleton_append] at e3
    obtain ⟨X1, X2, rfl, g1, g2⟩ := List.map_eq_append_iff.1 e3.symm
    obtain ⟨c', X3, rfl, g3, g4⟩ := List.map_eq_cons_iff.1 g2
    rw [← List.append_assoc] at e1
    obtain ⟨B1, B2, rfl, b1, b2⟩ := List.filter_eq_append_iff.1 e1
    obtain ⟨D1, D2, rfl, d1, d2, d3⟩ := List.filter_eq_cons_iff.1 b2
    have hat := qma.1 d2
    have hcnd := qgc.1 hA
    have hcn2 := qgc.1 hcnd.2
    have hcc' := (qgx.1 hcn2.2).1
    have hpre : qgw (ts, 0) (B1 ++ D1) := qgc.2 ⟨hcnd.1, hcn2.1⟩
    have hst : ((B1 ++ D1).foldl qcc (ts, 0)) = D1.foldl qcc (B1.foldl qcc (ts, 0)) := List.foldl_append ..
    rw [← hst] at hcc'
    unfold cond at hcc'
    rw [qux, hat.1] at hcc'
    simp only at hcc'
    rw [if_neg hneg] at hcc'
    have hck := qmy hcc'
    have hk' := hk c' (by simp)
    have hfile : (((U.take k).foldl qcc V).1.getD (qbg ts c.file).toNat q0z).file = (((B1 ++ D1).foldl qcc (ts, 0)).1.getD (qbg ts c.file).toNat q0z).file := by
     rw [ql8, ql8, hsf, qi4]
    have hlt := qhe ts c.file
    have hlen : ((U.take k).foldl qcc V).1.length = ts.length := by have := congrArg List.length hsf; simpa using this
    have hgoal : qc7 (((U.take k).foldl qcc V).1.getD (qbg ts c.file).toNat q0z) (rv c') = 0 := ?_
    ·rw [g3] at hgoal; exact hgoal
    refine q2h (qbn7 hck hfile (hsr.right _ (by omega)) ?_)
    rw [hat.2]
    have hcur := qov hpos c.rrn (U.take k) V hf ih
    unfold qgy at hcur
    rw [hcur, qip]
    have hrev : (U.take k).filter (atP c.file c.rrn) = (X3.map rv).reverse := by rw [g4, List.reverse_reverse]
    rw [hrev, List.getLast?_reverse]
    cases X3 with
    | nil =>
      have hs1 := qov hpos c.rrn _ (ts, 0) rfl hA
      rw [qip, e1] at hs1
      rw [List.getLast?_append] at hs1
      simp only [List.getLast?_singleton, Option.map_some, Option.some_or] at hs1
      rcases hn c.file hpos c.rrn with q | q
      ·rw [hs1] at q; exact q
      ·rw [hs1] at q; cases q.1
    | cons y X4 =>
      simp only [List.map_cons, List.head?_cons, Option.map_some, Option.some_or]
      obtain ⟨F1, F2, rfl, f1, f2, f3⟩ := List.filter_eq_cons_iff.1 d3
      have haty := qma.1 f2
      have e5 : B1 ++ (D1 ++ c' :: (F1 ++ y :: F2)) = (B1 ++ D1 ++ c' :: F1) ++ (y :: F2) := by simp
      rw [e5] at hA
      have hA2 := qgc.1 hA
      have hcy := (qgx.1 hA2.2).1
      unfold cond at hcy
      rw [qux, haty.1] at hcy
      simp only at hcy
      rw [if_neg hneg] at hcy
      have hfo := qw1 (qmy hcy)
      rw [haty.2] at hfo
      have hst2 := qov hpos c.rrn _ (ts, 0) rfl hA2.1
      have hl2 : qk9 (B1 ++ D1 ++ c' :: F1) c.file c.rrn = some c' := by
       rw [qip, List.filter_append, List.filter_cons, if_pos d2, q35 f1, List.getLast?_append]
       rfl
      rw [hl2] at hst2
      simp only [Option.map_some, Option.some_or] at hst2
      unfold qgy at hst2
      rw [hst2] at hfo
      rcases hfo with q | q
      ·exact q.symm
      ·cases q.1
 have := key U.length (Nat.le_refl _)
 rwa [List.take_length] at this
theorem qbad {ts : List Table} {A U : List Change} {V : List Table × Int} (hA : qgw (ts, 0) A) (hf : V.1.map (·.file) = ts.map (·.file)) (hn : Near ts (A.foldl qcc (ts, 0)).1 V.1) (hR : qgw V U) {f : ByteArray} (hpos : 0 ≤ qbg ts f) (r : Int)
 {w o : List Change} (e1 : A.filter (atP f r) = w ++ o) (e2 : U.filter (atP f r) = (o.map rv).reverse) :
 pl (qgy (U.foldl qcc V).1 ts f) r = (w.getLast?.map qdo).or (pl (qgy ts ts f) r) ∨ ((w.getLast?.map qdo).or (pl (qgy ts ts f) r) = none ∧ pl (qgy (U.foldl qcc V).1 ts f) r = some delR) := by
 rw [qov hpos r U V hf hR, qip, e2, List.getLast?_reverse]
 cases o with
 | nil =>
   have hs1 := qov hpos r A (ts, 0) rfl hA
   rw [qip, e1, List.append_nil] at hs1
   have := hn f hpos r
   rw [hs1] at this
   simpa using this
 | cons c o =>
   simp only [List.map_cons, List.head?_cons, Option.map_some, Option.some_or]
   obtain ⟨B1, B2, rfl, b1, b2⟩ := List.filter_eq_append_iff.1 e1
   obtain ⟨D1, D2, rfl, d1, d2, d3⟩ := List.filter_eq_cons_iff.1 b2
   have hat := qma.1 d2
   have e5 : B1 ++ (D1 ++ c :: D2) = (B1 ++ D1) ++ c :: D2 := by simp
   rw [e5] at hA
   have hA2 := qgc.1 hA
   have hcy := (qgx.1 hA2.2).1
   unfold cond at hcy
   rw [qux, hat.1] at hcy
   simp only at hcy
   rw [if_neg (by omega)] at hcy
   have hfo := qw1 (qmy hcy)
   rw [hat.2] at hfo
   have hst2 := qov hpos r _ (ts, 0) rfl hA2.1
   rw [qip, List.filter_append, q35 d1, List.append_nil, b1] at hst2
   unfold qgy at hst2
   rw [hst2] at hfo
   rcases hfo with q | ⟨q1, q2⟩
   ·left; exact q.symm
   ·right; exact ⟨q1, by rw [q2]⟩
def qw4 (l : List Entry) (x : Entry) : Bool := decide (x.kind = 0) && isOpen l x.unit
def crsO (l : List Entry) (i : Nat) : Int := if qw4 l (l.getD i q0i) = true ∧ ((List.range l.length).any fun k => decide (i < k) && hitC (l.getD i q0i) (l.getD k q0i)) = true then 1 else 0
def qhz (l : List Entry) : Bool := (qcf (crsO l) l.length).isSome
theorem qri {l : List Entry} {x : Entry} : qw4 l x = true ↔ x.kind = 0 ∧ isOpen l x.unit = true := by simp [qw4]
theorem qbn8 {l : List Entry} {i : Nat} (h : ¬(l.getD i q0i).kind = 0 ∨ isOpen l (l.getD i q0i).unit = false) : crsO l i = 0 := by
 unfold crsO
 rw [if_neg]
 rintro ⟨q, _⟩
 obtain ⟨q1, q2⟩ := qri.1 q
 rcases h with h | h
 ·exact h q1
 ·rw [h] at q2; cases q2
theorem qbn9 {l : List Entry} {i k : Nat} (h : ∀ m, i < m → m < k → hitC (l.getD i q0i) (l.getD m q0i) = false) (hk : l.length ≤ k) : crsO l i = 0 := by
 unfold crsO
 rw [if_neg]
 rintro ⟨_, q⟩
 obtain ⟨m, h1, h2, h3⟩ := quz.1 q
 rw [h m h1 (by omega)] at h3
 cases h3
theorem qbtr {l : List Entry} {i k : Nat} (h0 : ∀ j, j < i → crsO l j = 0) (hi : i < l.length) (h : ¬(¬(l.getD i q0i).kind = 0 ∨ isOpen l (l.getD i q0i).unit = false)) (hk : i < k) (hk2 : k < l.length) (hh : hitC (l.getD i q0i) (l.getD k q0i) = true) : qhz l = true := by
 have hs : qw4 l (l.getD i q0i) = true := qri.2 ⟨Decidable.byContradiction fun e => h (Or.inl e), by rw [← Bool.not_eq_false]; exact fun e => h (Or.inr e)⟩
 unfold qhz
 rw [qeu h0 hi (by unfold crsO; rw [if_pos ⟨hs, quz.2 ⟨k, hk, hk2, hh⟩⟩]; decide)]
 rfl
theorem qbts {l : List Entry} {i : Nat} (h : ∀ j, j < i → crsO l j = 0) (hi : l.length ≤ i) : qhz l = false := by
 unfold qhz
 rw [qev fun j hj => h j (by omega)]
 rfl
theorem qbtt {l : List Entry} (hc : qhz l = false) :
 (l.filter fun x => decide (x.kind = 0)).Pairwise fun x y => oP l x = true → x.change.file = y.change.file → x.change.rrn = y.change.rrn → y.unit = x.unit := by
 have key : l.Pairwise fun x y => x.kind = 0 → y.kind = 0 → oP l x = true → x.change.file = y.change.file → x.change.rrn = y.change.rrn → y.unit = x.unit := by
  rw [List.pairwise_iff_getElem]
  intro i j hi hj hij k1 k2 ho hf hr
  have gi : l.getD i q0i = l[i] := by simp [List.getD, List.getElem?_eq_getElem hi]
  have gj : l.getD j q0i = l[j] := by simp [List.getD, List.getElem?_eq_getElem hj]
  refine Decidable.byContradiction fun e => ?_
  have hs : ∀ j, j < l.length → crsO l j = 0 := by
   unfold qhz at hc
   cases hb : qcf (crsO l) l.length with
   | some k => rw [hb] at hc; cases hc
   | none => exact qjo hb
  have := hs i hi
  unfold crsO at this
  rw [if_pos] at this
  ·cases this
  ·refine ⟨?_, quz.2 ⟨j, hij, hj, ?_⟩⟩
   ·rw [gi]; exact qri.2 ⟨k1, ho⟩
   ·rw [gi, gj]; exact qu0.2 ⟨k2, e, hf.symm, hr.symm⟩
 refine (key.filter _).imp_of_mem fun {x y} hx hy q => ?_
 exact q (by simpa using (List.mem_filter.1 hx).2) (by simpa using (List.mem_filter.1 hy).2)
def fwdK (l : List (Int × Change)) : List Change := (l.filter fun x => decide (x.1 = 0)).map (·.2)
theorem qzo (l : List Entry) : fwdC l = fwdK (l.map fun y => (y.kind, y.change)) := by
 unfold fwdC fwdK
 rw [List.filter_map, List.map_map]
 rfl
theorem qx3 (a b : List Entry) : fwdC (a ++ b) = fwdC a ++ fwdC b := by unfold fwdC; rw [List.filter_append, List.map_append]
def qlr (T : List Entry) (u : Int) : List Change := ((T.filter (uP u)).map fun e => rv e.change).reverse
theorem qboa {T : List Entry} (h : (qbv T).2 = 0) (u : Int) : fwdC (uniE T u) = qlr T u := by
 unfold uniE
 rw [qx3]
 have e1 : fwdC [⟨0, 3, u, q08⟩] = [] := rfl
 have e2 : fwdC (qla T u 0) = ((T.filter (uP u)).map fun e => revC e.change).reverse := by
  unfold fwdC qla
  rw [List.drop_zero, List.filter_eq_self.2 (fun y hy => by obtain ⟨e, _, rfl⟩ := List.mem_map.1 hy; rfl), List.map_map, ← List.map_reverse]
  rfl
 rw [e1, e2, List.append_nil]
 unfold qlr
 congr 1
 apply List.map_congr_left
 intro e he
 obtain ⟨m1, m2⟩ := List.mem_filter.1 he
 obtain ⟨j, hj, rfl⟩ := List.getElem_of_mem m1
 have hc := (qg5 h hj).1
 simp only [List.getD, List.getElem?_eq_getElem hj, Option.getD_some] at hc
 exact (qtp (qk6 hc (qqb.1 m2).1)).symm
theorem qbg8 {T : List Entry} (h : (qbv T).2 = 0) (us : List Int) : fwdC ((qgq T us).drop T.length) = us.flatMap (qlr T) := by
 obtain ⟨r, h1, h2⟩ := qsz (us.flatMap (uniE T)) T
 have : qgq T us = T ++ r := h1
 rw [this, List.drop_left', qzo, h2, ← qzo]
 ·clear this h1 h2
  induction us with
  | nil => rfl
  | cons u us ih => rw [List.flatMap_cons, List.flatMap_cons, qx3, qboa h, ih]
 ·rfl
theorem qud {α : Type} (p q : α → Bool) (l : List α) : (l.filter p).filter q = (l.filter q).filter p := by
 rw [List.filter_filter, List.filter_filter]
 apply List.filter_congr
 intro x _
 exact Bool.and_comm _ _
theorem q47 {α β : Type} [DecidableEq α] {us : List α} {u0 : α} {g : α → List β} (hn : us.Nodup) (hu : u0 ∈ us) (hg : ∀ u ∈ us, u ≠ u0 → g u = []) : us.flatMap g = g u0 := by
 induction us with
 | nil => cases hu
 | cons u us ih =>
   obtain ⟨n1, n2⟩ := List.nodup_cons.1 hn
   rw [List.flatMap_cons]
   by_cases e : u = u0
   ·subst e
    have : us.flatMap g = [] := List.flatMap_eq_nil_iff.2 fun v hv => hg v (List.mem_cons_of_mem _ hv) fun q => n1 (q ▸ hv)
    rw [this, List.append_nil]
   ·rw [hg u (List.mem_cons_self ..) e, List.nil_append]
    exact ih n2 ((List.mem_cons.1 hu).resolve_left fun q => e q.symm) fun v hv => hg v (List.mem_cons_of_mem _ hv)
theorem que {T : List Entry} (h : (qbv T).2 = 0) (hc : qhz T = false) (f : ByteArray) (r : Int) :
 ∃ w o : List Change, (fwdC T).filter (atP f r) = w ++ o ∧ ((qbw T).flatMap (qlr T)).filter (atP f r) = (o.map rv).reverse ∧ (((T.filter fun x => decide (x.kind = 0)).filter fun x => !oP T x).map (·.change)).filter (atP f r) = w := by
 have hP := qbtt hc
 have hk : ∀ e ∈ T.filter (fun x => decide (x.kind = 0)), e.change.kind = 0 ∨ e.change.kind = 1 ∨ e.change.kind = 2 := fun x hx =>
  q2i h (p := fun x => decide (x.kind = 0)) (fun x hx => by simpa using hx) x.change (List.mem_map.2 ⟨x, hx, rfl⟩)
 have hmem : ∀ e ∈ T.filter (fun x => decide (x.kind = 0)), oP T e = true → e.unit ∈ qbw T := fun e _ q => (ql9 h).2 q
 have hu : ∀ u, (qlr T u).filter (atP f r) = (((((T.filter fun x => decide (x.kind = 0)).filter (qnn f r)).filter fun e => decide (e.unit = u)).map (·.change)).map rv).reverse := fun u => by
  have e : T.filter (uP u) = (T.filter fun x => decide (x.kind = 0)).filter fun e => decide (e.unit = u) := by
   rw [List.filter_filter]
   apply List.filter_congr
   intro x _
   exact Bool.and_comm _ _
  unfold qlr
  rw [List.filter_reverse]
  congr 1
  have e2 : (T.filter (uP u)).map (fun e => rv e.change) = ((T.filter (uP u)).map (·.change)).map rv := by rw [List.map_map]; rfl
  rw [e2, qbci (fun c hc => by
   obtain ⟨x, hx, rfl⟩ := List.mem_map.1 hc
   rw [e] at hx
   exact hk x (List.mem_filter.1 hx).1), quy, e, qud]
 have hl : (((qbw T).flatMap (qlr T)).filter (atP f r)) = (qbw T).flatMap fun u => (qlr T u).filter (atP f r) := List.filter_flatMap ..
 have hw : (fwdC T).filter (atP f r) = ((T.filter fun x => decide (x.kind = 0)).filter (qnn f r)).map (·.change) := quy _ f r
 have hwh : (((T.filter fun x => decide (x.kind = 0)).filter fun x => !oP T x).map (·.change)).filter (atP f r) = (((T.filter fun x => decide (x.kind = 0)).filter (qnn f r)).filter fun x => !oP T x).map (·.change) := by
  rw [quy, qud]
 rw [hl, hw, hwh]
 simp only [hu]
 have hPE : ((T.filter fun x => decide (x.kind = 0)).filter (qnn f r)).Pairwise fun x y => oP T x = true → y.unit = x.unit :=
  (hP.filter (qnn f r)).imp_of_mem fun {x y} hx hy q ho => by
    have h1 := qma.1 (List.mem_filter.1 hx).2
    have h2 := qma.1 (List.mem_filter.1 hy).2
    exact q ho (h1.1.trans h2.1.symm) (h1.2.trans h2.2.symm)
 have hmem2 : ∀ e ∈ (T.filter fun x => decide (x.kind = 0)).filter (qnn f r), oP T e = true → e.unit ∈ qbw T := fun e he => hmem e (List.mem_filter.1 he).1
 generalize ((T.filter fun x => decide (x.kind = 0)).filter (qnn f r)) = E at *
 obtain ⟨w, o, e, hw1, ho1⟩ := qw0 (p := oP T) E (hPE.imp fun {x y} q ho => by
  unfold oP at ho ⊢
  rw [q ho]; exact ho)
 subst e
 refine ⟨w.map (·.change), o.map (·.change), by rw [List.map_append], ?_, ?_⟩
 ·cases o with
  | nil =>
    rw [List.append_nil]
    refine List.flatMap_eq_nil_iff.2 fun u hu => ?_
    have : w.filter (fun e => decide (e.unit = u)) = [] := by
     rw [List.filter_eq_nil_iff]
     intro x hx q
     rw [decide_eq_true_eq] at q
     have h1 := hw1 x hx
     have h2 := (ql9 h).1 hu
     unfold oP at h1
     rw [q, h2] at h1; cases h1
    rw [this]; rfl
  | cons c o =>
    have hcu := hmem2 c (by simp) (ho1 c (List.mem_cons_self ..))
    have hall : ∀ y ∈ c :: o, y.unit = c.unit := by
     have hp2 := (List.pairwise_append.1 hPE).2.1
     obtain ⟨q1, _⟩ := List.pairwise_cons.1 hp2
     intro y hy
     rcases List.mem_cons.1 hy with rfl | hy
     ·rfl
     ·exact q1 y hy (ho1 c (List.mem_cons_self ..))
    have hwn : ∀ u ∈ qbw T, w.filter (fun e => decide (e.unit = u)) = [] := fun u hu => by
     rw [List.filter_eq_nil_iff]
     intro x hx q
     rw [decide_eq_true_eq] at q
     have h1 := hw1 x hx
     have h2 := (ql9 h).1 hu
     unfold oP at h1
     rw [q, h2] at h1; cases h1
    rw [q47 (qps T) hcu]
    ·rw [List.filter_append, hwn _ hcu, List.nil_append, List.filter_eq_self.2 fun y hy => by rw [hall y hy]; simp]
    ·intro u hu hne
     rw [List.filter_append, hwn _ hu, List.nil_append, List.filter_eq_nil_iff.2 fun y hy q => by
      rw [decide_eq_true_eq, hall y hy] at q
      exact hne q.symm]
     rfl
 ·congr 1
  rw [List.filter_append, List.filter_eq_self.2 fun x hx => by rw [hw1 x hx]; rfl, List.filter_eq_nil_iff.2 fun x hx => by rw [ho1 x hx]; decide, List.append_nil]
theorem qbtu {x : Remote} (hx : qbq x = 0) : cuB x = ((fwdC (x.source.drop x.target.length)).map rv).reverse := by
 have hr := qhx.1 hx
 rw [← q58 hx]
 unfold qi3
 rw [List.map_reverse]
 congr 1
 unfold fwdC
 rw [List.map_map]
 have e : (x.source.drop x.target.length).filter (takP allE) = (x.source.drop x.target.length).filter fun x => decide (x.kind = 0) := by
  apply List.filter_congr
  intro y _
  unfold takP allE
  rw [Bool.and_true]
 rw [e]
 apply List.map_congr_left
 intro e he
 obtain ⟨m1, m2⟩ := List.mem_filter.1 he
 obtain ⟨j, hj, rfl⟩ := List.getElem_of_mem (List.mem_of_mem_drop m1)
 have hc := (qg5 hr.c hj).1
 simp only [List.getD, List.getElem?_eq_getElem hj, Option.getD_some] at hc
 exact (qtp (qk6 hc (by simpa using m2))).symm
theorem qzp {x : Remote} {ts now : List Table} (hx : qbq x = 0) (hW : (qd8 ts x.target).2.2 = 0) (hA : qgw (ts, 0) (fwdC x.source)) (hnow : now = ((fwdC x.source).foldl qcc (ts, 0)).1) (hc : qhz x.target = false) :
 (qfc x now (qgq x.target (qbw x.target))).2 = 0 ∧ qos (qfc x now (qgq x.target (qbw x.target))).1 (qd8 ts x.target).1 = true := by
 have hr := qhx.1 hx
 have h1 := (qu1 hW).1
 obtain ⟨ht, hq⟩ := qjm h1
 have hT := qbnk ht
 have hnm := qre hr
 have hnT : qw3 x.target := fun j hj => by
  have q := hnm j (by have := hr.t; omega)
  rw [← hr.b]
  rw [List.getD_eq_getElem?_getD, List.getElem?_take_of_lt hj, ← List.getD_eq_getElem?_getD]
  exact q
 have hchk := qbac hq hnT (by have := hr.t; have := hr.n; omega)
 have hsplit : fwdC x.source = fwdC x.target ++ fwdC (x.source.drop x.target.length) := by
  conv => lhs; rw [← List.take_append_drop x.target.length x.source]
  rw [qx3, hr.b]
 rw [hsplit] at hA hnow
 obtain ⟨hA1, hA2⟩ := qgc.1 hA
 have hS1 := qpd (s := (ts, 0)) hT hA1
 have hkk : ∀ l : List Entry, (qbv l).2 = 0 → ∀ c ∈ fwdC l, c.kind = 0 ∨ c.kind = 1 ∨ c.kind = 2 := fun l hl => q2i hl (p := fun x => decide (x.kind = 0)) (fun x hx => by simpa using hx)
 have hk2 : ∀ c ∈ fwdC (x.source.drop x.target.length), c.kind = 0 ∨ c.kind = 1 ∨ c.kind = 2 := fun c hc => hkk x.source hr.c c (by rw [hsplit]; exact List.mem_append_right _ hc)
 rw [List.foldl_append] at hnow
 have hN : TabsR now := by rw [hnow]; exact qpd hS1 hA2
 obtain ⟨i1, i2, i3, _⟩ := qbf9 (u := (now, 0)) hk2 hS1 hA2 (by rw [← hnow]; exact qbbr _) hN
 rw [← qbtu hx] at i1 i2 i3
 have hlen1 := qxz (fwdC x.target) (ts, 0)
 have hnear := qbg6 (ts := ts) i2 hlen1
 have hnf : now.map (·.file) = ts.map (·.file) := by rw [hnow, qi4, qi4]
 have hVf : ((cuB x).foldl qcc (now, 0)).1.map (·.file) = ts.map (·.file) := by rw [qi4]; exact hnf
 have hroll := qbg7 (U := (qbw x.target).flatMap (qlr x.target)) (hkk x.target hq) hA1 hT i3 hVf hnear fun f r => by
  obtain ⟨w, o, e1, e2, _⟩ := que hq hc f r
  exact ⟨w, o, e1, e2⟩
 have hbw : ¬qeb (qgq x.target (qbw x.target)) x.target = false := by
  obtain ⟨rr, h1', _⟩ := qsz ((qbw x.target).flatMap (uniE x.target)) x.target
  have : qgq x.target (qbw x.target) = x.target ++ rr := h1'
  rw [this]
  refine bw_t (x := x) ?_ (List.take_left' rfl)
  rw [List.length_append]; omega
 have hce := qx1 hx (qbnl hN) hchk hbw
 have hcm : qjq x now (qgq x.target (qbw x.target)) = qc4 now (cuB x ++ (qbw x.target).flatMap (qlr x.target)) := by
  unfold qjq
  rw [qbg8 hq]
 have hall : qgw (now, 0) (cuB x ++ (qbw x.target).flatMap (qlr x.target)) := qgc.2 ⟨i1, hroll⟩
 rw [qtq hce, hcm, qoa hall]
 refine ⟨rfl, ?_⟩
 simp only
 -- the whole changes alone
 have eW : qd1 (WantZ.out (qbw x.target)).has false x.target = ((x.target.filter fun x => decide (x.kind = 0)).filter fun e => !oP x.target e).map (·.change) := by
  rw [q3u hq]
  show (x.target.filter (takP (wP x.target))).map (qn0 false) = _
  rw [qbs3, List.filter_filter]
  congr 1
  apply List.filter_congr
  intro e _
  exact Bool.and_comm _ _
 have w1 : (qc4 ts (qd1 (WantZ.out (qbw x.target)).has false x.target)).2.2 = 0 := Decidable.byContradiction fun q => by rw [qwx h1 q] at hW; exact q hW
 rw [qz4 h1 w1]
 simp only
 have hrW := qot.1 w1
 rw [qoa hrW]
 simp only
 rw [eW] at hrW ⊢
 have hC := qpd (s := (now, 0)) hN hall
 rw [List.foldl_append] at hC ⊢
 refine qbbw ?_ hC
 have f1 := qi4 (((x.target.filter fun x => decide (x.kind = 0)).filter fun e => !oP x.target e).map (·.change)) (ts, 0)
 have f2 := qi4 ((qbw x.target).flatMap (qlr x.target)) ((cuB x).foldl qcc (now, 0))
 have l1 := qxz (((x.target.filter fun x => decide (x.kind = 0)).filter fun e => !oP x.target e).map (·.change)) (ts, 0)
 have l2 := congrArg List.length (f2.trans hVf)
 simp only [List.length_map] at l2
 refine ⟨by rw [l1, l2], fun i hi => ?_⟩
 rw [l1] at hi
 have hi' : i < ts.length := hi
 have hge := hT.once i hi'
 have hle := q46 hi'
 have hf : qbg ts (ts.getD i q0z).file.name = i := by omega
 refine qbch (by rw [ql8, ql8, f1, f2, hVf]) fun r => ?_
 obtain ⟨w, o, e1, e2, e3⟩ := que hq hc (ts.getD i q0z).file.name r
 have hp := qbad hA1 hVf hnear hroll (f := (ts.getD i q0z).file.name) (by omega) r e1 e2
 have hw := qov (ts := ts) (f := (ts.getD i q0z).file.name) (by omega) r _ (ts, 0) rfl hrW
 rw [qip, e3] at hw
 rw [← hw] at hp
 unfold qgy at hp
 rw [hf] at hp
 exact hp
theorem q36 {x : Remote} {ts : List Table} (h : (qes x ts).2.2 = 0) : qbq x = 0 ∧ (qd8 ts x.target).2.2 = 0 ∧ qes x ts = ((qd8 ts x.target).1, qgq x.target (qbw x.target), 0) := by
 have h1 : qbq x = 0 := Decidable.byContradiction fun q => by rw [tk_1 q] at h; exact q h
 have h2 : (qd8 ts x.target).2.2 = 0 := Decidable.byContradiction fun q => by rw [tk_2 h1 q] at h; exact q h
 exact ⟨h1, h2, tk_3 h1 h2⟩
theorem qbob {x : Remote} {ts : List Table} (h : (qes x ts).2.2 = 0) (hA : (qgn ts x.source (x.source.getD (x.source.length - 1) q0i).number).2.2 = 0) (hc : qhz x.target = false) :
 (qfc x (qgn ts x.source (x.source.getD (x.source.length - 1) q0i).number).1 (qes x ts).2.1).2 = 0 ∧ qos (qfc x (qgn ts x.source (x.source.getD (x.source.length - 1) q0i).number).1 (qes x ts).2.1).1 (qes x ts).1 = true := by
 obtain ⟨h1, h2, h3⟩ := q36 h
 obtain ⟨_, _, _, h4⟩ := qbf6 hA
 have eA : qfx ⟨true, (x.source.getD (x.source.length - 1) q0i).number⟩ false x.source = fwdC x.source := by
  show qfu _ _ _ = _
  rw [qbbp (qhx.1 h1).c]; rfl
 rw [h4, eA] at hA ⊢
 have hrA := qot.1 hA
 rw [qoa hrA, h3]
 exact qzp h1 h2 hrA rfl hc
theorem qboc {x : Remote} {ts : List Table} (h : (qes x ts).2.2 = 0) (h0 : (x.source.length : Int) ≤ 0) (hc : qhz x.target = false) :
 (qfc x ts (qes x ts).2.1).2 = 0 ∧ qos (qfc x ts (qes x ts).2.1).1 (qes x ts).1 = true := by
 obtain ⟨h1, h2, h3⟩ := q36 h
 have e : x.source = [] := List.eq_nil_of_length_eq_zero (by omega)
 rw [h3]
 exact qzp h1 h2 (by rw [e]; exact qkv) (by rw [e]; rfl) hc
theorem qzq {a b : List Table} (h : qos a b = true) : qk5 a = true ∧ a.map qh5 = b.map qh5 := by
 unfold qos at h
 rw [Bool.and_eq_true, decide_eq_true_eq] at h
 exact h
end Go.Ev
namespace Go.Ev
noncomputable section
open Go.Proofs Ty
set_option maxRecDepth 10000
set_option maxHeartbeats 4000000
def e20 : List O → Option (Prop × O)
 | [.d x_l] => match decL 8 q0v x_l with
   | some l => some (l.length ≤ 1000000, .d (.b (qhz l)))
   | _ => none
 | _ => none
def qbjp : FuncId → List O → Option (Prop × O) := addT tab4 20 e20
def e5 : List O → Option (Prop × O)
 | [.d x_x, .d x_ts] => match qcg x_x, decL 6 q0y x_ts with
   | some x, some ts => some (True, .d (.b true))
   | _, _ => none
 | _ => none
end
end Go.Ev
