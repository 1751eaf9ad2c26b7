/- Tools and contracts under the laws of this seat: DevOpen, DyE16, DevCross, DyE17. -/
import Derived.Test.YtkgkgcojfocomaaGreatE09
import Derived.Test.YtkgkgcojfocomaaGreatE10
set_option linter.unusedVariables false
set_option linter.unusedSimpArgs false
namespace Go.Ev
def stU2 (us : List AUnit) (n : Int) : Int := match uidx us n with
  | some k => (us.getD k ⟨0, 0, 0, 0⟩).state
  | none => 0
def opn (us : List AUnit) (ss : List Int) : List Int := ss.filter fun n => decide (stU2 us n = 2)
def qqf (us : List AUnit) : List Int := opn us (qft (us.map (·.unit)))
def qno (k : Nat) : List Int := (List.range k).map fun (i : Nat) => (i : Int) + 1
def qhs (l : List Entry) (k : Nat) : List Int := (qno k).filter (isOpen l)
@[irreducible] def qcj (l : List Entry) : List Int := qhs l 999
theorem q20 (l : List Entry) : qhs l 999 = qcj l := by unfold qcj; rfl
theorem qs9 (l : List Entry) (k : Nat) : qhs l (k + 1) = qhs l k ++ if isOpen l ((k : Int) + 1) = true then [(k : Int) + 1] else [] := by
  unfold qhs qno
  rw [List.range_succ, List.map_append, List.filter_append]
  congr 1
  simp only [List.map_cons, List.map_nil, List.filter_cons, List.filter_nil]
theorem qvl {l : List Entry} {k : Nat} (h : isOpen l ((k : Int) + 1) = true) : qhs l (k + 1) = qhs l k ++ [(k : Int) + 1] := by rw [qs9, if_pos h]
theorem qbbu {l : List Entry} {k : Nat} (h : isOpen l ((k : Int) + 1) = false) : qhs l (k + 1) = qhs l k := by rw [qs9, h]; simp
theorem qvm (l : List Entry) (k : Nat) : (qhs l k).length ≤ k := by
  unfold qhs qno
  have := List.length_filter_le (isOpen l) ((List.range k).map fun (i : Nat) => (i : Int) + 1)
  simpa using this
theorem qbxn (k : Nat) : (qno k).Pairwise fun a b => a < b := by
  unfold qno
  rw [List.pairwise_map]
  exact List.pairwise_lt_range.imp fun h => by omega
theorem qqm {l : List Entry} (h : (qbc l).2 = 0) {n : Int} (hb : begins l n = true) : 1 ≤ n ∧ n ≤ 999 := by
  unfold begins at hb
  rw [List.any_eq_true] at hb
  obtain ⟨e, he, hp⟩ := hb
  obtain ⟨j, hj, rfl⟩ := List.getElem_of_mem he
  have hc := (qh3 h hj).1
  simp only [List.getD, List.getElem?_eq_getElem hj, Option.getD_some] at hc
  unfold qle at hp
  simp only [Bool.and_eq_true, beq_iff_eq] at hp
  obtain ⟨k1, k2⟩ := hp
  unfold qc7 at hc
  split at hc
  · cases hc
  split at hc
  · cases hc
  split at hc
  · cases hc
  · omega
theorem qyw {l : List Entry} (h : (qbc l).2 = 0) {n : Int} (ho : isOpen l n = true) : 1 ≤ n ∧ n ≤ 999 := qqm h (qm8.1 ho).1
theorem qrv {l : List Entry} (h : (qbc l).2 = 0) {n : Int} : n ∈ qcj l ↔ isOpen l n = true := by
  unfold qcj qhs qno
  rw [List.mem_filter, List.mem_map]
  constructor
  · exact fun q => q.2
  · intro ho
    have := qyw h ho
    exact ⟨⟨(n - 1).toNat, by rw [List.mem_range]; omega, by omega⟩, ho⟩
theorem qow {us : List AUnit} {n : Int} (h : n ∈ us.map (·.unit)) : ∃ k, uidx us n = some k := by
  obtain ⟨u, hu, rfl⟩ := List.mem_map.1 h
  cases hx : uidx us u.unit with
  | some k => exact ⟨k, rfl⟩
  | none =>
    unfold uidx at hx
    rw [List.findIdx?_eq_none_iff] at hx
    have := hx u hu
    simp at this
theorem qbnd {l : List Entry} (h : (qbc l).2 = 0) : qqf (qen l) = qcj l := by
  rw [qk2 h]
  have hP := qm9 h
  have tr : ∀ a b c : Int, decide (a ≤ b) = true → decide (b ≤ c) = true → decide (a ≤ c) = true := fun a b c h1 h2 => by simp only [decide_eq_true_eq] at *; omega
  have to : ∀ a b : Int, (decide (a ≤ b) || decide (b ≤ a)) = true := fun a b => by simp only [Bool.or_eq_true, decide_eq_true_eq]; omega
  have hp1 : (qft ((qbv l).map (·.unit))).Perm ((qbv l).map (·.unit)) := List.mergeSort_perm _ _
  have s1 : (qqf (qbv l)).Pairwise fun a b => decide (a ≤ b) = true := (List.pairwise_mergeSort tr to _).filter _
  have n1 : (qqf (qbv l)).Nodup := ((hp1.nodup_iff).2 hP.nd).filter _
  have s2' := qbxn 999
  have s2 : (qcj l).Pairwise fun a b => a < b := by unfold qcj qhs; exact s2'.filter _
  have n2 : (qcj l).Nodup := s2.imp fun h => by omega
  refine List.Perm.eq_of_pairwise (le := fun a b => decide (a ≤ b) = true) (fun a b _ _ h1 h2 => by simp only [decide_eq_true_eq] at *; omega) s1 (s2.imp fun h => by simp only [decide_eq_true_eq]; omega) ?_
  refine (List.perm_ext_iff_of_nodup n1 n2).2 fun n => ?_
  rw [qrv h, hP.u.isOpen n]
  unfold qqf opn
  rw [List.mem_filter, hp1.mem_iff]
  unfold stU2
  constructor
  · rintro ⟨hm, hs⟩
    obtain ⟨k, hk⟩ := qow hm
    rw [hk] at hs ⊢
    exact hs
  · intro hs
    cases hk : uidx (qbv l) n with
    | none => rw [hk] at hs; cases hs
    | some k =>
      rw [hk] at hs
      obtain ⟨u, hu, hn, hl⟩ := qh2 hk
      exact ⟨List.mem_map.2 ⟨u, List.mem_of_getElem? hu, hn⟩, hs⟩
theorem q21 {us : List AUnit} {ss : List Int} {j : Nat} (hj : j < ss.length) : opn us (ss.take (j + 1)) = opn us (ss.take j) ++ if stU2 us (ss.getD j 0) = 2 then [ss.getD j 0] else [] := by
  unfold opn
  rw [qdw 0 hj, List.filter_append]
  congr 1
  generalize ss.getD j 0 = n
  by_cases e : stU2 us n = 2
  · simp [e]
  · simp [e]
theorem q5i {us : List AUnit} {ss : List Int} {j : Nat} (hj : j < ss.length) (h : stU2 us (ss.getD j 0) = 2) : opn us (ss.take (j + 1)) = opn us (ss.take j) ++ [ss.getD j 0] := by rw [q21 hj, if_pos h]
theorem qbr2 {us : List AUnit} {ss : List Int} {j : Nat} (hj : j < ss.length) (h : ¬stU2 us (ss.getD j 0) = 2) : opn us (ss.take (j + 1)) = opn us (ss.take j) := by rw [q21 hj, if_neg h, List.append_nil]
theorem qbne (us : List AUnit) (ss : List Int) : (opn us ss).length ≤ ss.length := List.length_filter_le _ _
theorem qrw (ks : List Int) : (qft ks).length = ks.length := List.length_mergeSort _
theorem qbr3 {us : List AUnit} {j : Nat} (hj : j < us.length) : ∃ k u, uidx us ((qft (us.map (·.unit))).getD j 0) = some k ∧ us[k]? = some u ∧ (us.map fun u => D.cp (qdi u))[k]? = some (.cp (qdi u)) ∧ stU2 us ((qft (us.map (·.unit))).getD j 0) = u.state := by
  have hl := qrw (us.map (·.unit))
  rw [List.length_map] at hl
  have hm : (qft (us.map (·.unit))).getD j 0 ∈ us.map (·.unit) := by
    have : (qft (us.map (·.unit))).getD j 0 = (qft (us.map (·.unit)))[j]'(by omega) := by simp [List.getD, List.getElem?_eq_getElem (show j < (qft (us.map (·.unit))).length by omega)]
    rw [this]
    exact (List.mergeSort_perm (us.map (·.unit)) _).mem_iff.1 (List.getElem_mem _)
  obtain ⟨k, hk⟩ := qow hm
  obtain ⟨u, hu, _, _⟩ := qh2 hk
  refine ⟨k, u, hk, hu, by rw [List.getElem?_map, hu]; rfl, ?_⟩
  unfold stU2
  rw [hk]
  simp [List.getD, hu]
def qfd (ts : List Table) (l : List Entry) : List Table × List Int × Int :=
  if chkE ts l ≠ 0 then ([], [], chkE ts l) else if (qcd ts (qbo (WantZ.out (qcj l)).has false l)).2.2 ≠ 0 then ([], [], (qcd ts (qbo (WantZ.out (qcj l)).has false l)).2.2)
  else ((qcd ts (qbo (WantZ.out (qcj l)).has false l)).1, qcj l, 0)
def qfu (ts : List Table) (l : List Entry) : List Table × List Int × Int :=
  if chkE ts l ≠ 0 then ([], [], chkE ts l) else if (qcd ts (qbo (WantZ.inn (qcj l)).has true l)).2.2 ≠ 0 then ([], [], (qcd ts (qbo (WantZ.inn (qcj l)).has true l)).2.2)
  else ((qcd ts (qbo (WantZ.inn (qcj l)).has true l)).1, qcj l, 0)
def ansW (r : List Table × List Int × Int) : Ans := ⟨r.1, 0, r.2.1, r.2.2⟩
section
variable {ts : List Table} {l : List Entry}
theorem qbbv (h : ¬chkE ts l = 0) : qfd ts l = ([], [], chkE ts l) := by unfold qfd; rw [if_pos h]
theorem q22 (h : chkE ts l = 0) (h2 : ¬(qcd ts (qbo (WantZ.out (qcj l)).has false l)).2.2 = 0) : qfd ts l = ([], [], (qcd ts (qbo (WantZ.out (qcj l)).has false l)).2.2) := by unfold qfd; rw [if_neg (fun e => e h), if_pos h2]
theorem q9c (h : chkE ts l = 0) (h2 : (qcd ts (qbo (WantZ.out (qcj l)).has false l)).2.2 = 0) : qfd ts l = ((qcd ts (qbo (WantZ.out (qcj l)).has false l)).1, qcj l, 0) := by unfold qfd; rw [if_neg (fun e => e h), if_neg (fun e => e h2)]
theorem qbbw (h : ¬chkE ts l = 0) : qfu ts l = ([], [], chkE ts l) := by unfold qfu; rw [if_pos h]
theorem q23 (h : chkE ts l = 0) (h2 : ¬(qcd ts (qbo (WantZ.inn (qcj l)).has true l)).2.2 = 0) : qfu ts l = ([], [], (qcd ts (qbo (WantZ.inn (qcj l)).has true l)).2.2) := by unfold qfu; rw [if_neg (fun e => e h), if_pos h2]
theorem q9d (h : chkE ts l = 0) (h2 : (qcd ts (qbo (WantZ.inn (qcj l)).has true l)).2.2 = 0) : qfu ts l = ((qcd ts (qbo (WantZ.inn (qcj l)).has true l)).1, qcj l, 0) := by unfold qfu; rw [if_neg (fun e => e h), if_neg (fun e => e h2)]
theorem qqg (h : chkE ts l = 0) : qqf (chkL ts l) = qcj l := by rw [(qkp (qfj h).1).1, qbnd (qfj h).2]
theorem qnj (h : chkE ts l = 0) : (chkL ts l).length ≤ 1000 ∧ ∀ u ∈ chkL ts l, 1 ≤ u.unit ∧ u.unit ≤ 999 := by
  have hc := (qfj h).2
  rw [(qkp (qfj h).1).1]
  refine ⟨by have := qp0 (l := l); omega, fun u hu => ?_⟩
  rw [qk2 hc] at hu
  obtain ⟨k, hk⟩ := qow (us := qbv l) (n := u.unit) (List.mem_map.2 ⟨u, hu, rfl⟩)
  have hb := (qm9 hc).u.begins u.unit
  rw [hk] at hb
  exact qqm hc hb
def wP (l : List Entry) (x : Entry) : Bool := !isOpen l x.unit
def oP (l : List Entry) (x : Entry) : Bool := isOpen l x.unit
theorem q5j (h : (qbc l).2 = 0) (n : Int) : decide (n ∈ qcj l) = isOpen l n := by
  rw [Bool.eq_iff_iff, decide_eq_true_eq]; exact qrv h
theorem q24 (h : (qbc l).2 = 0) (back : Bool) : qbo (WantZ.out (qcj l)).has back l = qbo (wP l) back l := ql6 fun x _ _ => by
  show (!decide (x.unit ∈ qcj l)) = !isOpen l x.unit
  rw [q5j h]
theorem q25 (h : (qbc l).2 = 0) (back : Bool) : qbo (WantZ.inn (qcj l)).has back l = qbo (oP l) back l := ql6 fun x _ _ => by
  show decide (x.unit ∈ qcj l) = isOpen l x.unit
  rw [q5j h]
theorem qyh {cs : List Change} (h : ¬(qcd ts cs).2.2 = 0) : qfc (qcd ts cs) = ⟨[], 0, [], (qcd ts cs).2.2⟩ := by
  unfold qcd at h ⊢
  cases hf : qb8 (mErr ts cs) cs.length with
  | some k => rfl
  | none => rw [hf] at h; exact absurd rfl h
theorem qbr4 (h : ¬chkE ts l = 0) : ansW (qfd ts l) = ⟨[], 0, [], chkE ts l⟩ := by rw [qbbv h]; rfl
theorem qbr5 (h : chkE ts l = 0) (h2 : ¬(qcd ts (qbo (wP l) false l)).2.2 = 0) : ansW (qfd ts l) = qfc (qcd ts (qbo (wP l) false l)) := by
  have e := q24 (qfj h).2 (l := l) false
  rw [qyh h2, q22 h (by rw [e]; exact h2), e]; rfl
theorem qbxo (h : chkE ts l = 0) (h2 : (qcd ts (qbo (wP l) false l)).2.2 = 0) : ansW (qfd ts l) = ⟨(qcd ts (qbo (wP l) false l)).1, 0, qcj l, 0⟩ := by
  have e := q24 (qfj h).2 (l := l) false
  rw [q9c h (by rw [e]; exact h2), e]; rfl
theorem qbr6 (h : ¬chkE ts l = 0) : ansW (qfu ts l) = ⟨[], 0, [], chkE ts l⟩ := by rw [qbbw h]; rfl
theorem qbr7 (h : chkE ts l = 0) (h2 : ¬(qcd ts (qbo (oP l) true l)).2.2 = 0) : ansW (qfu ts l) = qfc (qcd ts (qbo (oP l) true l)) := by
  have e := q25 (qfj h).2 (l := l) true
  rw [qyh h2, q23 h (by rw [e]; exact h2), e]; rfl
theorem qbxp (h : chkE ts l = 0) (h2 : (qcd ts (qbo (oP l) true l)).2.2 = 0) : ansW (qfu ts l) = ⟨(qcd ts (qbo (oP l) true l)).1, 0, qcj l, 0⟩ := by
  have e := q25 (qfj h).2 (l := l) true
  rw [q9d h (by rw [e]; exact h2), e]; rfl
theorem qon (l : List Entry) : (qcj l).length ≤ 999 := by rw [← q20]; exact qvm l 999
theorem qnk (h : okTs ts) : okTs (qfd ts l).1 := by
  unfold qfd
  split
  · exact qih
  split
  · exact qih
  · exact qmw h
theorem qoo (h : okTs ts) : okTs (qfu ts l).1 := by
  unfold qfu
  split
  · exact qih
  split
  · exact qih
  · exact qmw h
theorem whU (ts : List Table) (l : List Entry) : (qfd ts l).2.1.length ≤ 999 := by
  have := qon l
  unfold qfd
  split
  · simp
  split
  · simp
  · exact this
theorem opU (ts : List Table) (l : List Entry) : (qfu ts l).2.1.length ≤ 999 := by
  have := qon l
  unfold qfu
  split
  · simp
  split
  · simp
  · exact this
end
def qjd (p : Entry → Bool) (l : List Entry) (j : Nat) : List Change := ((l.drop j).filter (takP p)).reverse.map fun x => revC x.change
section
variable {p : Entry → Bool} {l : List Entry} {j : Nat}
theorem qyi (hj : j < l.length) (h : (l.getD j q0i).kind = 0) (h2 : p (l.getD j q0i) = true) : qjd p l j = qjd p l (j + 1) ++ [revC (l.getD j q0i).change] := by
  unfold qjd
  rw [qe5 q0i hj, List.filter_cons, if_pos (qn3.2 ⟨h, h2⟩), List.reverse_cons, List.map_append]
  rfl
theorem qbgb (hj : j < l.length) (h : ¬(l.getD j q0i).kind = 0 ∨ p (l.getD j q0i) = false) : qjd p l j = qjd p l (j + 1) := by
  unfold qjd
  rw [qe5 q0i hj, List.filter_cons, if_neg]
  rw [qn3]
  rintro ⟨a, b⟩
  rcases h with h | h
  · exact h a
  · rw [h] at b; cases b
theorem q4c (hj : l.length ≤ j) : qjd p l j = [] := by
  unfold qjd; rw [List.drop_of_length_le hj]; rfl
theorem qbbx (p : Entry → Bool) (l : List Entry) (j : Nat) : (qjd p l j).length ≤ l.length := by
  unfold qjd
  rw [List.length_map, List.length_reverse]
  have := List.length_filter_le (takP p) (l.drop j)
  rw [List.length_drop] at this
  omega
theorem qyj (h : (qbc l).2 = 0) : qjd p l 0 = qbo p true l := by
  show _ = ((l.filter (takP p)).map (qkg true)).reverse
  unfold qjd
  rw [List.drop_zero, List.map_reverse]
  congr 1
  apply List.map_congr_left
  intro x hx
  obtain ⟨h1, h2⟩ := List.mem_filter.1 hx
  obtain ⟨j, hj, rfl⟩ := List.getElem_of_mem h1
  have hc := (qh3 h hj).1
  simp only [List.getD, List.getElem?_eq_getElem hj, Option.getD_some] at hc
  exact (q5g (qqc hc (qn3.1 h2).1)).symm
end
end Go.Ev

namespace Go.Ev
open Go.Proofs Ty
set_option maxRecDepth 10000
set_option maxHeartbeats 4000000
def qrx : D → Option AUnit
  | .cp [.i .i64 a, .i .i64 b, .i .i64 c, .i .i64 d] => some ⟨a, b, c, d⟩
  | _ => none
theorem q4d {d : D} {u : AUnit} (h : qrx d = some u) : d = .cp (qdi u) := by
  unfold qrx at h
  split at h
  · cases h; rfl
  · cases h
theorem q26 : ∀ {l : List D} {us : List AUnit}, decM qrx l = some us → l = us.map fun u => .cp (qdi u)
  | [], us, h => by cases h; rfl
  | d :: l, us, h => by
    unfold decM at h
    split at h
    · rename_i x y h1 h2
      cases h
      rw [List.map_cons, q4d h1, q26 h2]
    · cases h
def keyN : D → Option Int
  | .i .i64 n => some n
  | _ => none
def qvn (k v : List D) : Option (List AUnit) := match decM qrx v with
  | some us => if k.map keyN = us.map (fun u => some u.unit) then some us else none
  | none => none
theorem q5k : ∀ {k : List D} {us : List AUnit}, k.map keyN = us.map (fun u => some u.unit) → k = us.map keyU
  | [], [], _ => rfl
  | [], _ :: _, h => by cases h
  | _ :: _, [], h => by cases h
  | d :: k, u :: us, h => by
    simp only [List.map_cons, List.cons.injEq] at h
    rw [List.map_cons, q5k h.2]
    have : d = keyU u := by
      have h1 := h.1
      unfold keyN at h1
      split at h1
      · cases h1; rfl
      · cases h1
    rw [this]
theorem qbgc {k v : List D} {us : List AUnit} (h : qvn k v = some us) : dle (.mp k v) (.mp (us.map keyU) (us.map fun u => .cp (qdi u))) := by
  unfold qvn at h
  split at h
  · rename_i us' h1
    split at h
    · rename_i h2
      cases h
      rw [q26 h1, q5k h2]
      exact q02 _
    · cases h
  · cases h
theorem qbgd (us : List AUnit) : decM qrx (us.map fun u => .cp (qdi u)) = some us := qfw (g := fun u => .cp (qdi u)) (fun u => rfl) us
theorem dUs (us : List AUnit) : qvn (us.map keyU) (us.map fun u => .cp (qdi u)) = some us := by
  unfold qvn
  rw [qbgd]
  simp only
  rw [if_pos (by rw [List.map_map]; rfl)]
theorem isKU (us : List AUnit) : ∀ d ∈ us.map keyU, isK Tryz.prog 3 d = true := qbiu us
theorem qbge (us : List AUnit) : us.map keyU = (us.map (·.unit)).map (D.i .i64) := by rw [List.map_map]; rfl
theorem qbnf {us : List AUnit} (h : ∀ u ∈ us, 1 ≤ u.unit ∧ u.unit ≤ 999) : ∀ k ∈ us.map (·.unit), (Lit.int .i64 k).wf = true := by
  intro k hk
  obtain ⟨u, hu, rfl⟩ := List.mem_map.1 hk
  have := h u hu
  simp [Lit.wf, IntKind.min, IntKind.max, IntKind.bits, IntKind.signed]
  omega
noncomputable def e53 : List O → Option (Prop × O)
  | [.d (.mp k_us v_us)] => match qvn k_us v_us with
    | some us => some (us.length ≤ 1000 ∧ ∀ u ∈ us, 1 ≤ u.unit ∧ u.unit ≤ 999, .d (.sl 1 ((qqf us).map (D.i .i64))))
    | _ => none
  | _ => none
noncomputable def q9e : FuncId → List O → Option (Prop × O) := addT tab5 53 e53
noncomputable def e58 : List O → Option (Prop × O)
  | [.d x_l] => match decL 8 q0w x_l with
    | some l => some (l.length ≤ 1000000, .d (.sl 1 ((qcj l).map (D.i .i64))))
    | _ => none
  | _ => none
noncomputable def q9f : FuncId → List O → Option (Prop × O) := addT q9e 58 e58
noncomputable def e21 : List O → Option (Prop × O)
  | [.d x_ts, .d x_l] => match decL 6 q0y x_ts, decL 8 q0w x_l with
    | some ts, some l => some (okTs ts ∧ l.length ≤ 1000000, .tup [.d (.sl 6 ((qfd ts l).1.map q0g)), .d (.sl 1 ((qfd ts l).2.1.map (D.i .i64))), .d (.i .i64 (qfd ts l).2.2)])
    | _, _ => none
  | _ => none
noncomputable def q9g : FuncId → List O → Option (Prop × O) := addT q9f 21 e21
noncomputable def e22 : List O → Option (Prop × O)
  | [.d x_ts, .d x_l] => match decL 6 q0y x_ts, decL 8 q0w x_l with
    | some ts, some l => some (okTs ts ∧ l.length ≤ 1000000, .tup [.d (.sl 6 ((qfu ts l).1.map q0g)), .d (.sl 1 ((qfu ts l).2.1.map (D.i .i64))), .d (.i .i64 (qfu ts l).2.2)])
    | _, _ => none
  | _ => none
noncomputable def q9h : FuncId → List O → Option (Prop × O) := addT q9g 22 e22
noncomputable def e23 : List O → Option (Prop × O)
  | [.d x_ts, .d x_l] => match decL 6 q0y x_ts, decL 8 q0w x_l with
    | some ts, some l => some (okTs ts ∧ l.length ≤ 1000000, .d (qd4 (ansW (qfd ts l))))
    | _, _ => none
  | _ => none
noncomputable def q9i : FuncId → List O → Option (Prop × O) := addT q9h 23 e23
noncomputable def e24 : List O → Option (Prop × O)
  | [.d x_ts, .d x_l] => match decL 6 q0y x_ts, decL 8 q0w x_l with
    | some ts, some l => some (okTs ts ∧ l.length ≤ 1000000, .d (qd4 (ansW (qfu ts l))))
    | _, _ => none
  | _ => none
noncomputable def q9j : FuncId → List O → Option (Prop × O) := addT q9i 24 e24
noncomputable def e6 : List O → Option (Prop × O)
  | [.d x_ts, .d x_l] => match decL 6 q0y x_ts, decL 8 q0w x_l with
    | some ts, some l => some (True, .d (.b true))
    | _, _ => none
  | _ => none
noncomputable def tab6 : FuncId → List O → Option (Prop × O) := addT q9j 6 e6
end Go.Ev

namespace Go.Ev
def pl (t : Table) (r : Int) : Option Rec := if 1 ≤ r ∧ r ≤ (t.records.length : Int) then some (t.records.getD (r - 1).toNat zRec) else none
def atP (f : ByteArray) (r : Int) (c : Change) : Bool := decide (c.file = f) && decide (c.rrn = r)
def qhf (cs : List Change) (f : ByteArray) (r : Int) : Option Change := (cs.filter (atP f r)).getLast?
theorem qpf {f : ByteArray} {r : Int} {c : Change} : atP f r c = true ↔ c.file = f ∧ c.rrn = r := by simp [atP]
theorem q27 (a b : List Change) (f : ByteArray) (r : Int) : qhf (a ++ b) f r = (qhf b f r).or (qhf a f r) := by
  unfold qhf
  rw [List.filter_append, List.getLast?_append]
theorem qyx {f : ByteArray} {r : Int} {c : Change} (h : c.file = f ∧ c.rrn = r) : qhf [c] f r = some c := by
  unfold qhf
  rw [List.filter_cons, if_pos (qpf.2 h)]; rfl
theorem qn6 {f : ByteArray} {r : Int} {c : Change} (h : ¬(c.file = f ∧ c.rrn = r)) : qhf [c] f r = none := by
  unfold qhf
  rw [List.filter_cons, if_neg (fun e => h (qpf.1 e))]; rfl
theorem qbng {t : Table} {c : Change} (h : ChgOk t c) (r : Int) : pl (qey t c.rrn (qfb c)) r = if r = c.rrn then some (qfb c) else pl t r := by
  have hlo := h.lo
  have hl := qx9 t c.rrn (qfb c)
  have hp : c.rrn ≤ (t.records.length : Int) + 1 := by
    by_cases k : c.kind = 0
    · exact (h.ins k).1
    · have := (h.upd k).1; omega
  unfold pl
  by_cases e : r = c.rrn
  · subst e
    have hw := qx8 (r := qfb c) hlo hp
    rw [if_pos ⟨hlo, hw.1⟩, if_pos rfl, hw.2]
  · rw [if_neg e]
    by_cases q : 1 ≤ r ∧ r ≤ (t.records.length : Int)
    · have hw := qu9 (t := t) (r := qfb c) (n := c.rrn) (m := r) hlo q.1 q.2 (fun x => e x.symm)
      rw [if_pos ⟨q.1, hw.1⟩, if_pos q, hw.2]
    · rw [if_neg q, if_neg]
      intro q2
      apply q
      split at hl <;> omega
def qib (s : List Table) (ts : List Table) (f : ByteArray) : Table := s.getD (qbq ts f).toNat q0z
theorem qk8 (cs : List Change) : ∀ (s : List Table × Int), (cs.foldl qcf s).1.map (·.file) = s.1.map (·.file) := by
  induction cs with
  | nil => intro s; rfl
  | cons c cs ih => intro s; rw [List.foldl_cons, ih, qqb]
theorem qbgf (cs : List Change) (s : List Table × Int) (n : ByteArray) : qbq (cs.foldl qcf s).1 n = qbq s.1 n := qmf (qk8 cs s) n
theorem qwq (cs : List Change) (s : List Table × Int) : (cs.foldl qcf s).1.length = s.1.length := by
  have := congrArg List.length (qk8 cs s); simpa using this
theorem qvo {ts : List Table} {f : ByteArray} (hf : 0 ≤ qbq ts f) (r : Int) : ∀ (cs : List Change) (s : List Table × Int), s.1.map (·.file) = ts.map (·.file) → qh9 s cs →
    pl (qib (cs.foldl qcf s).1 ts f) r = ((qhf cs f r).map qfb).or (pl (qib s.1 ts f) r) := by
  intro cs
  induction cs with
  | nil => intro s _ _; rfl
  | cons c cs ih =>
    intro s hs hr
    have hr := qln.1 hr
    have hs' : (qcf s c).1.map (·.file) = ts.map (·.file) := by rw [qqb, hs]
    rw [List.foldl_cons, ih (qcf s c) hs' hr.2]
    have hc := hr.1
    have hfs : ∀ n, qbq s.1 n = qbq ts n := qmf hs
    have hlt := qks ts f
    have hlen : s.1.length = ts.length := by have := congrArg List.length hs; simpa using this
    have key : pl (qib (qcf s c).1 ts f) r = ((qhf [c] f r).map qfb).or (pl (qib s.1 ts f) r) := by
      unfold cond at hc
      unfold qcf
      rw [hfs] at hc ⊢
      by_cases hn : qbq ts c.file < 0
      · rw [if_pos hn]
        have : ¬(c.file = f ∧ c.rrn = r) := fun e => by rw [e.1] at hn; omega
        rw [qn6 this]; rfl
      · rw [if_neg hn] at hc ⊢
        simp only
        by_cases hcf : c.file = f
        · subst hcf
          have e : qib (s.1.set (qbq ts c.file).toNat (qey (s.1.getD (qbq ts c.file).toNat q0z) c.rrn (qfb c))) ts c.file = qey (qib s.1 ts c.file) c.rrn (qfb c) := by
            unfold qib
            rw [qk4, if_pos ⟨rfl, by omega⟩]
          have hck : ChgOk (qib s.1 ts c.file) c := qtn hc
          rw [e, qbng hck]
          by_cases hr' : r = c.rrn
          · rw [if_pos hr', qyx ⟨rfl, hr'.symm⟩]; rfl
          · rw [if_neg hr', qn6 (fun q => hr' q.2.symm)]; rfl
        · have e : qib (s.1.set (qbq ts c.file).toNat (qey (s.1.getD (qbq ts c.file).toNat q0z) c.rrn (qfb c))) ts f = qib s.1 ts f := by
            unfold qib
            rw [qk4, if_neg]
            rintro ⟨q, _⟩
            have a := qx7 (l := ts) (n := c.file) (by omega)
            have b := qx7 hf
            rw [q, b] at a
            exact hcf a.symm
          rw [e, qn6 (fun q => hcf q.1)]; rfl
    rw [key, show c :: cs = [c] ++ cs from rfl, q27]
    cases qhf cs f r with
    | none => rfl
    | some x => rfl
theorem qbby {a b : Table} (hf : b.file = a.file) (h : ∀ r, pl b r = pl a r ∨ (pl a r = none ∧ pl b r = some delR)) : extT a b := by
  have hlen : a.records.length ≤ b.records.length := by
    by_cases h0 : a.records.length = 0
    · omega
    · have := h (a.records.length : Int)
      unfold pl at this
      rw [if_pos (c := 1 ≤ (a.records.length : Int) ∧ (a.records.length : Int) ≤ (a.records.length : Int)) (by omega)] at this
      rcases this with q | q
      · split at q
        · omega
        · cases q
      · cases q.1
  refine ⟨hf, b.records.length - a.records.length, ?_⟩
  apply List.ext_getElem
  · simp; omega
  · intro i h1 h2
    have hi := h ((i : Int) + 1)
    have e1 : ((i : Int) + 1 - 1).toNat = i := by omega
    unfold pl at hi
    rw [e1] at hi
    rw [if_pos (c := 1 ≤ (i : Int) + 1 ∧ (i : Int) + 1 ≤ (b.records.length : Int)) (by omega)] at hi
    have gb : b.records.getD i zRec = b.records[i] := by simp [List.getD, List.getElem?_eq_getElem h1]
    rw [gb] at hi
    by_cases hia : i < a.records.length
    · rw [if_pos (c := 1 ≤ (i : Int) + 1 ∧ (i : Int) + 1 ≤ (a.records.length : Int)) (by omega)] at hi
      have ga : a.records.getD i zRec = a.records[i] := by simp [List.getD, List.getElem?_eq_getElem hia]
      rw [ga] at hi
      rw [List.getElem_append_left hia]
      rcases hi with q | q
      · exact Option.some.inj q
      · cases q.1
    · rw [if_neg (c := 1 ≤ (i : Int) + 1 ∧ (i : Int) + 1 ≤ (a.records.length : Int)) (by omega)] at hi
      rw [List.getElem_append_right (by omega), List.getElem_replicate]
      rcases hi with q | q
      · cases q
      · exact Option.some.inj q.2
def qpg (f : ByteArray) (r : Int) (x : Entry) : Bool := atP f r x.change
theorem qqh (E : List Entry) (f : ByteArray) (r : Int) : (E.map (·.change)).filter (atP f r) = (E.filter (qpg f r)).map (·.change) := by
  rw [List.filter_map]; rfl
theorem qvp {p : Entry → Bool} : ∀ (E : List Entry), E.Pairwise (fun x y => p x = true → p y = true) → ∃ w o, E = w ++ o ∧ (∀ x ∈ w, p x = false) ∧ (∀ x ∈ o, p x = true)
  | [], _ => ⟨[], [], rfl, fun _ h => (by cases h), fun _ h => (by cases h)⟩
  | x :: E, h => by
    have h' := List.pairwise_cons.1 h
    cases hx : p x with
    | true => exact ⟨[], x :: E, rfl, fun _ h => (by cases h), fun y hy => by
        rcases List.mem_cons.1 hy with rfl | hy
        · exact hx
        · exact h'.1 y hy hx⟩
    | false =>
      obtain ⟨w, o, e, h1, h2⟩ := qvp E h'.2
      exact ⟨x :: w, o, by rw [e]; rfl, fun y hy => by
        rcases List.mem_cons.1 hy with rfl | hy
        · exact hx
        · exact h1 y hy, h2⟩
theorem qbgg {c : Change} (h : c.kind = 0 ∨ c.kind = 1 ∨ c.kind = 2) (f : ByteArray) (r : Int) : atP f r (rv c) = atP f r c := by rw [qbix h]; rfl
theorem qbbz {cs : List Change} (h : ∀ c ∈ cs, c.kind = 0 ∨ c.kind = 1 ∨ c.kind = 2) (f : ByteArray) (r : Int) : (cs.map rv).filter (atP f r) = (cs.filter (atP f r)).map rv := by
  rw [List.filter_map]
  congr 1
  apply List.filter_congr
  intro c hc
  exact qbgg (h c hc) f r
theorem q9k {t : Table} {c : Change} (h : ChgOk t c) : pl t c.rrn = some (qfb (rv c)) ∨ (pl t c.rrn = none ∧ qfb (rv c) = delR) := by
  have hlo := h.lo
  rw [qbix h.kind]
  unfold pl
  by_cases hn : c.rrn ≤ (t.records.length : Int)
  · left
    rw [if_pos ⟨hlo, hn⟩]
    congr 1
    have hi : (c.rrn - 1).toNat < t.records.length := by omega
    by_cases k0 : c.kind = 0
    · have hd := (h.ins k0).2.2 hn
      have hg := h.right.recs (c.rrn - 1).toNat hi
      unfold qmc at hd
      unfold recR at hg
      rw [if_pos hd] at hg
      have hb : (t.records.getD (c.rrn - 1).toNat zRec).bytes = ⟨#[]⟩ := by
        split at hg
        · cases hg
        · rename_i q; exact Decidable.not_not.1 q
      have hk : qhx c.kind = 2 := by rw [k0]; rfl
      simp only [qfb, hk, h.form0 k0]
      generalize t.records.getD (c.rrn - 1).toNat zRec = x at hd hb
      cases x; simp_all
    · obtain ⟨u1, u2, u3⟩ := h.upd k0
      have hnk : ¬qhx c.kind = 2 := by
        have := h.kind
        unfold qhx
        split
        · contradiction
        split <;> omega
      unfold qmc at u2 u3
      simp only [qfb]
      generalize t.records.getD (c.rrn - 1).toNat zRec = x at u2 u3
      cases x; simp_all
  · right
    rw [if_neg (by omega)]
    have k0 : c.kind = 0 := Decidable.byContradiction fun e => by have := (h.upd e).1; omega
    have hk : qhx c.kind = 2 := by rw [k0]; rfl
    refine ⟨rfl, ?_⟩
    simp [qfb, delR, hk, h.form0 k0]
theorem q4e {ts : List Table} {E : List Entry} {p : Entry → Bool} (hk : ∀ x ∈ E, x.change.kind = 0 ∨ x.change.kind = 1 ∨ x.change.kind = 2)
    (hP : E.Pairwise fun x y => p x = true → x.change.file = y.change.file → x.change.rrn = y.change.rrn → p y = true)
    (hA : qh9 (ts, 0) (E.map (·.change))) (hW : qh9 (ts, 0) ((E.filter fun x => !p x).map (·.change)))
    (hB : qh9 ((E.map (·.change)).foldl qcf (ts, 0)) ((((E.filter p).map (·.change)).map rv).reverse)) {f : ByteArray} (hf : 0 ≤ qbq ts f) (r : Int) :
    pl (qib ((((E.filter p).map (·.change)).map rv).reverse.foldl qcf ((E.map (·.change)).foldl qcf (ts, 0))).1 ts f) r = pl (qib (((E.filter fun x => !p x).map (·.change)).foldl qcf (ts, 0)).1 ts f) r ∨
    (pl (qib (((E.filter fun x => !p x).map (·.change)).foldl qcf (ts, 0)).1 ts f) r = none ∧ pl (qib ((((E.filter p).map (·.change)).map rv).reverse.foldl qcf ((E.map (·.change)).foldl qcf (ts, 0))).1 ts f) r = some delR) := by
  rw [qvo hf r _ _ (qk8 _ _) hB, qvo hf r _ _ rfl hA, qvo hf r _ _ rfl hW]
  have hPp : (E.filter (qpg f r)).Pairwise (fun x y => p x = true → p y = true) := by
    refine (hP.filter (qpg f r)).imp_of_mem fun {x y} hx hy h q => ?_
    have h1 := qpf.1 (List.mem_filter.1 hx).2
    have h2 := qpf.1 (List.mem_filter.1 hy).2
    exact h q (h1.1.trans h2.1.symm) (h1.2.trans h2.2.symm)
  obtain ⟨w, o, e, hw, ho⟩ := qvp _ hPp
  have hfw : w.filter p = [] := by rw [List.filter_eq_nil_iff]; intro x hx; rw [hw x hx]; decide
  have hfo : o.filter p = o := List.filter_eq_self.2 ho
  have hfw2 : w.filter (fun x => !p x) = w := List.filter_eq_self.2 fun x hx => by rw [hw x hx]; rfl
  have hfo2 : o.filter (fun x => !p x) = [] := by rw [List.filter_eq_nil_iff]; intro x hx; rw [ho x hx]; decide
  have cm : ∀ q : Entry → Bool, (E.filter q).filter (qpg f r) = (E.filter (qpg f r)).filter q := fun q => by
    rw [List.filter_filter, List.filter_filter]
    apply List.filter_congr
    intro x _
    exact Bool.and_comm _ _
  have l1 : qhf (E.map (·.change)) f r = ((w ++ o).map (·.change)).getLast? := by unfold qhf; rw [qqh, e]
  have l2 : qhf ((E.filter fun x => !p x).map (·.change)) f r = (w.map (·.change)).getLast? := by
    unfold qhf; rw [qqh, cm, e, List.filter_append, hfw2, hfo2, List.append_nil]
  have l3 : qhf ((((E.filter p).map (·.change)).map rv).reverse) f r = ((o.map (·.change)).map rv).head? := by
    unfold qhf
    rw [List.filter_reverse, qbbz (fun c hc => by
      obtain ⟨x, hx, rfl⟩ := List.mem_map.1 hc
      exact hk x (List.mem_filter.1 hx).1), qqh, cm, e, List.filter_append, hfw, hfo, List.nil_append, List.getLast?_reverse]
  rw [l1, l2, l3]
  cases o with
  | nil =>
    left
    rw [List.append_nil]; rfl
  | cons c1 o' =>
    -- the first open change at the place
    obtain ⟨E1, E2, hE, hE1, hE2⟩ := List.filter_eq_append_iff.1 e
    obtain ⟨F1, F2, hF, hF1, hc1, _⟩ := List.filter_eq_cons_iff.1 hE2
    have hat := qpf.1 hc1
    have hE' : E.map (·.change) = (E1 ++ F1).map (·.change) ++ (c1.change :: F2.map (·.change)) := by
      rw [hE, hF]; simp
    rw [hE'] at hA
    obtain ⟨a1, a2⟩ := q1n.1 hA
    have a3 := (qln.1 a2).1
    have hpl := qvo hf r _ _ rfl a1
    have l4 : qhf ((E1 ++ F1).map (·.change)) f r = (w.map (·.change)).getLast? := by
      unfold qhf
      have : F1.filter (qpg f r) = [] := by rw [List.filter_eq_nil_iff]; exact hF1
      rw [qqh, List.filter_append, hE1, this, List.append_nil]
    rw [l4] at hpl
    have hcf : qbq (((E1 ++ F1).map (·.change)).foldl qcf (ts, 0)).1 c1.change.file = qbq ts f := by rw [qbgf, hat.1]
    unfold cond at a3
    rw [hcf, if_neg (by omega)] at a3
    have hfo := q9k (qtn a3)
    rw [hat.2] at hfo
    have hst : pl ((((E1 ++ F1).map (·.change)).foldl qcf (ts, 0)).1.getD (qbq ts f).toNat q0z) r = (Option.map qfb (w.map (·.change)).getLast?).or (pl (qib ts ts f) r) := hpl
    rw [hst] at hfo
    simp only [List.map_cons, List.head?_cons, Option.map_some, Option.some_or]
    rcases hfo with q | ⟨q1, q2⟩
    · left; exact q.symm
    · right; exact ⟨q1, by rw [q2]⟩
theorem q4f {l : List Table} {i : Nat} (hi : i < l.length) : qbq l (l.getD i q0z).file.name ≤ i := by
  unfold qbq
  cases h : qb8 (qf3 l (l.getD i q0z).file.name) l.length with
  | none => have := qit h i hi; unfold qf3 at this; rw [if_pos rfl] at this; cases this
  | some k =>
    unfold qb8 at h
    rw [List.find?_eq_some_iff_getElem] at h
    obtain ⟨_, m, hm, he, hb⟩ := h
    rw [List.getElem_range] at he
    show (k : Int) ≤ i
    by_cases e : k ≤ i
    · omega
    · have := hb i (by omega)
      simp [qf3] at this
theorem qtq : ∀ (cs : List Change) (s u : List Table × Int), s.1 = u.1 → (cs.foldl qcf s).1 = (cs.foldl qcf u).1
  | [], s, u, h => h
  | c :: cs, s, u, h => by
    rw [List.foldl_cons, List.foldl_cons]
    apply qtq cs
    unfold qcf
    rw [h]
    split
    · exact h
    · rfl
theorem qbb0 {s u : List Table × Int} (h : s.1 = u.1) {cs : List Change} (hr : qh9 s cs) : qh9 u cs := by
  intro k hk
  have := hr k hk
  rw [qtq _ s u h] at this
  exact this
theorem q9l {x : List Table × Int} {cs : List Change} (hr : qh9 (x.1, 0) cs) : qh9 x cs := qbb0 (s := (x.1, 0)) (u := x) rfl hr
theorem qbb1 (x : List Table × Int) (cs : List Change) : (cs.foldl qcf (x.1, 0)).1 = (cs.foldl qcf x).1 := qtq cs (x.1, 0) x rfl
def qvq (us : List Int) (x : Entry) : Bool := decide (x.kind = 0) && !decide (idxZ us x.unit = -1)
def hitC (x y : Entry) : Bool := decide (y.kind = 0) && !decide (y.unit = x.unit) && decide (y.change.file = x.change.file) && decide (y.change.rrn = x.change.rrn)
def qkj (l : List Entry) (us : List Int) (i : Nat) : Int := if qvq us (l.getD i q0i) = true ∧ ((List.range l.length).any fun k => decide (i < k) && hitC (l.getD i q0i) (l.getD k q0i)) = true then 1 else 0
theorem qqi {us : List Int} {x : Entry} : qvq us x = true ↔ x.kind = 0 ∧ ¬idxZ us x.unit = -1 := by simp [qvq]
theorem qtr {l : List Entry} {i : Nat} : ((List.range l.length).any fun k => decide (i < k) && hitC (l.getD i q0i) (l.getD k q0i)) = true ↔ ∃ k, i < k ∧ k < l.length ∧ hitC (l.getD i q0i) (l.getD k q0i) = true := by
  rw [List.any_eq_true]
  constructor
  · rintro ⟨k, hk, h⟩
    rw [Bool.and_eq_true, decide_eq_true_eq] at h
    exact ⟨k, h.1, List.mem_range.1 hk, h.2⟩
  · rintro ⟨k, h1, h2, h3⟩
    exact ⟨k, List.mem_range.2 h2, by rw [h3]; simp [h1]⟩
def qii (l : List Entry) (us : List Int) : Bool := (qb8 (qkj l us) l.length).isSome
theorem qbgh {l : List Entry} {us : List Int} {i : Nat} (h : ¬(l.getD i q0i).kind = 0 ∨ idxZ us (l.getD i q0i).unit = -1) : qkj l us i = 0 := by
  unfold qkj
  rw [if_neg]
  rintro ⟨q, _⟩
  obtain ⟨q1, q2⟩ := qqi.1 q
  rcases h with h | h
  · exact h q1
  · exact q2 h
theorem qbgi {l : List Entry} {us : List Int} {i : Nat} {k : Nat} (h : ∀ m, i < m → m < k → hitC (l.getD i q0i) (l.getD m q0i) = false) (hk : l.length ≤ k) : qkj l us i = 0 := by
  unfold qkj
  rw [if_neg]
  rintro ⟨_, q⟩
  obtain ⟨m, h1, h2, h3⟩ := qtr.1 q
  rw [h m h1 (by omega)] at h3
  cases h3
theorem qbnh {l : List Entry} {us : List Int} {i k : Nat} (h0 : ∀ j, j < i → qkj l us j = 0) (hi : i < l.length) (h : ¬(¬(l.getD i q0i).kind = 0 ∨ idxZ us (l.getD i q0i).unit = -1)) (hk : i < k) (hk2 : k < l.length) (hh : hitC (l.getD i q0i) (l.getD k q0i) = true) : qii l us = true := by
  have hs : qvq us (l.getD i q0i) = true := qqi.2 ⟨Decidable.byContradiction fun e => h (Or.inl e), fun e => h (Or.inr e)⟩
  unfold qii
  rw [qd8 h0 hi (by unfold qkj; rw [if_pos ⟨hs, qtr.2 ⟨k, hk, hk2, hh⟩⟩]; decide)]
  rfl
theorem qbni {l : List Entry} {us : List Int} {i : Nat} (h : ∀ j, j < i → qkj l us j = 0) (hi : l.length ≤ i) : qii l us = false := by
  unfold qii
  rw [qd1 fun j hj => h j (by omega)]
  rfl
theorem qts {x y : Entry} : hitC x y = true ↔ y.kind = 0 ∧ ¬y.unit = x.unit ∧ y.change.file = x.change.file ∧ y.change.rrn = x.change.rrn := by simp [hitC, and_assoc]
theorem q4g {l : List Entry} (h : (qbc l).2 = 0) (hc : qii l (qcj l) = false) :
    (l.filter fun x => decide (x.kind = 0)).Pairwise fun x y => oP l x = true → x.change.file = y.change.file → x.change.rrn = y.change.rrn → oP l y = true := by
  have key : l.Pairwise fun x y => x.kind = 0 → y.kind = 0 → oP l x = true → x.change.file = y.change.file → x.change.rrn = y.change.rrn → oP l y = true := by
    rw [List.pairwise_iff_getElem]
    intro i j hi hj hij k1 k2 ho hf hr
    have gi : l.getD i q0i = l[i] := by simp [List.getD, List.getElem?_eq_getElem hi]
    have gj : l.getD j q0i = l[j] := by simp [List.getD, List.getElem?_eq_getElem hj]
    by_cases e : l[j].unit = l[i].unit
    · unfold oP at ho ⊢
      rw [e]; exact ho
    · exfalso
      have hm : l[i].unit ∈ qcj l := (qrv h).2 ho
      have hx := (qtp (qcj l) l[i].unit).2 hm
      have hs : ∀ j, j < l.length → qkj l (qcj l) j = 0 := by
        unfold qii at hc
        cases hb : qb8 (qkj l (qcj l)) l.length with
        | some k => rw [hb] at hc; cases hc
        | none => exact qit hb
      have := hs i hi
      unfold qkj at this
      rw [if_pos] at this
      · cases this
      · refine ⟨?_, qtr.2 ⟨j, hij, hj, ?_⟩⟩
        · rw [gi]
          exact qqi.2 ⟨k1, by omega⟩
        · rw [gi, gj]
          exact qts.2 ⟨k2, e, hf.symm, hr.symm⟩
  refine (key.filter _).imp_of_mem fun {x y} hx hy q => ?_
  exact q (by simpa using (List.mem_filter.1 hx).2) (by simpa using (List.mem_filter.1 hy).2)
theorem qbb2 {ts : List Table} {l : List Entry} (hA : (qew ts l (l.getD (l.length - 1) q0i).number).2.2 = 0) (hW : (qfd ts l).2.2 = 0)
    (hO : (qfu (qew ts l (l.getD (l.length - 1) q0i).number).1 l).2.2 = 0) :
    (qfd ts l).2.1 = qcj l ∧ (qfu (qew ts l (l.getD (l.length - 1) q0i).number).1 l).2.1 = qcj l ∧
    (qii l (qcj l) = false → qu8 (qfd ts l).1 (qfu (qew ts l (l.getD (l.length - 1) q0i).number).1 l).1 = true) := by
  obtain ⟨h1, _, _, h4⟩ := qbfk hA
  obtain ⟨ht, hq⟩ := qfj h1
  have eA : qe7 ⟨true, (l.getD (l.length - 1) q0i).number⟩ false l = (l.filter fun x => decide (x.kind = 0)).map (·.change) := by
    show qev _ _ _ = _
    rw [qba8 hq]
  rw [h4, eA] at hA hO ⊢
  have hrA := qqa.1 hA
  rw [qwn hrA] at hO ⊢
  simp only at hO ⊢
  have hT := qya (s := (ts, 0)) (qwm ht) hrA
  have hchk : chkE (((l.filter fun x => decide (x.kind = 0)).map (·.change)).foldl qcf (ts, 0)).1 l = 0 := by rw [(qkp (qbmu hT)).2]; exact hq
  have eW : qbo (WantZ.out (qcj l)).has false l = ((l.filter fun x => decide (x.kind = 0)).filter fun x => !oP l x).map (·.change) := by
    rw [q24 hq]
    show (l.filter (takP (wP l))).map (qkg false) = _
    rw [qbrk, List.filter_filter]
    congr 1
    apply List.filter_congr
    intro x _
    exact Bool.and_comm _ _
  have eO : qbo (WantZ.inn (qcj l)).has true l = ((((l.filter fun x => decide (x.kind = 0)).filter (oP l)).map (·.change)).map rv).reverse := by
    rw [q25 hq]
    show ((l.filter (takP (oP l))).map (qkg true)).reverse = _
    rw [qbrj, List.filter_filter]
    congr 3
    apply List.filter_congr
    intro x _
    exact Bool.and_comm _ _
  have w1 : (qcd ts (qbo (WantZ.out (qcj l)).has false l)).2.2 = 0 := Decidable.byContradiction fun q => by rw [q22 h1 q] at hW; exact q hW
  have o1 : (qcd (((l.filter fun x => decide (x.kind = 0)).map (·.change)).foldl qcf (ts, 0)).1 (qbo (WantZ.inn (qcj l)).has true l)).2.2 = 0 := Decidable.byContradiction fun q => by rw [q23 hchk q] at hO; exact q hO
  rw [q9c h1 w1, q9d hchk o1]
  refine ⟨rfl, rfl, fun hc => ?_⟩
  simp only
  rw [eW] at w1 ⊢
  rw [eO] at o1 ⊢
  have hP := q4g hq hc
  have hk : ∀ x ∈ l.filter fun x => decide (x.kind = 0), x.change.kind = 0 ∨ x.change.kind = 1 ∨ x.change.kind = 2 := fun x hx =>
    qbfr hq (p := fun x => decide (x.kind = 0)) (fun x hx => by simpa using hx) x.change (List.mem_map.2 ⟨x, hx, rfl⟩)
  generalize (l.filter fun x => decide (x.kind = 0)) = E at *
  have hrW := qqa.1 w1
  have hrO := qqa.1 o1
  rw [qwn hrW, qwn hrO]
  simp only
  have hrO' := q9l hrO
  rw [qbb1]
  have hTW := qya (s := (ts, 0)) (qwm ht) hrW
  have hx : extL (((E.filter fun x => !oP l x).map (·.change)).foldl qcf (ts, 0)).1 ((((E.filter (oP l)).map (·.change)).map rv).reverse.foldl qcf ((E.map (·.change)).foldl qcf (ts, 0))).1 := by
    have l1 := qwq ((E.filter fun x => !oP l x).map (·.change)) (ts, 0)
    have l2 := qwq (((E.filter (oP l)).map (·.change)).map rv).reverse ((E.map (·.change)).foldl qcf (ts, 0))
    have l3 := qwq (E.map (·.change)) (ts, 0)
    have f1 := qk8 ((E.filter fun x => !oP l x).map (·.change)) (ts, 0)
    have f2 := qk8 (((E.filter (oP l)).map (·.change)).map rv).reverse ((E.map (·.change)).foldl qcf (ts, 0))
    have f3 := qk8 (E.map (·.change)) (ts, 0)
    refine ⟨by rw [l1, l2, l3], fun i hi => ?_⟩
    rw [l1] at hi
    have hi' : i < ts.length := hi
    have hge := (qwm ht).once i hi'
    have hle := q4f hi'
    have hf : qbq ts (ts.getD i q0z).file.name = i := by omega
    have hpl := q4e hk hP hrA hrW hrO' (f := (ts.getD i q0z).file.name) (by omega)
    unfold qib at hpl
    rw [hf] at hpl
    exact qbby (by rw [qol, qol, f2, f3, f1]) hpl
  unfold qu8
  rw [qbbb hTW, qbba hx]
  simp
end Go.Ev

namespace Go.Ev
open Go.Proofs Ty
set_option maxRecDepth 10000
set_option maxHeartbeats 4000000
noncomputable def e59 : List O → Option (Prop × O)
  | [.d x_l, .d (.i .i64 v)] => match decL 1 (decI .i64) x_l with
    | some l => some (l.length ≤ 1000000, .d (.i .i64 (idxZ l v)))
    | _ => none
  | _ => none
noncomputable def q9m : FuncId → List O → Option (Prop × O) := addT tab6 59 e59
noncomputable def e26 : List O → Option (Prop × O)
  | [.d x_l, .d x_us] => match decL 8 q0w x_l, decL 1 (decI .i64) x_us with
    | some l, some us => some (l.length ≤ 1000000 ∧ us.length ≤ 1000000, .d (.b (qii l us)))
    | _, _ => none
  | _ => none
noncomputable def qbi5 : FuncId → List O → Option (Prop × O) := addT q9m 26 e26
noncomputable def e7 : List O → Option (Prop × O)
  | [.d x_ts, .d x_l] => match decL 6 q0y x_ts, decL 8 q0w x_l with
    | some ts, some l => some (True, .d (.b true))
    | _, _ => none
  | _ => none
end Go.Ev
