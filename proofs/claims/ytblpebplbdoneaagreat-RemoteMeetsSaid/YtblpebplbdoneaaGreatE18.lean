/- Tools and contracts under the laws of this seat: Drc21 to Drc173. -/
import Derived.Test.YtblpebplbdoneaaGreatE09
set_option linter.unusedVariables false
set_option linter.unusedSimpArgs false
namespace Go.Ev
noncomputable section
open Go.Proofs Ty
set_option maxRecDepth 10000
set_option maxHeartbeats 4000000
def cfg21 : Cfg := mkC 48 tab8
theorem qbpq : cfg21.pins = [] ∧ cfg21.P = Tryz.prog ∧ cfg21.N = 48 ∧ cfg21.ti 12 = none ∧ cfg21.T 12 = e12 ∧ cfg21.mv 12 = (fun _ => []) := by and_intros <;> exact rfl
section
attribute [local go_sem] qbpq e12
attribute [local go_sem] qbi qbl qck qdc qce qdr qd3 qet Int.toNat_natCast qdq qd4 qee qb9 qc2 qbx qca decI List.length_map nc0 qbj qbo q01 qb7 qdh qd5 qb1 qb8 qem qfe q06 qbz qcx qdl qcb qcm qd6 qen qbt qdm qeo qff qb3 qbr qc1 qdj qcz qeq qdk qc0 qer qdi qcy qep List.length_take qdd Int.toNat_zero Nat.sub_zero List.drop_zero q0c q0y qdn qd7 q0s q0x q05 qba qcv qcw List.length_set Nat.le_refl qc5 qcl List.take_length
attribute [local go_sem ←] List.map_take List.map_drop
theorem qb0y (hC : COk cfg21) (l : List Table) (hp : okTs l) : Sem Tryz.prog 21 [.d (.sl 6 (l.map q0c))] (.d (.sl 6 ((l.map qh5).map q0c))) := by
 have hB : l.length ≤ 1000000 := hp.1
 refine q0g (C := cfg21) (rs := [.tmp 2]) (fun _ => []) Tryz.func21 rfl rfl rfl rfl rfl rfl ?_
 refine inQ ?_
 repeat' first
 | (with_reducible first | apply q0n | apply q0d | apply Wsq | apply Wbk | apply Wsk | apply Wex | apply Wrt | apply q0o | apply q0p | apply q0e | apply q0f | refine q0b rfl ?_ | apply q0q | apply q0r | apply And.intro)
 | (refine Wat 5 rfl ?_; have TL := qmj l i; have hg := q81 (l := l) (i := i) (by omega); have hO := hp.2 i; have hR : (l.getD i q0z).records.length ≤ 1000000 := hO.2.2)
 | (refine Wat 6 rfl ?_; skip)
 | (with_reducible first | (refine Whr hC ?_; intro K hK) | (refine Whd hC (by kernel_rfl) ?_; intro K hK))
 | (with_reducible refine Wrn hC ?_; intro K hK)
 | ((with_reducible first | refine q0u ?_ | refine q0m ?_); (first | (simp (maxSteps := 1000000) only [go_sem, ↓reduceIte, reduceCtorEq, Nat.reduceEqDiff, Nat.reduceLT, Nat.reduceLeDiff, Nat.reduceMul, Nat.reduceAdd, Nat.reduceSub, reduceDIte, Nat.reduceBEq, Nat.reduceBNe, hg]) | (refine siQ ?_)); (try simp (disch := omega) only [w64, wu8]))
 | ((first | refine Wcd rfl (fun h => ?_) fun h => ?_ | refine Wcu rfl (fun h => ?_) ?_ | refine Wcn rfl ?_ fun h => ?_) <;> (try replace h := q0a h) <;> try (exfalso; first | omega | exact absurd h (by decide)))
 | (refine Wlp 3 rfl (ι := Nat) (fun i => mkS [(3, V.row 112 6 0 (qi1 l i).length), (4, V.d (.i .i64 (i : Int)))] ([(112, .live (.row 69 6 false ((qi1 l i).map q0c)))])) (fun i => i ≤ l.length) (fun i => l.length - i) (0) ?_ ?_ (fun i hi => ?_) <;> (try dsimp only) <;> (try dsimp only at hi))
 | (refine Wnx 3 (i + 1) ?_ ?_ ?_ <;> (try dsimp only))
 | (refine Wlp 6 rfl (ι := Nat) (fun n => mkS [(3, V.row 112 6 0 (qi1 l i).length), (4, V.d (.i .i64 (i : Int))), (5, V.d (.i .i64 (n : Int)))] ([(112, .live (.row 69 6 false ((qi1 l i).map q0c)))])) (fun n => n ≤ (l.getD i q0z).records.length ∧ ∀ j, n ≤ j → j < (l.getD i q0z).records.length → ((l.getD i q0z).records.getD j zRec).deleted = true) (fun n => n) ((l.getD i q0z).records.length) ?_ ?_ (fun n hn => ?_) <;> (try dsimp only) <;> (try dsimp only at hn))
 | (refine Wnx 6 (n - 1) ?_ ?_ ?_ <;> (try dsimp only))
 | (refine q0j ?_; refine subQ ?_)
 | (subst hK)
 | exact trivial
 all_goals try (intros; assumption)
 all_goals try refine q0w ?_
 all_goals try replace hp := q0a hp
 all_goals try replace hi := q0a hi
 all_goals try replace hj := q0a hj
 all_goals try (intros; first | trivial | omega)
 all_goals (try (rw [w64 (by omega) (by omega)]; first | done | omega))
 all_goals clear hC
 all_goals (try have TL := qmj l i)
 all_goals first
 | omega
 | exact q0k _
 | (rw [q82 (by omega)]; exact q0k _)
 | (rw [qmj, qmj]; done)
 | (intro j hj hj2; by_cases e : n ≤ j; exact hn.2 j e hj2; (have := h.2; rw [show ((n : Int) - 1).toNat = j by omega] at this; exact this))
 | (have e := qbni (l := (l.getD i q0z).records) hn.1 hn.2 (by rcases h with h | h; (left; omega); (by_cases h0 : n = 0; exact .inl h0; right; rw [show ((n : Int) - 1).toNat = n - 1 by omega] at h; exact h))
    rw [← q40 (by omega), List.map_set, show qh5 (l.getD i q0z) = ⟨(l.getD i q0z).file, (l.getD i q0z).records.take n⟩ from by unfold qh5; rw [e]]
    exact q0k _)
end
def cfg153 : Cfg := mkC 23 q83
theorem qbh3 : cfg153.pins = [] ∧ cfg153.P = Tryz.prog ∧ cfg153.N = 23 ∧ cfg153.ti 62 = none ∧ cfg153.T 62 = e62 ∧ cfg153.mv 62 = (fun _ => []) := by and_intros <;> exact rfl
section
attribute [local go_sem] qbh3 e62
attribute [local go_sem] qbi qbl qck qdc qce qdr qd3 qet qb2 Int.toNat_natCast qdq qd4 qee qb9 qc2 qbx qca decI List.length_map nc0 qbj qbo
theorem qbur (hC : COk cfg153) (t : DType) (hp : qbs t = 0) : Sem Tryz.prog 153 [.d (qbi t)] (.d (.i .i64 (qfh t))) := by
 have ht := qk2 hp
 refine q0g (C := cfg153) (rs := [.tmp 2]) (fun _ => []) Tryz.func153 rfl rfl rfl rfl rfl rfl ?_
 refine inQ ?_
 repeat' first
 | (with_reducible first | apply q0n | apply q0d | apply Wsq | apply Wbk | apply Wsk | apply Wex | apply Wrt | apply q0o | apply q0p | apply q0e | apply q0f | refine q0b rfl ?_ | apply q0q | apply q0r | apply And.intro)
 | (with_reducible refine Wrn hC ?_; intro K hK)
 | ((with_reducible first | refine q0u ?_ | refine q0m ?_); refine siQ ?_; (try simp (disch := omega) only [w64, wu8]))
 | ((first | refine Wcd rfl (fun h => ?_) fun h => ?_ | refine Wcu rfl (fun h => ?_) ?_ | refine Wcn rfl ?_ fun h => ?_) <;> (try replace h := q0a h) <;> try (exfalso; first | omega | exact absurd h (by decide)))
 | (refine q0j ?_; refine subQ ?_)
 | (subst hK)
 | exact trivial
 all_goals try (intros; assumption)
 all_goals try refine q0w ?_
 all_goals try replace hp := q0a hp
 all_goals try (intros; first | trivial | omega)
 all_goals (try (rw [w64 (by omega) (by omega)]; first | done | omega))
 all_goals clear hC
 all_goals (try simp only [qfh])
 all_goals first
 | omega
 | (rw [qua (by omega) (by omega), if_pos (by omega)]; done)
 | (rcases ht.2.2.2.2.2.2 (by omega) with e | e <;> (rw [e]; simp_all; done))
 | grind
end
def cfg154 : Cfg := mkC 24 q2q
theorem qbh4 : cfg154.pins = [] ∧ cfg154.P = Tryz.prog ∧ cfg154.N = 24 := ⟨rfl, rfl, rfl⟩
section
attribute [local go_sem] qbh4
attribute [local go_sem] qbi qbl qck qdc qce qdr qd3 qet qb2 Int.toNat_natCast qdq qd4 qee qb9 qc2 qbx qca decI List.length_map nc0 qbj qbo
theorem qbus (hC : COk cfg154) (s : ByteArray) (a : Int) (n : Int) (hp : 0 ≤ a ∧ 0 ≤ n ∧ a + n ≤ s.size ∧ s.size ≤ 1000) : Sem Tryz.prog 154 [.d (.s s), .d (.i .i64 a), .d (.i .i64 n)] (.d (.i .i64 (qfi s a.toNat n.toNat))) := by
 refine q0g (C := cfg154) (rs := [.tmp 6]) (fun _ => []) Tryz.func154 rfl rfl rfl rfl rfl rfl ?_
 refine inQ ?_
 repeat' first
 | (with_reducible first | apply q0n | apply q0d | apply Wsq | apply Wbk | apply Wsk | apply Wex | apply Wrt | apply q0o | apply q0p | apply q0e | apply q0f | refine q0b rfl ?_ | apply q0q | apply q0r | apply And.intro)
 | (with_reducible refine Wrn hC ?_; intro K hK)
 | ((with_reducible first | refine q0u ?_ | refine q0m ?_); refine siQ ?_; (try simp (disch := omega) only [w64, wu8]))
 | ((first | refine Wcd rfl (fun h => ?_) fun h => ?_ | refine Wcu rfl (fun h => ?_) ?_ | refine Wcn rfl ?_ fun h => ?_) <;> (try replace h := q0a h) <;> try (exfalso; first | omega | exact absurd h (by decide)))
 | (refine Wlp 3 rfl (ι := Nat) (fun i => mkS [(0, V.d (.s s)), (1, V.d (.i .i64 a)), (2, V.d (.i .i64 n)), (7, V.d (.i .i64 (qfi s a.toNat i))), (8, V.d (.i .i64 (i : Int)))] ([])) (fun i => (i : Int) ≤ n) (fun i => n.toNat - i) (0) ?_ ?_ (fun i hi => ?_) <;> (try dsimp only) <;> (try dsimp only at hi))
 | (refine Wnx 3 (i + 1) ?_ ?_ ?_ <;> (try dsimp only))
 | (refine q0j ?_; refine subQ ?_)
 | (subst hK)
 | exact trivial
 all_goals try (intros; assumption)
 all_goals try refine q0w ?_
 all_goals try replace hp := q0a hp
 all_goals try replace hi := q0a hi
 all_goals try (intros; first | trivial | omega)
 all_goals (try (rw [w64 (by omega) (by omega)]; first | done | omega))
 all_goals clear hC
 all_goals first
 | omega
 | rfl
 | (rw [show (a + (i : Int)).toNat = a.toNat + i by omega, qwp]; rfl)
 | (rw [show n.toNat = i by omega]; done)
end
def cfg176 : Cfg := mkC 13 q2r
theorem qbh5 : cfg176.pins = [] ∧ cfg176.P = Tryz.prog ∧ cfg176.N = 13 := ⟨rfl, rfl, rfl⟩
section
attribute [local go_sem] qbh5
attribute [local go_sem] qbi qbl qck qdc qce qdr qd3 qet qb2 Int.toNat_natCast qdq qd4 qee qb9 qc2 qbx qca decI List.length_map nc0 qbj qbo
theorem qbut (hC : COk cfg176) (n : Int) (hp : 0 ≤ n ∧ n ≤ 18) : Sem Tryz.prog 176 [.d (.i .i64 n)] (.d (.i .i64 (p10 n))) := by
 refine q0g (C := cfg176) (rs := [.tmp 2]) (fun _ => []) Tryz.func176 rfl rfl rfl rfl rfl rfl ?_
 refine inQ ?_
 repeat' first
 | (with_reducible first | apply q0n | apply q0d | apply Wsq | apply Wbk | apply Wsk | apply Wex | apply Wrt | apply q0o | apply q0p | apply q0e | apply q0f | refine q0b rfl ?_ | apply q0q | apply q0r | apply And.intro)
 | (with_reducible refine Wrn hC ?_; intro K hK)
 | ((with_reducible first | refine q0u ?_ | refine q0m ?_); refine siQ ?_; (try simp (disch := omega) only [w64, wu8]))
 | ((first | refine Wcd rfl (fun h => ?_) fun h => ?_ | refine Wcu rfl (fun h => ?_) ?_ | refine Wcn rfl ?_ fun h => ?_) <;> (try replace h := q0a h) <;> try (exfalso; first | omega | exact absurd h (by decide)))
 | (refine Wlp 3 rfl (ι := Nat) (fun i => mkS [(0, V.d (.i .i64 n)), (3, V.d (.i .i64 (10 ^ i : Int))), (4, V.d (.i .i64 (i : Int)))] ([])) (fun i => (i : Int) ≤ n) (fun i => n.toNat - i) (0) ?_ ?_ (fun i hi => ?_) <;> (try dsimp only) <;> (try dsimp only at hi))
 | (refine Wnx 3 (i + 1) ?_ ?_ ?_ <;> (try dsimp only))
 | (refine q0j ?_; refine subQ ?_)
 | (subst hK)
 | exact trivial
 all_goals try (intros; assumption)
 all_goals try refine q0w ?_
 all_goals try replace hp := q0a hp
 all_goals try replace hi := q0a hi
 all_goals try (intros; first | trivial | omega)
 all_goals (try (rw [w64 (by omega) (by omega)]; first | done | omega))
 all_goals clear hC
 all_goals first
 | omega
 | exact q1i (by omega)
 | exact q5q (by omega) (by omega)
end
def cfg175 : Cfg := mkC 5 q2s
theorem qbh6 : cfg175.pins = [] ∧ cfg175.P = Tryz.prog ∧ cfg175.N = 5 ∧ cfg175.ti 57 = none ∧ cfg175.T 57 = e57 ∧ cfg175.mv 57 = (fun _ => []) := by and_intros <;> exact rfl
section
attribute [local go_sem] qbh6 e57
theorem qbuu (hC : COk cfg175) (k : Int) : Sem Tryz.prog 175 [.d (.i .i64 k)] (.d (.b (decide (1 ≤ k) && decide (k ≤ 3)))) := by
 refine q0g (C := cfg175) (rs := [.tmp 2]) (fun _ => []) Tryz.func175 rfl rfl rfl rfl rfl rfl ?_
 refine inQ ?_
 repeat' first
 | (with_reducible first | apply q0n | apply q0d | apply Wsq | apply Wbk | apply Wsk | apply Wex | apply Wrt | apply q0o | apply q0p | apply q0e | apply q0f | refine q0b rfl ?_ | apply q0q | apply q0r | apply And.intro)
 | (with_reducible refine Wrn hC ?_; intro K hK)
 | ((with_reducible first | refine q0u ?_ | refine q0m ?_); refine siQ ?_; (try simp (disch := omega) only [w64, wu8]))
 | ((first | refine Wcd rfl (fun h => ?_) fun h => ?_ | refine Wcu rfl (fun h => ?_) ?_ | refine Wcn rfl ?_ fun h => ?_) <;> (try replace h := q0a h) <;> try (exfalso; first | omega | exact absurd h (by decide)))
 | (refine q0j ?_; refine subQ ?_)
 | (subst hK)
 | exact trivial
 all_goals try (intros; assumption)
 all_goals try refine q0w ?_
 all_goals try (intros; first | trivial | omega)
 all_goals (try (rw [w64 (by omega) (by omega)]; first | done | omega))
end
def cfg177 : Cfg := mkC 17 q2t
theorem qbh7 : cfg177.pins = [] ∧ cfg177.P = Tryz.prog ∧ cfg177.N = 17 := ⟨rfl, rfl, rfl⟩
section
attribute [local go_sem] qbh7
attribute [local go_sem] qbi qbl qck qdc qce qdr qd3 qet qb2 Int.toNat_natCast qdq qd4 qee qb9 qc2 qbx qca decI List.length_map nc0 qbj qbo
theorem qbuv (hC : COk cfg177) (n : Int) (h : Int) : Sem Tryz.prog 177 [.d (.i .i64 n), .d (.i .i64 h)] (.tup [.d (.i .i64 (if h = 11 ∨ h = 13 then IntKind.i64.wrap (-n) else n)), .d (.b (decide (10 ≤ h)))]) := by
 refine q0g (C := cfg177) (rs := [.tmp 4, .tmp 5]) (fun _ => []) Tryz.func177 rfl rfl rfl rfl rfl rfl ?_
 refine inQ ?_
 repeat' first
 | (with_reducible first | apply q0n | apply q0d | apply Wsq | apply Wbk | apply Wsk | apply Wex | apply Wrt | apply q0o | apply q0p | apply q0e | apply q0f | refine q0b rfl ?_ | apply q0q | apply q0r | apply And.intro)
 | (with_reducible refine Wrn hC ?_; intro K hK)
 | ((with_reducible first | refine q0u ?_ | refine q0m ?_); refine siQ ?_; (try simp (disch := omega) only [w64, wu8]))
 | ((first | refine Wcd rfl (fun h => ?_) fun h => ?_ | refine Wcu rfl (fun h => ?_) ?_ | refine Wcn rfl ?_ fun h => ?_) <;> (try replace h := q0a h) <;> try (exfalso; first | omega | exact absurd h (by decide)))
 | (refine q0j ?_; refine subQ ?_)
 | (subst hK)
 | exact trivial
 all_goals try (intros; assumption)
 all_goals try refine q0w ?_
 all_goals try (intros; first | trivial | omega)
 all_goals (try (rw [w64 (by omega) (by omega)]; first | done | omega))
 all_goals clear hC
 all_goals first
 | omega
 | grind
end
def cfg152 : Cfg := mkC 49 q2u
theorem qbh8 : cfg152.pins = [] ∧ cfg152.P = Tryz.prog ∧ cfg152.N = 49 ∧ cfg152.T 57 = e57 ∧ cfg152.T 62 = e62 ∧ cfg152.T 175 = e175 ∧ cfg152.ti = (fun _ => none) ∧ cfg152.mv = fun _ _ => [] := by and_intros <;> exact rfl
section
attribute [local go_sem] qbh8 e57 e62 e175
attribute [local go_sem] qbi qbl qck qdc qce qdr qd3 qet qb2 Int.toNat_natCast qdq qd4 qee qb9 qc2 qbx qca decI List.length_map nc0 qbj qbo
theorem qbuw (hC : COk cfg152) (t : DType) : Sem Tryz.prog 152 [.d (qbi t)] (.d (.i .i64 (qbs t))) := by
 refine q0g (C := cfg152) (rs := [.tmp 2]) (fun _ => []) Tryz.func152 rfl rfl rfl rfl rfl rfl ?_
 refine inQ ?_
 repeat' first
 | (with_reducible first | apply q0n | apply q0d | apply Wsq | apply Wbk | apply Wsk | apply Wex | apply Wrt | apply q0o | apply q0p | apply q0e | apply q0f | refine q0b rfl ?_ | apply q0q | apply q0r | apply And.intro)
 | (with_reducible refine Wrn hC ?_; intro K hK)
 | ((with_reducible first | refine q0u ?_ | refine q0m ?_); refine siQ ?_; (try simp (disch := omega) only [w64, wu8]))
 | ((first | refine Wcd rfl (fun h => ?_) fun h => ?_ | refine Wcu rfl (fun h => ?_) ?_ | refine Wcn rfl ?_ fun h => ?_) <;> (try replace h := q0a h) <;> try (exfalso; first | omega | exact absurd h (by decide)))
 | (refine q0j ?_; refine subQ ?_)
 | (subst hK)
 | exact trivial
 all_goals try (intros; assumption)
 all_goals try refine q0w ?_
 all_goals try (intros; first | trivial | omega)
 all_goals (try (rw [w64 (by omega) (by omega)]; first | done | omega))
 all_goals clear hC
 all_goals first
 | (simp only [qbs]; grind)
end
def cfg155 : Cfg := mkC 7 q2v
theorem qbh9 : cfg155.pins = [] ∧ cfg155.P = Tryz.prog ∧ cfg155.N = 7 ∧ cfg155.ti 176 = none ∧ cfg155.T 176 = e176 ∧ cfg155.mv 176 = (fun _ => []) := by and_intros <;> exact rfl
section
attribute [local go_sem] qbh9 e176
attribute [local go_sem] qbi qbl qck qdc qce qdr qd3 qet qb2 Int.toNat_natCast qdq qd4 qee qb9 qc2 qbx qca decI List.length_map nc0 qbj qbo
theorem qbux (hC : COk cfg155) (t : DType) (hp : 0 ≤ t.length ∧ t.length ≤ 18) : Sem Tryz.prog 155 [.d (qbi t)] (.d (.i .i64 (p10 t.length - 1))) := by
 refine q0g (C := cfg155) (rs := [.tmp 2]) (fun _ => []) Tryz.func155 rfl rfl rfl rfl rfl rfl ?_
 refine inQ ?_
 repeat' first
 | (with_reducible first | apply q0n | apply q0d | apply Wsq | apply Wbk | apply Wsk | apply Wex | apply Wrt | apply q0o | apply q0p | apply q0e | apply q0f | refine q0b rfl ?_ | apply q0q | apply q0r | apply And.intro)
 | (with_reducible refine Wrn hC ?_; intro K hK)
 | ((with_reducible first | refine q0u ?_ | refine q0m ?_); refine siQ ?_; (try simp (disch := omega) only [w64, wu8]))
 | ((first | refine Wcd rfl (fun h => ?_) fun h => ?_ | refine Wcu rfl (fun h => ?_) ?_ | refine Wcn rfl ?_ fun h => ?_) <;> (try replace h := q0a h) <;> try (exfalso; first | omega | exact absurd h (by decide)))
 | (refine q0j ?_; refine subQ ?_)
 | (subst hK)
 | exact trivial
 all_goals try (intros; assumption)
 all_goals try refine q0w ?_
 all_goals try replace hp := q0a hp
 all_goals try (intros; first | trivial | omega)
 all_goals (try (rw [w64 (by omega) (by omega)]; first | done | omega))
 all_goals clear hC
 all_goals have PW := qwc t.length
 all_goals first
 | omega
 | (rw [w64 (by omega) (by omega)]; done)
end
def cfg156 : Cfg := mkC 51 q2w
theorem qbia : cfg156.pins = [] ∧ cfg156.P = Tryz.prog ∧ cfg156.N = 51 ∧ cfg156.ti 177 = none ∧ cfg156.T 177 = e177 ∧ cfg156.mv 177 = (fun _ => []) := by and_intros <;> exact rfl
section
attribute [local go_sem] qbia e177
attribute [local go_sem] qbi qbl qck qdc qce qdr qd3 qet qb2 Int.toNat_natCast qdq qd4 qee qb9 qc2 qbx qca decI List.length_map nc0 qbj qbo q2j q2k qxv qto quw qwp
theorem qbuy (hC : COk cfg156) (s : ByteArray) (hp : 0 < s.size ∧ s.size ≤ 1000) : Sem Tryz.prog 156 [.d (.s s)] (.tup [.d (qce (qkb s).1), .d (.i .i64 (qkb s).2.1), .d (.i .i64 (qkb s).2.2)]) := by
 refine q0g (C := cfg156) (rs := [.cell 2 187, .tmp 3, .tmp 4]) (fun _ => []) Tryz.func156 rfl rfl rfl rfl rfl rfl ?_
 refine inQ ?_
 repeat' first
 | (with_reducible first | apply q0n | apply q0d | apply Wsq | apply Wbk | apply Wsk | apply Wex | apply Wrt | apply q0o | apply q0p | apply q0e | apply q0f | refine q0b rfl ?_ | apply q0q | apply q0r | apply And.intro)
 | (with_reducible refine Wrn hC ?_; intro K hK)
 | ((with_reducible first | refine q0u ?_ | refine q0m ?_); refine siQ ?_; (try simp (disch := omega) only [w64, wu8]))
 | ((first | refine Wcd rfl (fun h => ?_) fun h => ?_ | refine Wcu rfl (fun h => ?_) ?_ | refine Wcn rfl ?_ fun h => ?_) <;> (try replace h := q0a h) <;> try (exfalso; first | omega | exact absurd h (by decide)))
 | (refine Wlp 3 rfl (ι := Nat × Int × Int) (fun p => mkS [(0, V.d (.s s)), (2, V.ptr 32 0), (5, V.d (.i .i64 p.2.1)), (6, V.d (.i .i64 p.2.2)), (7, V.d (.i .i64 (p.1 : Int)))] ([(32, .live (.box 187 [.d (.i .i64 0), .d (.s ⟨#[]⟩)]))])) (fun p => p.1 ≤ s.size ∧ qhl (zT s) s p.1 p.2.1 = decN (zT s) s ∧ (p.1 < s.size → p.2.2 = 15) ∧ (p.1 = s.size → p.2.2 = hiB (chr s (s.size - 1)) ∧ ¬hiB (chr s (s.size - 1)) < 10)) (fun p => s.size - p.1) ((0, 0, 15)) ?_ ?_ (fun p hi => ?_) <;> (try dsimp only) <;> (try dsimp only at hi))
 | (refine Wnx 3 ((p.1 + 1, IntKind.i64.wrap (IntKind.i64.wrap (10 * p.2.1) + loB (chr s p.1)), if p.1 = s.size - 1 then hiB (chr s p.1) else p.2.2)) ?_ ?_ ?_ <;> (try dsimp only))
 | (refine q0j ?_; refine subQ ?_)
 | (subst hK)
 | exact trivial
 all_goals try (intros; assumption)
 all_goals try refine q0w ?_
 all_goals try replace hp := q0a hp
 all_goals try replace hi := q0a hi
 all_goals try (intros; first | trivial | omega)
 all_goals (try (rw [w64 (by omega) (by omega)]; first | done | omega))
 all_goals clear hC
 all_goals (try have HH := qwm s p.1)
 all_goals first
 | omega
 | rfl
 | (rw [qbb0 hi.2.1 (by omega) (by omega)]; done)
 | (rw [qbb0 hi.2.1 (by omega) (by omega)]; rfl)
 | exact qbnn hi.2.1 (by omega) (by omega)
 | (intro e; rw [show s.size - 1 = p.1 by omega]; omega)
 | (rw [q2l hi.2.1 (by omega) (by omega), (hi.2.2.2 (by omega)).1]; done)
 | (rw [q2l hi.2.1 (by omega) (by omega)]; done)
 | (rw [q2l hi.2.1 (by omega) (by omega)]; rfl)
end
def cfg157 : Cfg := mkC 79 q2x
theorem qbib : cfg157.pins = [] ∧ cfg157.P = Tryz.prog ∧ cfg157.N = 79 ∧ cfg157.ti 177 = none ∧ cfg157.T 177 = e177 ∧ cfg157.mv 177 = (fun _ => []) := by and_intros <;> exact rfl
section
attribute [local go_sem] qbib e177
attribute [local go_sem] qbi qbl qck qdc qce qdr qd3 qet qb2 Int.toNat_natCast qdq qd4 qee qb9 qc2 qbx qca decI List.length_map nc0 qbj qbo q2j q2k qxv qto quw qwp
theorem qbuz (hC : COk cfg157) (t : DType) (s : ByteArray) (hp : t.kind = 1 ∧ (s.size : Int) = t.length / 2 + 1 ∧ 0 ≤ t.length ∧ t.length ≤ 100) : Sem Tryz.prog 157 [.d (qbi t), .d (.s s)] (.tup [.d (qce (qjp t s).1), .d (.i .i64 (qjp t s).2.1), .d (.i .i64 (qjp t s).2.2)]) := by
 refine q0g (C := cfg157) (rs := [.cell 4 187, .tmp 5, .tmp 6]) (fun _ => []) Tryz.func157 rfl rfl rfl rfl rfl rfl ?_
 refine inQ ?_
 repeat' first
 | (with_reducible first | apply q0n | apply q0d | apply Wsq | apply Wbk | apply Wsk | apply Wex | apply Wrt | apply q0o | apply q0p | apply q0e | apply q0f | refine q0b rfl ?_ | apply q0q | apply q0r | apply And.intro)
 | (refine Wat 5 rfl ?_; have hq : IntKind.i64.wrap ((p.1 : Int).tdiv 2) = ((p.1 / 2 : Nat) : Int) := (by rw [Int.tdiv_eq_ediv_of_nonneg (by omega), w64 (by omega) (by omega)]; omega); have hr : IntKind.i64.wrap ((p.1 : Int).tmod 2) = ((p.1 % 2 : Nat) : Int) := (by rw [Int.tmod_eq_emod_of_nonneg (by omega), w64 (by omega) (by omega)]; omega); have hm : IntKind.i64.wrap (t.length.tmod 2) = t.length % 2 := (by rw [Int.tmod_eq_emod_of_nonneg (by omega), w64 (by omega) (by omega)]))
 | (with_reducible first | (refine Whr hC ?_; intro K hK) | (refine Whd hC (by kernel_rfl) ?_; intro K hK))
 | (with_reducible refine Wrn hC ?_; intro K hK)
 | ((with_reducible first | refine q0u ?_ | refine q0m ?_); (first | (simp (maxSteps := 1000000) only [go_sem, ↓reduceIte, reduceCtorEq, Nat.reduceEqDiff, Nat.reduceLT, Nat.reduceLeDiff, Nat.reduceMul, Nat.reduceAdd, Nat.reduceSub, reduceDIte, Nat.reduceBEq, Nat.reduceBNe, hq, hr, hm]) | (refine siQ ?_)); (try simp (disch := omega) only [w64, wu8]))
 | ((first | refine Wcd rfl (fun h => ?_) fun h => ?_ | refine Wcu rfl (fun h => ?_) ?_ | refine Wcn rfl ?_ fun h => ?_) <;> (try replace h := q0a h) <;> try (exfalso; first | omega | exact absurd h (by decide)))
 | (refine Wlp 3 rfl (ι := Nat × Int) (fun p => mkS [(1, V.d (.s s)), (2, V.ptr 32 0), (4, V.ptr 64 0), (7, V.d (.i .i64 p.2)), (8, V.d (.i .i64 (p.1 : Int)))] ([(32, .live (.box 126 [.d (.i .i64 t.kind), .d (.i .i64 t.length), .d (.i .i64 t.scale)])), (64, .live (.box 187 [.d (.i .i64 0), .d (.s ⟨#[]⟩)]))])) (fun p => p.1 ≤ 2 * s.size ∧ (p.1 < 2 * s.size → qhl t s p.1 p.2 = decN t s) ∧ (p.1 = 2 * s.size → decN t s = (p.2, 0, 0))) (fun p => 2 * s.size - p.1) ((0, 0)) ?_ ?_ (fun p hi => ?_) <;> (try dsimp only) <;> (try dsimp only at hi))
 | (refine Wnx 3 ((p.1 + 1, if p.1 = 2 * s.size - 1 then (if qfk s p.1 = 11 ∨ qfk s p.1 = 13 then IntKind.i64.wrap (-p.2) else p.2) else IntKind.i64.wrap (IntKind.i64.wrap (10 * p.2) + qfk s p.1))) ?_ ?_ ?_ <;> (try dsimp only))
 | (refine q0j ?_; refine subQ ?_)
 | (subst hK)
 | exact trivial
 all_goals try (intros; assumption)
 all_goals try refine q0w ?_
 all_goals try replace hp := q0a hp
 all_goals try replace hi := q0a hi
 all_goals try (intros; first | trivial | omega)
 all_goals (try (rw [w64 (by omega) (by omega)]; first | done | omega))
 all_goals clear hC
 all_goals (try have HH := q5z s p.1)
 all_goals (try have HE : p.1 % 2 = 1 → qfk s p.1 = loB (chr s (p.1 / 2)) := fun e => by unfold qfk; rw [if_pos e])
 all_goals (try have HO : ¬p.1 % 2 = 1 → qfk s p.1 = hiB (chr s (p.1 / 2)) := fun e => by unfold qfk; rw [if_neg e])
 all_goals (try have T1 : (p.1 : Int).tmod 2 = ((p.1 % 2 : Nat) : Int) := by rw [Int.tmod_eq_emod_of_nonneg (by omega)]; omega)
 all_goals (try have T2 : t.length.tmod 2 = t.length % 2 := Int.tmod_eq_emod_of_nonneg (by omega))
 all_goals first
 | omega
 | rfl
 | (intro e; exfalso; omega)
 | (intro e; rw [if_pos (by omega)]; exact qbs6 hp.1 (hi.2.1 (by omega)) (by omega) (by omega) (by omega))
 | (intro e; rw [if_neg (by omega)]; exact qbno hp.1 hp.2.1 hp.2.2.1 (hi.2.1 (by omega)) (by omega) (by omega) (by omega))
 | (rw [if_pos (by omega), HE (by omega)]; done)
 | (rw [if_neg (by omega), HE (by omega)]; done)
 | (rw [if_neg (by omega), HO (by omega)]; done)
 | (unfold qjp; rw [hi.2.2 (by omega)]; done)
 | (rw [qbb1 (i := p.1) (n := p.2) hp.1 hp.2.1 hp.2.2.1 (hi.2.1 (by omega)) (by omega) (by omega)]; done)
 | (rw [qbb1 (i := p.1) (n := p.2) hp.1 hp.2.1 hp.2.2.1 (hi.2.1 (by omega)) (by omega) (by omega)]; rfl)
end
def cfg131 : Cfg := mkC 70 q2y
theorem qbic : cfg131.pins = [] ∧ cfg131.P = Tryz.prog ∧ cfg131.N = 70 ∧ cfg131.T 57 = e57 ∧ cfg131.T 152 = e152 ∧ cfg131.T 153 = e153 ∧ cfg131.T 154 = e154 ∧ cfg131.T 155 = e155 ∧ cfg131.T 156 = e156 ∧ cfg131.T 157 = e157 ∧ cfg131.ti = (fun _ => none) ∧ cfg131.mv = fun _ _ => [] := by and_intros <;> exact rfl
section
attribute [local go_sem] qbic e57 e152 e153 e154 e155 e156 e157
theorem tn2 : Int.toNat 2 = 2 := rfl
theorem tn4 : Int.toNat 4 = 4 := rfl
theorem zs2 : IntKind.i64.wrap (1 * 2 ^ min (8 * (2 : Int)).toNat 64) = 65536 := by decide +kernel
theorem zs4 : IntKind.i64.wrap (1 * 2 ^ min (8 * (4 : Int)).toNat 64) = 4294967296 := by decide +kernel
attribute [local go_sem] qbi qbl qck qdc qce qdr qd3 qet qb2 Int.toNat_natCast qdq qd4 qee qb9 qc2 qbx qca decI List.length_map nc0 qbj qbo q2j q2k qxv qto quw qwp
theorem qbu0 (hC : COk cfg131) (t : DType) (s : ByteArray) : Sem Tryz.prog 131 [.d (qbi t), .d (.s s)] (.tup [.d (qce (qd9 t s).1), .d (.i .i64 (qd9 t s).2.1), .d (.i .i64 (qd9 t s).2.2)]) := by
 refine q0g (C := cfg131) (rs := [.cell 4 187, .tmp 5, .tmp 6]) (fun _ => []) Tryz.func131 rfl rfl rfl rfl rfl rfl ?_
 refine inQ ?_
 repeat' first
 | (with_reducible first | apply q0n | apply q0d | apply Wsq | apply Wbk | apply Wsk | apply Wex | apply Wrt | apply q0o | apply q0p | apply q0e | apply q0f | refine q0b rfl ?_ | apply q0q | apply q0r | apply And.intro)
 | (refine Wat 12 rfl ?_; have ht := qk2 (t := t) (by assumption); have hz : s.size = 2 ∨ s.size = 4 := (by have e : (s.size : Int) = qfh t := (by assumption); have e2 : qfh t = 2 + t.length / 9 * 2 := (by unfold qfh; rw [if_neg (by omega), if_pos (by omega)]); omega); rcases hz with hz | hz)
 | (with_reducible first | (refine Whr hC ?_; intro K hK) | (refine Whd hC (by kernel_rfl) ?_; intro K hK))
 | (with_reducible first | (refine Wrn hC ?_; intro K hK) | (refine Wdr hC (by kernel_rfl) ?_; intro K hK))
 | ((with_reducible first | refine q0u ?_ | refine qbu ?_ | refine q0m ?_); (first | (simp (maxSteps := 1000000) only [go_sem, ↓reduceIte, reduceCtorEq, Nat.reduceEqDiff, Nat.reduceLT, Nat.reduceLeDiff, Nat.reduceMul, Nat.reduceAdd, Nat.reduceSub, reduceDIte, Nat.reduceBEq, Nat.reduceBNe, hz]) | (refine siQ ?_)); (try simp (disch := omega) only [w64, wu8]))
 | (with_reducible refine qbh (by kernel_rfl) ?_)
 | ((first | refine Wcd rfl (fun h => ?_) fun h => ?_ | refine Wcu rfl (fun h => ?_) ?_ | refine Wcn rfl ?_ fun h => ?_) <;> (try replace h := q0a h) <;> try (exfalso; first | omega | exact absurd h (by decide)))
 | (refine q0j ?_; refine subQ ?_)
 | (subst hK)
 | exact trivial
 all_goals try (intros; assumption)
 all_goals try refine q0w ?_
 all_goals try (intros; first | trivial | omega)
 all_goals (try (rw [w64 (by omega) (by omega)]; first | done | omega))
 all_goals clear hC
 all_goals (try have ht := qk2 (t := t) (by assumption))
 all_goals (try simp only [Int.toNat_zero, tn2, tn4, zs2, zs4, qbze, qbzf, qbta, qbtb, qbtc] at *)
 all_goals (try have B2 := qbzc (b := s) (by assumption))
 all_goals (try have B4 := qbzd (b := s) (by assumption))
 all_goals first
 | omega
 | (rw [qbnp (by assumption)]; first | done | rfl)
 | (rw [qbs7 (by assumption) (by assumption)]; first | done | rfl)
 | (rw [qbs8 (by assumption) (by assumption) (by assumption)]; first | done | rfl)
 | (rw [qbs9 (by assumption) (by assumption) (by assumption)]; first | done | rfl)
 | (rw [qbgd (by assumption) (by assumption) (by assumption)]; first | done | rfl)
 | (rw [qws (n := qfi s 0 2 - 65536) (by assumption) (by assumption) (by assumption) (by omega) (by omega)]; first | done | rfl)
 | (rw [qws (n := qfi s 0 2) (by assumption) (by assumption) (by assumption) (by omega) (by omega)]; first | done | rfl)
 | (rw [qws (n := qfi s 0 4 - 4294967296) (by assumption) (by assumption) (by assumption) (by omega) (by omega)]; first | done | rfl)
 | (rw [qws (n := qfi s 0 4) (by assumption) (by assumption) (by assumption) (by omega) (by omega)]; first | done | rfl)
 | (rw [qbnq (n := binN s) (by assumption) (by assumption) (by assumption) rfl (by omega)]; first | done | rfl)
 | (rw [qbb2 (by assumption) (by assumption) (by omega)]; first | done | rfl)
 | (have e : (s.size : Int) = qfh t := by assumption
    have q := qmt (t := t) (by assumption)
    omega)
 | (have e : (s.size : Int) = qfh t := by assumption
    rw [e]; unfold qfh; rw [if_pos (by omega)]; done)
end
def cfg174 : Cfg := mkC 22 q2z
theorem qbid : cfg174.pins = [] ∧ cfg174.P = Tryz.prog ∧ cfg174.N = 22 := ⟨rfl, rfl, rfl⟩
section
attribute [local go_sem] qbid
attribute [local go_sem] qbi qbl qck qdc qce qdr qd3 qet Int.toNat_natCast qdq qd4 qee qb9 qc2 qbx qca decI List.length_map nc0 qbj qbo q01 qb7 qdh qd5 qb1 qb8 qem qfe q06 qbz qcx qdl qcb qcm qd6 qen qbt qdm qeo qff qb3 qbr qc1 qdj qcz qeq qdk qc0 qer qdi qcy qep List.length_take qdd Int.toNat_zero Nat.sub_zero List.drop_zero
attribute [local go_sem ←] List.map_take List.map_drop
theorem qbu1 (hC : COk cfg174) (f : Fmt) (name : ByteArray) (hp : f.fields.length ≤ 1000000) : Sem Tryz.prog 174 [.d (qb1 f), .d (.s name)] (.d (.i .i64 (idxI f.fields name))) := by
 refine q0g (C := cfg174) (rs := [.tmp 4]) (fun _ => []) Tryz.func174 rfl rfl rfl rfl rfl rfl ?_
 refine inQ ?_
 repeat' first
 | (with_reducible first | apply q0n | apply q0d | apply Wsq | apply Wbk | apply Wsk | apply Wex | apply Wrt | apply q0o | apply q0p | apply q0e | apply q0f | refine q0b rfl ?_ | apply q0q | apply q0r | apply And.intro)
 | (with_reducible refine Wrn hC ?_; intro K hK)
 | ((with_reducible first | refine q0u ?_ | refine q0m ?_); refine siQ ?_; (try simp (disch := omega) only [w64, wu8]))
 | ((first | refine Wcd rfl (fun h => ?_) fun h => ?_ | refine Wcu rfl (fun h => ?_) ?_ | refine Wcn rfl ?_ fun h => ?_) <;> (try replace h := q0a h) <;> try (exfalso; first | omega | exact absurd h (by decide)))
 | (refine Wlp 2 rfl (ι := Nat) (fun i => mkS [(1, V.d (.s name)), (2, V.ptr 32 0), (5, V.d (.i .i64 (i : Int)))] ([(32, .live (.box 63 [.d (.s f.name), .d (.sl 4 (f.fields.map q01))]))])) (fun i => i ≤ f.fields.length ∧ idxF (f.fields.take i) name = none) (fun i => f.fields.length - i) (0) ?_ ?_ (fun i hi => ?_) <;> (try dsimp only) <;> (try dsimp only at hi))
 | (refine Wnx 2 (i + 1) ?_ ?_ ?_ <;> (try dsimp only))
 | (refine q0j ?_; refine subQ ?_)
 | (subst hK)
 | exact trivial
 all_goals try (intros; assumption)
 all_goals try refine q0w ?_
 all_goals try replace hp := q0a hp
 all_goals try replace hi := q0a hi
 all_goals try (intros; first | trivial | omega)
 all_goals (try (rw [w64 (by omega) (by omega)]; first | done | omega))
 all_goals clear hC
 all_goals first
 | omega
 | rfl
 | (rw [q2m hi.2 (by omega) (by assumption)]; done)
 | exact qyz hi.2 (by omega) (by assumption)
 | (rw [qbnr hi.2 (by omega)]; done)
end
def cfg151 : Cfg := mkC 22 q20
theorem qbie : cfg151.pins = [] ∧ cfg151.P = Tryz.prog ∧ cfg151.N = 22 ∧ cfg151.ti 153 = none ∧ cfg151.T 153 = e153 ∧ cfg151.mv 153 = (fun _ => []) := by and_intros <;> exact rfl
section
attribute [local go_sem] qbie e153
attribute [local go_sem] qbi qbl qck qdc qce qdr qd3 qet Int.toNat_natCast qdq qd4 qee qb9 qc2 qbx qca decI List.length_map nc0 qbj qbo q01 qb7 qdh qd5 qb1 qb8 qem qfe q06 qbz qcx qdl qcb qcm qd6 qen qbt qdm qeo qff qb3 qbr qc1 qdj qcz qeq qdk qc0 qer qdi qcy qep List.length_take qdd Int.toNat_zero Nat.sub_zero List.drop_zero
attribute [local go_sem ←] List.map_take List.map_drop
theorem qbu2 (hC : COk cfg151) (f : Fmt) (hp : f.fields.length ≤ 1000000 ∧ (∀ j, j < f.fields.length → qbs (f.fields.getD j q03).type_ = 0)) : Sem Tryz.prog 151 [.d (qb1 f)] (.d (.i .i64 (qfw f))) := by
 refine q0g (C := cfg151) (rs := [.tmp 2]) (fun _ => []) Tryz.func151 rfl rfl rfl rfl rfl rfl ?_
 refine inQ ?_
 repeat' first
 | (with_reducible first | apply q0n | apply q0d | apply Wsq | apply Wbk | apply Wsk | apply Wex | apply Wrt | apply q0o | apply q0p | apply q0e | apply q0f | refine q0b rfl ?_ | apply q0q | apply q0r | apply And.intro)
 | (with_reducible refine Wrn hC ?_; intro K hK)
 | ((with_reducible first | refine q0u ?_ | refine q0m ?_); refine siQ ?_; (try simp (disch := omega) only [w64, wu8]))
 | ((first | refine Wcd rfl (fun h => ?_) fun h => ?_ | refine Wcu rfl (fun h => ?_) ?_ | refine Wcn rfl ?_ fun h => ?_) <;> (try replace h := q0a h) <;> try (exfalso; first | omega | exact absurd h (by decide)))
 | (refine Wlp 3 rfl (ι := Nat) (fun i => mkS [(1, V.ptr 16 0), (3, V.d (.i .i64 (qct f.fields i))), (4, V.d (.i .i64 (i : Int)))] ([(16, .live (.box 63 [.d (.s f.name), .d (.sl 4 (f.fields.map q01))]))])) (fun i => i ≤ f.fields.length) (fun i => f.fields.length - i) (0) ?_ ?_ (fun i hi => ?_) <;> (try dsimp only) <;> (try dsimp only at hi))
 | (refine Wnx 3 (i + 1) ?_ ?_ ?_ <;> (try dsimp only))
 | (refine q0j ?_; refine subQ ?_)
 | (subst hK)
 | exact trivial
 all_goals try (intros; assumption)
 all_goals try refine q0w ?_
 all_goals try replace hp := q0a hp
 all_goals try replace hi := q0a hi
 all_goals try (intros; first | trivial | omega)
 all_goals (try (rw [w64 (by omega) (by omega)]; first | done | omega))
 all_goals (try have O1 := qhd f.fields i)
 all_goals (try have S1 := qmt (hp.2 i (by omega)))
 all_goals clear hC
 all_goals first
 | omega
 | rfl
 | exact hp.2 i (by omega)
 | (rw [q2o hp.2 (by omega), w64 (by omega) (by omega)]; done)
 | (rw [qfw, show f.fields.length = i by omega]; done)
end
def cfg173 : Cfg := mkC 66 q21
theorem qbif : cfg173.pins = [] ∧ cfg173.P = Tryz.prog ∧ cfg173.N = 66 ∧ cfg173.T 62 = e62 ∧ cfg173.T 106 = e106 ∧ cfg173.T 151 = e151 ∧ cfg173.T 152 = e152 ∧ cfg173.T 174 = e174 ∧ cfg173.ti = (fun _ => none) ∧ cfg173.mv = fun _ _ => [] := by and_intros <;> exact rfl
section
attribute [local go_sem] qbif e62 e106 e151 e152 e174
attribute [local go_sem] qbi qbl qck qdc qce qdr qd3 qet Int.toNat_natCast qdq qd4 qee qb9 qc2 qbx qca decI List.length_map nc0 qbj qbo q01 qb7 qdh qd5 qb1 qb8 qem qfe q06 qbz qcx qdl qcb qcm qd6 qen qbt qdm qeo qff qb3 qbr qc1 qdj qcz qeq qdk qc0 qer qdi qcy qep List.length_take qdd Int.toNat_zero Nat.sub_zero List.drop_zero
attribute [local go_sem ←] List.map_take List.map_drop
theorem qbu3 (hC : COk cfg173) (f : Fmt) (hp : f.fields.length ≤ 1000000) : Sem Tryz.prog 173 [.d (qb1 f)] (.tup [.d (.i .i64 (qhs f.fields).1), .d (.i .i64 (qhs f.fields).2)]) := by
 refine q0g (C := cfg173) (rs := [.tmp 2, .tmp 3]) (fun _ => []) Tryz.func173 rfl rfl rfl rfl rfl rfl ?_
 refine inQ ?_
 repeat' first
 | (with_reducible first | apply q0n | apply q0d | apply Wsq | apply Wbk | apply Wsk | apply Wex | apply Wrt | apply q0o | apply q0p | apply q0e | apply q0f | refine q0b rfl ?_ | apply q0q | apply q0r | apply And.intro)
 | (refine Wat 17 rfl ?_; by_cases hs : 200 < qfw f)
 | (with_reducible first | (refine Whr hC ?_; intro K hK) | (refine Whd hC (by kernel_rfl) ?_; intro K hK))
 | (with_reducible first | (refine Wrn hC ?_; intro K hK) | (refine Wdr hC (by kernel_rfl) ?_; intro K hK))
 | ((with_reducible first | refine q0u ?_ | refine qbu ?_ | refine q0m ?_); (first | (simp (maxSteps := 1000000) only [go_sem, ↓reduceIte, reduceCtorEq, Nat.reduceEqDiff, Nat.reduceLT, Nat.reduceLeDiff, Nat.reduceMul, Nat.reduceAdd, Nat.reduceSub, reduceDIte, Nat.reduceBEq, Nat.reduceBNe, hs]) | (refine siQ ?_)); (try simp (disch := omega) only [w64, wu8]))
 | (with_reducible refine qbh (by kernel_rfl) ?_)
 | ((first | refine Wcd rfl (fun h => ?_) fun h => ?_ | refine Wcu rfl (fun h => ?_) ?_ | refine Wcn rfl ?_ fun h => ?_) <;> (try replace h := q0a h) <;> try (exfalso; first | omega | exact absurd h (by decide)))
 | (refine Wlp 6 rfl (ι := Nat) (fun i => mkS [(1, V.ptr 16 0), (4, V.d (.i .i64 (i : Int)))] ([(16, .live (.box 63 [.d (.s f.name), .d (.sl 4 (f.fields.map q01))]))])) (fun i => i ≤ f.fields.length ∧ (1 ≤ f.fields.length ∧ f.fields.length ≤ 20) ∧ ∀ j, j < i → qe3 f.fields j = 0) (fun i => f.fields.length - i) (0) ?_ ?_ (fun i hi => ?_) <;> (try dsimp only) <;> (try dsimp only at hi))
 | (refine Wnx 6 (i + 1) ?_ ?_ ?_ <;> (try dsimp only))
 | (refine q0j ?_; refine subQ ?_)
 | (subst hK)
 | exact trivial
 all_goals try (intros; assumption)
 all_goals try refine q0w ?_
 all_goals try replace hp := q0a hp
 all_goals try replace hi := q0a hi
 all_goals try (intros; first | trivial | omega)
 all_goals (try (rw [w64 (by omega) (by omega)]; first | done | omega))
 all_goals (try have O1 := qhd f.fields f.fields.length)
 all_goals clear hC
 all_goals (try have N0 : ¬qcn (f.fields.getD i q03).name = false := by rw [show qcn (f.fields.getD i q03).name = true by assumption]; decide)
 all_goals first
 | omega
 | rfl
 | (rw [qbgg (by omega)]; done)
 | (rw [qbb5 (by omega)]; done)
 | exact qbgh hi.2.2 (by omega)
 | (rw [qn3 hi.2.1 hi.2.2 (by omega) (by rw [q50 (by assumption)]; decide)]; first | done | exact q50 (by assumption))
 | (rw [qn3 hi.2.1 hi.2.2 (by omega) (by rw [qbb3 (by omega) N0 (by assumption)]; decide)]; first | done | exact qbb3 (by omega) N0 (by assumption))
 | (rw [qn3 hi.2.1 hi.2.2 (by omega) (by rw [q51 (by omega) N0 (by assumption) (by assumption)]; assumption)]; first | done | exact q51 (by omega) N0 (by assumption) (by assumption))
 | (rw [qn3 hi.2.1 hi.2.2 (by omega) (by rw [qbb4 (by omega) N0 (by assumption) (by assumption) (by assumption)]; decide)]; first | done | exact qbb4 (by omega) N0 (by assumption) (by assumption) (by assumption))
 | exact qex hi.2.2 (qbzg (by omega) N0 (by assumption) (by assumption) (by assumption))
 | (rw [qn4 hi.2.1 hi.2.2 (by omega)]; done)
 | (rw [qn4 hi.2.1 hi.2.2 (by omega)]; unfold qfw; by_cases q : 200 < qct f.fields f.fields.length <;> simp [q]; done)
 | (rw [qn4 hi.2.1 hi.2.2 (by omega), if_pos (by assumption)]; rfl)
 | (rw [qn4 hi.2.1 hi.2.2 (by omega), if_neg (by unfold qfw at hs; omega)]; rfl)
end
end
end Go.Ev
