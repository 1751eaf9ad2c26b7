/- Tools and contracts under the laws of this seat: Drc60 to Drc166. -/
import Derived.Test.YtblpebplbdoneaaGreatE05
set_option linter.unusedVariables false
set_option linter.unusedSimpArgs false
namespace Go.Ev
noncomputable section
open Go.Proofs Ty
set_option maxRecDepth 10000
set_option maxHeartbeats 4000000
def cfg60 : Cfg := mkC 55 q7k
theorem qbol : cfg60.pins = [] ∧ cfg60.P = Tryz.prog ∧ cfg60.N = 55 ∧ cfg60.T 90 = e90 ∧ cfg60.T 91 = e91 ∧ cfg60.ti = (fun _ => none) ∧ cfg60.mv = fun _ _ => [] := by and_intros <;> exact rfl
section
attribute [local go_sem] qbol e90 e91
attribute [local go_sem] q0s q0h qcu qdg q05 qbk qba qby q0x q0v qcr qbm qcj List.length_map Int.toNat_natCast Int.toNat_zero Nat.sub_zero List.length_take qc2 qbx qca qbp qbe qcq qch qdw
attribute [local go_sem ←] List.map_take List.map_drop
theorem qbzt (hC : COk cfg60) (l : List Entry) (hp : l.length ≤ 1000000) : Sem Tryz.prog 60 [.d (.sl 8 (l.map q0h))] (.tup [.d (.i .i64 (qbv l).1), .d (.i .i64 (qbv l).2)]) := by
 refine q0g (C := cfg60) (rs := [.tmp 2, .tmp 3]) (fun _ => []) Tryz.func60 rfl rfl rfl rfl rfl rfl ?_
 refine inQ ?_
 repeat' first
 | (with_reducible first | apply q0n | apply q0d | apply Wsq | apply Wbk | apply Wsk | apply Wex | apply Wrt | apply q0o | apply q0p | apply q0e | apply q0f | refine q0b rfl ?_ | apply q0q | apply q0r | apply And.intro)
 | (with_reducible first | (refine Wrn hC ?_; intro K hK) | (refine Wdr hC (by kernel_rfl) ?_; intro K hK))
 | ((with_reducible first | refine q0u ?_ | refine qbu ?_ | refine q0m ?_); refine siQ ?_; (try simp (disch := omega) only [w64, wu8]))
 | (with_reducible refine qbh (by kernel_rfl) ?_)
 | ((first | refine Wcd rfl (fun h => ?_) fun h => ?_ | refine Wcu rfl (fun h => ?_) ?_ | refine Wcn rfl ?_ fun h => ?_) <;> (try replace h := q0a h) <;> try (exfalso; first | omega | exact absurd h (by decide)))
 | (refine Wlp 4 rfl (ι := Nat) (fun i => mkS [(0, V.d (.sl 8 (l.map q0h))), (4, V.d (.i .i64 (i : Int)))] ([])) (fun i => i ≤ l.length ∧ l.length ≤ 80 ∧ qel l (l.length - i) i = qbv l) (fun i => l.length - i) (0) ?_ ?_ (fun i hi => ?_) <;> (try dsimp only) <;> (try dsimp only at hi))
 | (refine Wnx 4 (i + 1) ?_ ?_ ?_ <;> (try dsimp only))
 | (refine q0j ?_; refine subQ ?_)
 | (subst hK)
 | exact trivial
 all_goals try (intros; assumption)
 all_goals try refine q0w ?_
 all_goals try replace hp := q0a hp
 all_goals try replace hi := q0a hi
 all_goals try (intros; first | trivial | omega)
 all_goals (try (rw [w64 (by omega) (by omega)]; first | done | omega))
 all_goals first
 | (rw [qbv, if_pos (by omega)])
 | (rw [qbv, if_neg (by omega)]; rfl)
 | exact (qp2 hi.2.2 (by omega) (by assumption)).1
 | exact (qp2 hi.2.2 (by omega) (by assumption)).2
 | exact (qp3 hi.2.2 (by omega) (by assumption) h.1 h.2).1
 | exact (qp3 hi.2.2 (by omega) (by assumption) h.1 h.2).2
 | exact (qp4 hi.2.2 (by omega) (by assumption) (by assumption) h).1
 | exact (qp4 hi.2.2 (by omega) (by assumption) (by assumption) h).2
 | exact qxk hi.2.2 (by omega) (by assumption) (by assumption) h
 | (rw [← hi.2.2, qnp (by omega)])
end
def cfg34 : Cfg := mkC 11 q7l
theorem qbom : cfg34.pins = [] ∧ cfg34.P = Tryz.prog ∧ cfg34.N = 11 ∧ cfg34.ti 60 = none ∧ cfg34.T 60 = e60 ∧ cfg34.mv 60 = (fun _ => []) := by and_intros <;> exact rfl
section
attribute [local go_sem] qbom e60
attribute [local go_sem] q0s q0h qcu qdg q05 qbk qba qby q0x q0v qcr qbm qcj List.length_map Int.toNat_natCast Int.toNat_zero Nat.sub_zero List.length_take qc2 qbx qca qbp qbe qcq qch qdw
attribute [local go_sem ←] List.map_take List.map_drop
theorem qbzu (hC : COk cfg34) (l : List Entry) (hp : l.length ≤ 1000000) : Sem Tryz.prog 34 [.d (.sl 8 (l.map q0h))] (.d (.i .i64 (qbv l).2)) := by
 refine q0g (C := cfg34) (rs := [.tmp 2]) (fun _ => []) Tryz.func34 rfl rfl rfl rfl rfl rfl ?_
 refine inQ ?_
 repeat' first
 | (with_reducible first | apply q0n | apply q0d | apply Wsq | apply Wbk | apply Wsk | apply Wex | apply Wrt | apply q0o | apply q0p | apply q0e | apply q0f | refine q0b rfl ?_ | apply q0q | apply q0r | apply And.intro)
 | (with_reducible refine Wrn hC ?_; intro K hK)
 | ((with_reducible first | refine q0u ?_ | refine q0m ?_); refine siQ ?_; (try simp (disch := omega) only [w64, wu8]))
 | ((first | refine Wcd rfl (fun h => ?_) fun h => ?_ | refine Wcu rfl (fun h => ?_) ?_ | refine Wcn rfl ?_ fun h => ?_) <;> (try replace h := q0a h) <;> try (exfalso; first | omega | exact absurd h (by decide)))
 | (refine q0j ?_; refine subQ ?_)
 | (subst hK)
 | exact trivial
 all_goals try (intros; assumption)
 all_goals try refine q0w ?_
 all_goals try replace hp := q0a hp
 all_goals try (intros; first | trivial | omega)
 all_goals (try (rw [w64 (by omega) (by omega)]; first | done | omega))
end
def cfg18 : Cfg := mkC 26 q7m
theorem qbon : cfg18.pins = [] ∧ cfg18.P = Tryz.prog ∧ cfg18.N = 26 := ⟨rfl, rfl, rfl⟩
section
attribute [local go_sem] qbon
attribute [local go_sem] q0s q0h qcu qdg q05 qbk qba qby q0x q0v qcr qbm qcj List.length_map Int.toNat_natCast Int.toNat_zero Nat.sub_zero List.length_take qc2 qbx qca qbp qbe qcq qch qdw
attribute [local go_sem ←] List.map_take List.map_drop
theorem qbzv (hC : COk cfg18) (a : List Entry) (b : List Entry) (hp : a.length ≤ 1000000) : Sem Tryz.prog 18 [.d (.sl 8 (a.map q0h)), .d (.sl 8 (b.map q0h))] (.d (.b (decide (a = b)))) := by
 refine q0g (C := cfg18) (rs := [.tmp 4]) (fun _ => []) Tryz.func18 rfl rfl rfl rfl rfl rfl ?_
 refine inQ ?_
 repeat' first
 | (with_reducible first | apply q0n | apply q0d | apply Wsq | apply Wbk | apply Wsk | apply Wex | apply Wrt | apply q0o | apply q0p | apply q0e | apply q0f | refine q0b rfl ?_ | apply q0q | apply q0r | apply And.intro)
 | (with_reducible first | (refine Wrn hC ?_; intro K hK) | (refine Wdr hC (by kernel_rfl) ?_; intro K hK))
 | ((with_reducible first | refine q0u ?_ | refine qbu ?_ | refine q0m ?_); refine siQ ?_; (try simp (disch := omega) only [w64, wu8]))
 | (with_reducible refine qbh (by kernel_rfl) ?_)
 | ((first | refine Wcd rfl (fun h => ?_) fun h => ?_ | refine Wcu rfl (fun h => ?_) ?_ | refine Wcn rfl ?_ fun h => ?_) <;> (try replace h := q0a h) <;> try (exfalso; first | omega | exact absurd h (by decide)))
 | (refine Wlp 4 rfl (ι := Nat) (fun i => mkS [(0, V.d (.sl 8 (a.map q0h))), (1, V.d (.sl 8 (b.map q0h))), (5, V.d (.i .i64 (i : Int)))] ([])) (fun i => i ≤ a.length ∧ a.length = b.length ∧ a.take i = b.take i) (fun i => a.length - i) (0) ?_ ?_ (fun i hi => ?_) <;> (try dsimp only) <;> (try dsimp only at hi))
 | (refine Wnx 4 (i + 1) ?_ ?_ ?_ <;> (try dsimp only))
 | (refine q0j ?_; refine subQ ?_)
 | (subst hK)
 | exact trivial
 all_goals try (intros; assumption)
 all_goals try refine q0w ?_
 all_goals try replace hp := q0a hp
 all_goals try replace hi := q0a hi
 all_goals try (intros; first | trivial | omega)
 all_goals (try (rw [w64 (by omega) (by omega)]; first | done | omega))
 all_goals first
 | rfl
 | (intro e; subst e; exact h rfl)
 | exact qda hi.2.2 (by omega) (by omega)
 | exact qih hi.2.2 (by omega) (by omega) (by assumption)
 | (simp only [decide_eq_true_eq]; exact qda hi.2.2 (by omega) (by omega))
end
def cfg52 : Cfg := mkC 112 q7n
theorem qboo : cfg52.pins = [] ∧ cfg52.P = Tryz.prog ∧ cfg52.N = 112 ∧ cfg52.ti 82 = none ∧ cfg52.T 82 = e82 ∧ cfg52.mv 82 = (fun _ => []) := by and_intros <;> exact rfl
section
attribute [local go_sem] qboo e82
attribute [local go_sem] q0s q0h qcu qdg q05 qbk qba qby q0x q0v qcr qbm qcj List.length_map Int.toNat_natCast Int.toNat_zero Nat.sub_zero List.length_take qc2 qbx qca qbp qbe qcq qch qdw isK3 q007 q4q qbs0 qfl qe4 qf8
attribute [local go_sem ←] List.map_take List.map_drop
theorem qbzw (hC : COk cfg52) (l : List Entry) (hp : l.length ≤ 1000000) : Sem Tryz.prog 52 [.d (.sl 8 (l.map q0h))] (.tup [.d (.mp ((qj8 l).map keyU) ((qj8 l).map fun u => .cp (qed u))), .d (.i .i64 (qbv l).1), .d (.i .i64 (qbv l).2)]) := by
 refine q0g (C := cfg52) (rs := [.tmp 2, .tmp 3, .tmp 4]) (fun _ => []) Tryz.func52 rfl rfl rfl rfl rfl rfl ?_
 refine inQ ?_
 repeat' first
 | (with_reducible first | apply q0n | apply q0d | apply Wsq | apply Wbk | apply Wsk | apply Wex | apply Wrt | apply q0o | apply q0p | apply q0e | apply q0f | refine q0b rfl ?_ | apply q0q | apply q0r | apply And.intro)
 | (refine Wat 12 rfl ?_; rcases hq : uidx (qb6 (l.take i)) (l.getD i q0i).unit with _ | k; rotate_left; obtain ⟨u, hu, hun, hlt⟩ := qix hq; have hv := qbfi hlt; have hf := qbm9 (t := 143) hu; clear hlt)
 | (with_reducible first | (refine Whr hC ?_; intro K hK) | (refine Whd hC (by kernel_rfl) ?_; intro K hK))
 | (with_reducible first | (refine Wrn hC ?_; intro K hK) | (refine Wdr hC (by kernel_rfl) ?_; intro K hK))
 | ((with_reducible first | refine q0u ?_ | refine qbu ?_ | refine q0m ?_); (first | (simp (maxSteps := 1000000) only [go_sem, ↓reduceIte, reduceCtorEq, Nat.reduceEqDiff, Nat.reduceLT, Nat.reduceLeDiff, Nat.reduceMul, Nat.reduceAdd, Nat.reduceSub, reduceDIte, Nat.reduceBEq, Nat.reduceBNe, hq, hv, hf]) | (simp (maxSteps := 1000000) only [go_sem, ↓reduceIte, reduceCtorEq, Nat.reduceEqDiff, Nat.reduceLT, Nat.reduceLeDiff, Nat.reduceMul, Nat.reduceAdd, Nat.reduceSub, reduceDIte, Nat.reduceBEq, Nat.reduceBNe, hq]) | (refine siQ ?_)); (try simp (disch := omega) only [w64, wu8]))
 | (with_reducible refine qbh (by kernel_rfl) ?_)
 | ((first | refine Wcd rfl (fun h => ?_) fun h => ?_ | refine Wcu rfl (fun h => ?_) ?_ | refine Wcn rfl ?_ fun h => ?_) <;> (try replace h := q0a h) <;> try (exfalso; first | omega | exact absurd h (by decide)))
 | (refine Wlp 5 rfl (ι := Nat) (fun i => mkS [(0, V.d (.sl 8 (l.map q0h))), (5, V.mref 240), (16, V.d (.sl 8 (l.map q0h))), (17, V.d (.i .i64 (l.length : Int))), (18, V.d (.i .i64 (i : Int)))] ((240, .live (.mp 97 ((qb6 (l.take i)).map keyU) (ptrs ((qb6 (l.take i)).map qed).length))) :: fam 143 ((qb6 (l.take i)).map qed))) (fun i => i ≤ l.length ∧ l.length ≤ 80 ∧ qel l (l.length - i) i = qbv l ∧ UInv (qb6 (l.take i)) (l.take i)) (fun i => l.length - i) (0) ?_ ?_ (fun i hi => ?_) <;> (try dsimp only) <;> (try dsimp only at hi))
 | (refine Wnx 5 (i + 1) ?_ ?_ ?_ <;> (try dsimp only))
 | (refine qyv (M := 240) (us := []) (by omega) rfl ?_ ?_ ?_ ?_ <;> first
   | (simp only [aget, Nat.reduceEqDiff, qfl, qe4, qf8, Nat.reduceLT, ↓reduceIte, List.take_zero]; done)
   | (intro j; simp only [aget, Nat.reduceEqDiff, qfl, qe4, qf8, Nat.reduceLT, ↓reduceIte]; done)
   | (intro j hj; simp only [aget, Nat.reduceEqDiff, qfl, qe4, qf8, Nat.reduceLT, hj, ↓reduceIte]; done)
   | (intro ρ nf h1 h2; simp only [qki, aget, vs, ↓reduceIte, Nat.reduceEqDiff, qoi, qnf, dle, D.i.injEq, eq_self, and_self, and_true, true_and, V.mref.injEq, exists_eq_left', h1, h2]; first | done | omega)
   | (rw [qfa (by omega), qmh (by omega) (by omega)]; done)
   | (rw [qfa (by omega), qnh (by omega)]; done)
   | (rw [qfa (by omega), qo7 (by omega) (by omega) hq hu]; done)
   | (simp only [aget, Nat.reduceEqDiff, qfl, qe4, qf8, Nat.reduceLT, ↓reduceIte, uEnd]; (repeat' split) <;> first | rfl | (exfalso; omega))
   | (show qb6 (l.take 0) = []; rfl))
 | (refine qyv (M := 240) (us := qb6 (l.take i)) (by omega) rfl ?_ ?_ ?_ ?_ <;> first
   | (simp only [aget, Nat.reduceEqDiff, qfl, qe4, qf8, Nat.reduceLT, ↓reduceIte, List.take_zero]; done)
   | (intro j; simp only [aget, Nat.reduceEqDiff, qfl, qe4, qf8, Nat.reduceLT, ↓reduceIte]; done)
   | (intro j hj; simp only [aget, Nat.reduceEqDiff, qfl, qe4, qf8, Nat.reduceLT, hj, ↓reduceIte]; done)
   | (intro ρ nf h1 h2; simp only [qki, aget, vs, ↓reduceIte, Nat.reduceEqDiff, qoi, qnf, dle, D.i.injEq, eq_self, and_self, and_true, true_and, V.mref.injEq, exists_eq_left', h1, h2]; first | done | omega)
   | (rw [qfa (by omega), qmh (by omega) (by omega)]; done)
   | (rw [qfa (by omega), qnh (by omega)]; done)
   | (rw [qfa (by omega), qo7 (by omega) (by omega) hq hu]; done)
   | (simp only [aget, Nat.reduceEqDiff, qfl, qe4, qf8, Nat.reduceLT, ↓reduceIte, uEnd]; (repeat' split) <;> first | rfl | (exfalso; omega))
   | (show qb6 (l.take 0) = []; rfl))
 | (refine qbfk (M := 240) (us := qb6 (l.take i)) (by omega) rfl (b := 1232) (u := ⟨(l.getD i q0i).unit, (l.getD i q0i).number, (l.getD i q0i).number, 2⟩) (by omega) (by omega) ?_ ?_ ?_ ?_ ?_ <;> first
   | (simp only [aget, Nat.reduceEqDiff, qfl, qe4, qf8, Nat.reduceLT, ↓reduceIte, List.take_zero]; done)
   | (intro j; simp only [aget, Nat.reduceEqDiff, qfl, qe4, qf8, Nat.reduceLT, ↓reduceIte]; done)
   | (intro j hj; simp only [aget, Nat.reduceEqDiff, qfl, qe4, qf8, Nat.reduceLT, hj, ↓reduceIte]; done)
   | (intro ρ nf h1 h2; simp only [qki, aget, vs, ↓reduceIte, Nat.reduceEqDiff, qoi, qnf, dle, D.i.injEq, eq_self, and_self, and_true, true_and, V.mref.injEq, exists_eq_left', h1, h2]; first | done | omega)
   | (rw [qfa (by omega), qmh (by omega) (by omega)]; done)
   | (rw [qfa (by omega), qnh (by omega)]; done)
   | (rw [qfa (by omega), qo7 (by omega) (by omega) hq hu]; done)
   | (simp only [aget, Nat.reduceEqDiff, qfl, qe4, qf8, Nat.reduceLT, ↓reduceIte, uEnd]; (repeat' split) <;> first | rfl | (exfalso; omega))
   | (show qb6 (l.take 0) = []; rfl))
 | (refine qbfl (M := 240) (us := qb6 (l.take i)) (by omega) rfl (u' := uEnd (l.getD i q0i) u) hu ?_ ?_ rfl ?_ ?_ ?_ <;> first
   | (simp only [aget, Nat.reduceEqDiff, qfl, qe4, qf8, Nat.reduceLT, ↓reduceIte, List.take_zero]; done)
   | (intro j; simp only [aget, Nat.reduceEqDiff, qfl, qe4, qf8, Nat.reduceLT, ↓reduceIte]; done)
   | (intro j hj; simp only [aget, Nat.reduceEqDiff, qfl, qe4, qf8, Nat.reduceLT, hj, ↓reduceIte]; done)
   | (intro ρ nf h1 h2; simp only [qki, aget, vs, ↓reduceIte, Nat.reduceEqDiff, qoi, qnf, dle, D.i.injEq, eq_self, and_self, and_true, true_and, V.mref.injEq, exists_eq_left', h1, h2]; first | done | omega)
   | (rw [qfa (by omega), qmh (by omega) (by omega)]; done)
   | (rw [qfa (by omega), qnh (by omega)]; done)
   | (rw [qfa (by omega), qo7 (by omega) (by omega) hq hu]; done)
   | (simp only [aget, Nat.reduceEqDiff, qfl, qe4, qf8, Nat.reduceLT, ↓reduceIte, uEnd]; (repeat' split) <;> first | rfl | (exfalso; omega))
   | (show qb6 (l.take 0) = []; rfl))
 | (refine q0j ?_; refine subQ ?_)
 | (subst hK)
 | exact trivial
 all_goals try (intros; assumption)
 all_goals try refine q0w ?_
 all_goals try replace hp := q0a hp
 all_goals try replace hi := q0a hi
 all_goals try replace hj := q0a hj
 all_goals try (intros; first | trivial | omega)
 all_goals (try (rw [w64 (by omega) (by omega)]; first | done | omega))
 all_goals first
 | (rw [qt8 (by omega)]; done)
 | (rw [qk1 (by rw [qt8 (by omega)]; decide)]; trivial)
 | exact qbfm (by omega)
 | exact UInv.nil
 | exact qbjg _
 | (rw [qv2 hi.2.2.1 (by omega) (by assumption)]; done)
 | (rw [qk1 (by rw [qv2 hi.2.2.1 (by omega) (by assumption)]; assumption)]; trivial)
 | (rw [qv3 hi.2.2.1 (by omega) (by assumption) (by assumption)]; done)
 | (rw [qk1 (by rw [qv3 hi.2.2.1 (by omega) (by assumption) (by assumption)]; show (14 : Int) ≠ 0; decide)]; trivial)
 | (have e : l.take i = l := List.take_of_length_le (by omega)
    rw [e, qo8 (by rw [← hi.2.2.1, qnp (by omega)])]; exact q0k _)
 | (rw [← hi.2.2.1, qnp (by omega)]; done)
 | (have hst := (hi.2.2.2.st (l.getD i q0i)).trans (qbfn hq)
    have hck := qt9 hi.2.2.1 (by omega) (by assumption) (by omega) hst
    clear hC hq
    first
    | (rw [if_pos (by (repeat' split) <;> omega)] at hck; first | exact hck | exact hi.2.2.2.next (by omega) (hst.trans (by (repeat' split) <;> omega)))
    | (rw [if_neg (by (repeat' split) <;> omega)] at hck; first | (rw [hck]; done) | (rw [hck]; (repeat' split) <;> first | rfl | omega) | (rw [qk1 (by rw [hck]; dsimp only; (repeat' split) <;> omega)]; trivial)))
 | (have hst := (hi.2.2.2.st (l.getD i q0i)).trans (qbfo hq hu)
    have hck := qt9 hi.2.2.1 (by omega) (by assumption) (by omega) hst
    clear hC hq
    first
    | (rw [if_pos (by (repeat' split) <;> omega)] at hck; first | exact hck | exact hi.2.2.2.next (by omega) (hst.trans (by (repeat' split) <;> omega)))
    | (rw [if_neg (by (repeat' split) <;> omega)] at hck; first | (rw [hck]; done) | (rw [hck]; (repeat' split) <;> first | rfl | omega) | (rw [qk1 (by rw [hck]; dsimp only; (repeat' split) <;> omega)]; trivial)))
end
def cfg25 : Cfg := mkC 15 q7o
theorem qbop : cfg25.pins = [] ∧ cfg25.P = Tryz.prog ∧ cfg25.N = 15 ∧ cfg25.ti 52 = none ∧ cfg25.T 52 = e52 ∧ cfg25.mv 52 = (fun _ => []) := by and_intros <;> exact rfl
section
attribute [local go_sem] qbop e52
attribute [local go_sem] q0s q0h qcu qdg q05 qbk qba qby q0x q0v qcr qbm qcj List.length_map Int.toNat_natCast Int.toNat_zero Nat.sub_zero List.length_take qc2 qbx qca qbp qbe qcq qch qdw
attribute [local go_sem ←] List.map_take List.map_drop
theorem qbzx (hC : COk cfg25) (l : List Entry) (hp : l.length ≤ 1000000) : Sem Tryz.prog 25 [.d (.sl 8 (l.map q0h))] (.tup [.d (.i .i64 (qbv l).1), .d (.i .i64 (qbv l).2)]) := by
 refine q0g (C := cfg25) (rs := [.tmp 2, .tmp 3]) (fun _ => []) Tryz.func25 rfl rfl rfl rfl rfl rfl ?_
 refine inQ ?_
 repeat' first
 | (with_reducible first | apply q0n | apply q0d | apply Wsq | apply Wbk | apply Wsk | apply Wex | apply Wrt | apply q0o | apply q0p | apply q0e | apply q0f | refine q0b rfl ?_ | apply q0q | apply q0r | apply And.intro)
 | (with_reducible refine Wrn hC ?_; intro K hK)
 | ((with_reducible first | refine q0u ?_ | refine q0m ?_); refine siQ ?_; (try simp (disch := omega) only [w64, wu8]))
 | ((first | refine Wcd rfl (fun h => ?_) fun h => ?_ | refine Wcu rfl (fun h => ?_) ?_ | refine Wcn rfl ?_ fun h => ?_) <;> (try replace h := q0a h) <;> try (exfalso; first | omega | exact absurd h (by decide)))
 | (refine q0j ?_; refine subQ ?_)
 | (subst hK)
 | exact trivial
 all_goals try (intros; assumption)
 all_goals try refine q0w ?_
 all_goals try replace hp := q0a hp
 all_goals try (intros; first | trivial | omega)
 all_goals (try (rw [w64 (by omega) (by omega)]; first | done | omega))
end
def cfg13 : Cfg := mkC 5 q7p
theorem qboq : cfg13.pins = [] ∧ cfg13.P = Tryz.prog ∧ cfg13.N = 5 := ⟨rfl, rfl, rfl⟩
section
attribute [local go_sem] qboq
attribute [local go_sem] qbm qcj List.length_map Int.toNat_natCast Int.toNat_zero Nat.sub_zero List.length_take qc2 qbx qca qbp qbe qcq qch qdw
attribute [local go_sem ←] List.map_take List.map_drop
theorem qbzy (hC : COk cfg13) (l : List Entry) (hp : l.length ≤ 1000000) : Sem Tryz.prog 13 [.d (.sl 8 (l.map q0h))] (.own 52 8 (l.map q0h)) := by
 refine q0g (C := cfg13) (rs := [.tmp 2]) (fun _ => [(0, 52, 8)]) Tryz.func13 rfl rfl rfl rfl rfl rfl ?_
 refine inQ ?_
 repeat' first
 | (with_reducible first | apply q0n | apply q0d | apply Wsq | apply Wbk | apply Wsk | apply Wex | apply Wrt | apply q0o | apply q0p | apply q0e | apply q0f | refine q0b rfl ?_ | apply q0q | apply q0r | apply And.intro)
 | (with_reducible refine Wrn hC ?_; intro K hK)
 | ((with_reducible first | refine q0u ?_ | refine q0m ?_); refine siQ ?_; (try simp (disch := omega) only [w64, wu8]))
 | ((first | refine Wcd rfl (fun h => ?_) fun h => ?_ | refine Wcu rfl (fun h => ?_) ?_ | refine Wcn rfl ?_ fun h => ?_) <;> (try replace h := q0a h) <;> try (exfalso; first | omega | exact absurd h (by decide)))
 | (refine q0j ?_; refine subQ ?_)
 | (subst hK)
 | exact trivial
 all_goals try (intros; assumption)
 all_goals try refine q0w ?_
 all_goals try replace hp := q0a hp
 all_goals try (intros; first | trivial | omega)
 all_goals (try (rw [w64 (by omega) (by omega)]; first | done | omega))
 all_goals first | omega | (simp_all [dles]; done)
end
def cfg179 : Cfg := mkC 15 q7q
theorem qbhg : cfg179.pins = [] ∧ cfg179.P = Tryz.prog ∧ cfg179.N = 15 := ⟨rfl, rfl, rfl⟩
section
attribute [local go_sem] qbhg
theorem qbt3 (hC : COk cfg179) (n : Int) (lo : Int) (hi : Int) : Sem Tryz.prog 179 [.d (.i .i64 n), .d (.i .i64 lo), .d (.i .i64 hi)] (.d (.b (decide (lo ≤ n) && decide (n ≤ hi)))) := by
 refine q0g (C := cfg179) (rs := [.tmp 6]) (fun _ => []) Tryz.func179 rfl rfl rfl rfl rfl rfl ?_
 refine inQ ?_
 repeat' first
 | (with_reducible first | apply q0n | apply q0d | apply Wsq | apply Wbk | apply Wsk | apply Wex | apply Wrt | apply q0o | apply q0p | apply q0e | apply q0f | refine q0b rfl ?_ | apply q0q | apply q0r | apply And.intro)
 | (with_reducible refine Wrn hC ?_; intro K hK)
 | ((with_reducible first | refine q0u ?_ | refine q0m ?_); refine siQ ?_; (try simp (disch := omega) only [w64, wu8]))
 | ((first | refine Wcd rfl (fun h => ?_) fun h => ?_ | refine Wcu rfl (fun h => ?_) ?_ | refine Wcn rfl ?_ fun h => ?_) <;> (try replace h := q0a h) <;> try (exfalso; first | omega | exact absurd h (by decide)))
 | (refine q0j ?_; refine subQ ?_)
 | (subst hK)
 | exact trivial
 all_goals try (intros; assumption)
 all_goals try refine q0w ?_
 all_goals try replace hi := q0a hi
 all_goals try (intros; first | trivial | omega)
 all_goals (try (rw [w64 (by omega) (by omega)]; first | done | omega))
end
def cfg168 : Cfg := mkC 7 q1j
theorem qbhh : cfg168.pins = [] ∧ cfg168.P = Tryz.prog ∧ cfg168.N = 7 := ⟨rfl, rfl, rfl⟩
section
attribute [local go_sem] qbhh
theorem qbt4 (hC : COk cfg168) (b : Bool) (e : Int) : Sem Tryz.prog 168 [.d (.b b), .d (.i .i64 e)] (.d (.i .i64 (if b = true then e else 0))) := by
 refine q0g (C := cfg168) (rs := [.tmp 4]) (fun _ => []) Tryz.func168 rfl rfl rfl rfl rfl rfl ?_
 refine inQ ?_
 repeat' first
 | (with_reducible first | apply q0n | apply q0d | apply Wsq | apply Wbk | apply Wsk | apply Wex | apply Wrt | apply q0o | apply q0p | apply q0e | apply q0f | refine q0b rfl ?_ | apply q0q | apply q0r | apply And.intro)
 | (with_reducible refine Wrn hC ?_; intro K hK)
 | ((with_reducible first | refine q0u ?_ | refine q0m ?_); refine siQ ?_; (try simp (disch := omega) only [w64, wu8]))
 | ((first | refine Wcd rfl (fun h => ?_) fun h => ?_ | refine Wcu rfl (fun h => ?_) ?_ | refine Wcn rfl ?_ fun h => ?_) <;> (try replace h := q0a h) <;> try (exfalso; first | omega | exact absurd h (by decide)))
 | (refine q0j ?_; refine subQ ?_)
 | (subst hK)
 | exact trivial
 all_goals try (intros; assumption)
 all_goals try refine q0w ?_
 all_goals try (intros; first | trivial | omega)
 all_goals (try (rw [w64 (by omega) (by omega)]; first | done | omega))
 all_goals simp [*]
end
def cfg167 : Cfg := mkC 15 q1k
theorem qbhi : cfg167.pins = [] ∧ cfg167.P = Tryz.prog ∧ cfg167.N = 15 := ⟨rfl, rfl, rfl⟩
section
attribute [local go_sem] qbhi
attribute [local go_sem] qb9 List.length_map Int.toNat_natCast
theorem qbt5 (hC : COk cfg167) (l : List Int) (hp : l.length ≤ 1000000) : Sem Tryz.prog 167 [.d (.sl 1 (l.map (D.i .i64)))] (.d (.i .i64 (qb2 l))) := by
 refine q0g (C := cfg167) (rs := [.tmp 2]) (fun _ => []) Tryz.func167 rfl rfl rfl rfl rfl rfl ?_
 refine inQ ?_
 repeat' first
 | (with_reducible first | apply q0n | apply q0d | apply Wsq | apply Wbk | apply Wsk | apply Wex | apply Wrt | apply q0o | apply q0p | apply q0e | apply q0f | refine q0b rfl ?_ | apply q0q | apply q0r | apply And.intro)
 | (with_reducible refine Wrn hC ?_; intro K hK)
 | ((with_reducible first | refine q0u ?_ | refine q0m ?_); refine siQ ?_; (try simp (disch := omega) only [w64, wu8]))
 | ((first | refine Wcd rfl (fun h => ?_) fun h => ?_ | refine Wcu rfl (fun h => ?_) ?_ | refine Wcn rfl ?_ fun h => ?_) <;> (try replace h := q0a h) <;> try (exfalso; first | omega | exact absurd h (by decide)))
 | (refine Wlp 2 rfl (ι := Nat) (fun i => mkS [(5, V.d (.sl 1 (l.map (D.i .i64)))), (6, V.d (.i .i64 (l.length : Int))), (7, V.d (.i .i64 (i : Int)))] ([])) (fun i => i ≤ l.length ∧ qb2 (l.drop i) = qb2 l) (fun i => l.length - i) (0) ?_ ?_ (fun i hi => ?_) <;> (try dsimp only) <;> (try dsimp only at hi))
 | (refine Wnx 2 (i + 1) ?_ ?_ ?_ <;> (try dsimp only))
 | (refine q0j ?_; refine subQ ?_)
 | (subst hK)
 | exact trivial
 all_goals try (intros; assumption)
 all_goals try refine q0w ?_
 all_goals try replace hp := q0a hp
 all_goals try replace hi := q0a hi
 all_goals try (intros; first | trivial | omega)
 all_goals (try (rw [w64 (by omega) (by omega)]; first | done | omega))
 all_goals first
 | rfl
 | (rw [qwa hi.2 (by omega) (by assumption)]; done)
 | exact qyy hi.2 (by omega) (by assumption)
 | (rw [qwb hi.2 (by omega)]; done)
end
def cfg85 : Cfg := mkC 7 q1l
theorem qbor : cfg85.pins = [] ∧ cfg85.P = Tryz.prog ∧ cfg85.N = 7 := ⟨rfl, rfl, rfl⟩
section
attribute [local go_sem] qbor
theorem qbzz (hC : COk cfg85) (b : Bool) (e : Int) : Sem Tryz.prog 85 [.d (.b b), .d (.i .i64 e)] (.d (.i .i64 (if b = true then e else 0))) := by
 refine q0g (C := cfg85) (rs := [.tmp 4]) (fun _ => []) Tryz.func85 rfl rfl rfl rfl rfl rfl ?_
 refine inQ ?_
 repeat' first
 | (with_reducible first | apply q0n | apply q0d | apply Wsq | apply Wbk | apply Wsk | apply Wex | apply Wrt | apply q0o | apply q0p | apply q0e | apply q0f | refine q0b rfl ?_ | apply q0q | apply q0r | apply And.intro)
 | (with_reducible refine Wrn hC ?_; intro K hK)
 | ((with_reducible first | refine q0u ?_ | refine q0m ?_); refine siQ ?_; (try simp (disch := omega) only [w64, wu8]))
 | ((first | refine Wcd rfl (fun h => ?_) fun h => ?_ | refine Wcu rfl (fun h => ?_) ?_ | refine Wcn rfl ?_ fun h => ?_) <;> (try replace h := q0a h) <;> try (exfalso; first | omega | exact absurd h (by decide)))
 | (refine q0j ?_; refine subQ ?_)
 | (subst hK)
 | exact trivial
 all_goals try (intros; assumption)
 all_goals try refine q0w ?_
 all_goals try (intros; first | trivial | omega)
 all_goals (try (rw [w64 (by omega) (by omega)]; first | done | omega))
 all_goals simp [*]
end
def cfg83 : Cfg := mkC 15 q7v
theorem qbos : cfg83.pins = [] ∧ cfg83.P = Tryz.prog ∧ cfg83.N = 15 := ⟨rfl, rfl, rfl⟩
section
attribute [local go_sem] qbos
attribute [local go_sem] qb9 List.length_map Int.toNat_natCast
theorem qbz0 (hC : COk cfg83) (l : List Int) (hp : l.length ≤ 1000000) : Sem Tryz.prog 83 [.d (.sl 1 (l.map (D.i .i64)))] (.d (.i .i64 (qb2 l))) := by
 refine q0g (C := cfg83) (rs := [.tmp 2]) (fun _ => []) Tryz.func83 rfl rfl rfl rfl rfl rfl ?_
 refine inQ ?_
 repeat' first
 | (with_reducible first | apply q0n | apply q0d | apply Wsq | apply Wbk | apply Wsk | apply Wex | apply Wrt | apply q0o | apply q0p | apply q0e | apply q0f | refine q0b rfl ?_ | apply q0q | apply q0r | apply And.intro)
 | (with_reducible refine Wrn hC ?_; intro K hK)
 | ((with_reducible first | refine q0u ?_ | refine q0m ?_); refine siQ ?_; (try simp (disch := omega) only [w64, wu8]))
 | ((first | refine Wcd rfl (fun h => ?_) fun h => ?_ | refine Wcu rfl (fun h => ?_) ?_ | refine Wcn rfl ?_ fun h => ?_) <;> (try replace h := q0a h) <;> try (exfalso; first | omega | exact absurd h (by decide)))
 | (refine Wlp 2 rfl (ι := Nat) (fun i => mkS [(5, V.d (.sl 1 (l.map (D.i .i64)))), (6, V.d (.i .i64 (l.length : Int))), (7, V.d (.i .i64 (i : Int)))] ([])) (fun i => i ≤ l.length ∧ qb2 (l.drop i) = qb2 l) (fun i => l.length - i) (0) ?_ ?_ (fun i hi => ?_) <;> (try dsimp only) <;> (try dsimp only at hi))
 | (refine Wnx 2 (i + 1) ?_ ?_ ?_ <;> (try dsimp only))
 | (refine q0j ?_; refine subQ ?_)
 | (subst hK)
 | exact trivial
 all_goals try (intros; assumption)
 all_goals try refine q0w ?_
 all_goals try replace hp := q0a hp
 all_goals try replace hi := q0a hi
 all_goals try (intros; first | trivial | omega)
 all_goals (try (rw [w64 (by omega) (by omega)]; first | done | omega))
 all_goals first
 | rfl
 | (rw [qwa hi.2 (by omega) (by assumption)]; done)
 | exact qyy hi.2 (by omega) (by assumption)
 | (rw [qwb hi.2 (by omega)]; done)
end
def cfg144 : Cfg := mkC 65 q7w
theorem qbhj : cfg144.pins = [] ∧ cfg144.P = Tryz.prog ∧ cfg144.N = 65 := ⟨rfl, rfl, rfl⟩
section
attribute [local go_sem] qbhj
attribute [local go_sem] Int.toNat_natCast qdq qbj qbo
theorem qbt6 (hC : COk cfg144) (s : ByteArray) : Sem Tryz.prog 144 [.d (.s s)] (.d (.b (qcn s))) := by
 refine q0g (C := cfg144) (rs := [.tmp 2]) (fun _ => []) Tryz.func144 rfl rfl rfl rfl rfl rfl ?_
 refine inQ ?_
 repeat' first
 | (with_reducible first | apply q0n | apply q0d | apply Wsq | apply Wbk | apply Wsk | apply Wex | apply Wrt | apply q0o | apply q0p | apply q0e | apply q0f | refine q0b rfl ?_ | apply q0q | apply q0r | apply And.intro)
 | (with_reducible refine Wrn hC ?_; intro K hK)
 | ((with_reducible first | refine q0u ?_ | refine q0m ?_); refine siQ ?_; (try simp (disch := omega) only [w64, wu8]))
 | ((first | refine Wcd rfl (fun h => ?_) fun h => ?_ | refine Wcu rfl (fun h => ?_) ?_ | refine Wcn rfl ?_ fun h => ?_) <;> (try replace h := q0a h) <;> try (exfalso; first | omega | exact absurd h (by decide)))
 | (refine Wlp 4 rfl (ι := Nat) (fun i => mkS [(15, V.d (.sl 1 (qic s))), (16, V.d (.i .i64 (s.size : Int))), (17, V.d (.i .i64 (i : Int)))] ([])) (fun i => i ≤ s.size ∧ 1 ≤ s.size ∧ s.size ≤ 10 ∧ ∀ j, j < i → qo6 (j == 0) (chr s j) = true) (fun i => s.size - i) (0) ?_ ?_ (fun i hi => ?_) <;> (try dsimp only) <;> (try dsimp only at hi))
 | (refine Wnx 4 (i + 1) ?_ ?_ ?_ <;> (try dsimp only))
 | (refine q0j ?_; refine subQ ?_)
 | (subst hK)
 | exact trivial
 all_goals try (intros; assumption)
 all_goals try refine q0w ?_
 all_goals try replace hi := q0a hi
 all_goals try replace hj := q0a hj
 all_goals try (intros; first | trivial | omega)
 all_goals (try (rw [w64 (by omega) (by omega)]; first | done | omega))
 all_goals (try simp only [qup] at *)
 all_goals first
 | omega
 | exact qqn (by omega)
 | exact qsb (i := i) (by omega) (by rw [← Bool.not_eq_true, ql5]; omega)
 | exact fun j hj => if e : j < i then hi.2.2.2 j e else by
    have : j = i := by omega
    subst this
    rw [ql5]
    omega
 | exact qqm (by omega) (by omega) fun j hj => hi.2.2.2 j (by omega)
end
def cfg165 : Cfg := mkC 54 q1m
theorem qbhk : cfg165.pins = [] ∧ cfg165.P = Tryz.prog ∧ cfg165.N = 54 ∧ cfg165.T 167 = e167 ∧ cfg165.T 168 = e168 ∧ cfg165.T 179 = e179 ∧ cfg165.ti = (fun _ => none) ∧ cfg165.mv = fun _ _ => [] := by and_intros <;> exact rfl
section
attribute [local go_sem] qbhk e167 e168 e179
attribute [local go_sem] qbi qbl qck qdc qce qdr qd3 qet qb2 Int.toNat_natCast qdq qd4 qee qb9 qc2 qbx qca decI List.length_map nc0 qbj qbo
theorem qbt7 (hC : COk cfg165) (t : DType) : Sem Tryz.prog 165 [.d (qbi t)] (.d (.i .i64 (qbs t))) := by
 refine q0g (C := cfg165) (rs := [.tmp 2]) (fun _ => []) Tryz.func165 rfl rfl rfl rfl rfl rfl ?_
 refine inQ ?_
 repeat' first
 | (with_reducible first | apply q0n | apply q0d | apply Wsq | apply Wbk | apply Wsk | apply Wex | apply Wrt | apply q0o | apply q0p | apply q0e | apply q0f | refine q0b rfl ?_ | apply q0q | apply q0r | apply And.intro)
 | (with_reducible first | (refine Wrn hC ?_; intro K hK) | (refine Wdr hC (by kernel_rfl) ?_; intro K hK))
 | ((with_reducible first | refine q0u ?_ | refine qbu ?_ | refine q0m ?_); refine siQ ?_; (try simp (disch := omega) only [w64, wu8]))
 | (with_reducible refine qbh (by kernel_rfl) ?_)
 | ((first | refine Wcd rfl (fun h => ?_) fun h => ?_ | refine Wcu rfl (fun h => ?_) ?_ | refine Wcn rfl ?_ fun h => ?_) <;> (try replace h := q0a h) <;> try (exfalso; first | omega | exact absurd h (by decide)))
 | (refine q0j ?_; refine subQ ?_)
 | (subst hK)
 | exact trivial
 all_goals try (intros; assumption)
 all_goals try refine q0w ?_
 all_goals try (intros; first | trivial | omega)
 all_goals (try (rw [w64 (by omega) (by omega)]; first | done | omega))
 all_goals clear hC
 all_goals (try simp only [qbs])
 all_goals first
 | grind
 | ((repeat' split) <;> first | rfl | omega | (exfalso; omega) | (simp_all; done) | grind)
 | (intro d hd; first | (subst hd; exact ⟨rfl, by simp [D.cells, D.one]⟩) | (rcases hd with rfl | rfl <;> exact ⟨rfl, by simp [D.cells, D.one]⟩) | (rcases hd with rfl | rfl | rfl <;> exact ⟨rfl, by simp [D.cells, D.one]⟩) | (rcases hd with rfl | rfl | rfl | rfl <;> exact ⟨rfl, by simp [D.cells, D.one]⟩))
end
def cfg169 : Cfg := mkC 22 q1n
theorem qbhl : cfg169.pins = [] ∧ cfg169.P = Tryz.prog ∧ cfg169.N = 22 := ⟨rfl, rfl, rfl⟩
section
attribute [local go_sem] qbhl
attribute [local go_sem] qbi qbl qck qdc qce qdr qd3 qet qb2 Int.toNat_natCast qdq qd4 qee qb9 qc2 qbx qca decI List.length_map nc0 qbj qbo
theorem qbt8 (hC : COk cfg169) (t : DType) (hp : qbs t = 0) : Sem Tryz.prog 169 [.d (qbi t)] (.d (.i .i64 (qfh t))) := by
 have ht := qk2 hp
 refine q0g (C := cfg169) (rs := [.tmp 2]) (fun _ => []) Tryz.func169 rfl rfl rfl rfl rfl rfl ?_
 refine inQ ?_
 repeat' first
 | (with_reducible first | apply q0n | apply q0d | apply Wsq | apply Wbk | apply Wsk | apply Wex | apply Wrt | apply q0o | apply q0p | apply q0e | apply q0f | refine q0b rfl ?_ | apply q0q | apply q0r | apply And.intro)
 | (with_reducible refine Wrn hC ?_; intro K hK)
 | ((with_reducible first | refine q0u ?_ | refine q0m ?_); refine siQ ?_; (try simp (disch := omega) only [w64, wu8]))
 | ((first | refine Wcd rfl (fun h => ?_) fun h => ?_ | refine Wcu rfl (fun h => ?_) ?_ | refine Wcn rfl ?_ fun h => ?_) <;> (try replace h := q0a h) <;> try (exfalso; first | omega | exact absurd h (by decide)))
 | (refine q0j ?_; refine subQ ?_)
 | (subst hK)
 | exact trivial
 all_goals try (intros; assumption)
 all_goals try refine q0w ?_
 all_goals try replace hp := q0a hp
 all_goals try (intros; first | trivial | omega)
 all_goals (try (rw [w64 (by omega) (by omega)]; first | done | omega))
 all_goals clear hC
 all_goals (try simp only [qfh])
 all_goals first
 | omega
 | (rw [qua (by omega) (by omega), if_pos (by omega)]; done)
 | (rw [q4u (by omega) (by omega), if_neg (by omega), if_pos (by omega)]; done)
 | grind
 | (intro d hd; first | (subst hd; exact ⟨rfl, by simp [D.cells, D.one]⟩) | (rcases hd with rfl | rfl <;> exact ⟨rfl, by simp [D.cells, D.one]⟩) | (rcases hd with rfl | rfl | rfl <;> exact ⟨rfl, by simp [D.cells, D.one]⟩) | (rcases hd with rfl | rfl | rfl | rfl <;> exact ⟨rfl, by simp [D.cells, D.one]⟩))
end
def cfg166 : Cfg := mkC 12 q1o
theorem qbhm : cfg166.pins = [] ∧ cfg166.P = Tryz.prog ∧ cfg166.N = 12 ∧ cfg166.T 165 = e165 ∧ cfg166.T 169 = e169 ∧ cfg166.ti = (fun _ => none) ∧ cfg166.mv = fun _ _ => [] := by and_intros <;> exact rfl
section
attribute [local go_sem] qbhm e165 e169
attribute [local go_sem] qbi qbl qck qdc qce qdr qd3 qet qb2 Int.toNat_natCast qdq qd4 qee qb9 qc2 qbx qca decI List.length_map nc0 qbj qbo
theorem qbt9 (hC : COk cfg166) (t : DType) : Sem Tryz.prog 166 [.d (qbi t)] (.tup [.d (.i .i64 (if qbs t = 0 then qfh t else 0)), .d (.i .i64 (qbs t))]) := by
 refine q0g (C := cfg166) (rs := [.tmp 2, .tmp 3]) (fun _ => []) Tryz.func166 rfl rfl rfl rfl rfl rfl ?_
 refine inQ ?_
 repeat' first
 | (with_reducible first | apply q0n | apply q0d | apply Wsq | apply Wbk | apply Wsk | apply Wex | apply Wrt | apply q0o | apply q0p | apply q0e | apply q0f | refine q0b rfl ?_ | apply q0q | apply q0r | apply And.intro)
 | (with_reducible refine Wrn hC ?_; intro K hK)
 | ((with_reducible first | refine q0u ?_ | refine q0m ?_); refine siQ ?_; (try simp (disch := omega) only [w64, wu8]))
 | ((first | refine Wcd rfl (fun h => ?_) fun h => ?_ | refine Wcu rfl (fun h => ?_) ?_ | refine Wcn rfl ?_ fun h => ?_) <;> (try replace h := q0a h) <;> try (exfalso; first | omega | exact absurd h (by decide)))
 | (refine q0j ?_; refine subQ ?_)
 | (subst hK)
 | exact trivial
 all_goals try (intros; assumption)
 all_goals try refine q0w ?_
 all_goals try (intros; first | trivial | omega)
 all_goals (try (rw [w64 (by omega) (by omega)]; first | done | omega))
 all_goals clear hC
 all_goals first
 | omega
 | grind
 | (intro d hd; first | (subst hd; exact ⟨rfl, by simp [D.cells, D.one]⟩) | (rcases hd with rfl | rfl <;> exact ⟨rfl, by simp [D.cells, D.one]⟩) | (rcases hd with rfl | rfl | rfl <;> exact ⟨rfl, by simp [D.cells, D.one]⟩) | (rcases hd with rfl | rfl | rfl | rfl <;> exact ⟨rfl, by simp [D.cells, D.one]⟩))
end
end
end Go.Ev
