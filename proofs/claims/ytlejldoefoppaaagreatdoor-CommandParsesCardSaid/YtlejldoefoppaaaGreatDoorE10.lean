/- Tools and contracts under the laws of this seat: Dtc19, Dtc20, Dtc4. -/
import Derived.Test.YtlejldoefoppaaaGreatDoorE07
set_option linter.unusedVariables false
set_option linter.unusedSimpArgs false
namespace Go.Ev
noncomputable section
open Go.Proofs Ty
set_option maxRecDepth 10000
set_option maxHeartbeats 4000000
attribute [local go_sem] q0s qcc qei qe7 qcp qej qek q0v qdf qi3 qkp qi4 qi5 qd0 qv4 Int.toNat_natCast
def cfg19 : Cfg := ⟨Tryz.prog, 118, qu6, mvs, [], (fun _ => none)⟩
theorem q1u : cfg19.pins = [] ∧ cfg19.P = Tryz.prog ∧ cfg19.N = 118 ∧ cfg19.T 48 = e48 ∧ cfg19.mv 48 = (fun _ => []) ∧ cfg19.T 56 = e56 ∧ cfg19.mv 56 = (fun j => if j = 0 then [(4242, 105, 0)] else []) ∧ cfg19.T 57 = e57 ∧ cfg19.mv 57 = (fun _ => []) ∧ cfg19.T 58 = e58 ∧ cfg19.mv 58 = (fun j => if j = 0 then [(4242, 105, 0)] else []) ∧ cfg19.T 59 = e59 ∧ cfg19.mv 59 = (fun j => if j = 0 then [(4242, 105, 0)] else []) ∧ cfg19.T 60 = e60 ∧ cfg19.mv 60 = (fun j => if j = 0 then [(4242, 105, 0)] else []) ∧ cfg19.ti = (fun _ => none) := by and_intros <;> exact rfl
section
attribute [local go_sem] q1u e48 e56 e57 e58 e59 e60
attribute [local go_sem] Int.toNat_natCast_add_one qel qdt qem List.length_map List.map_append List.map_cons List.map_nil List.length_append List.length_cons List.length_nil qhr qew q0n qba eta0 qi9 qkt qf6 etaN etaP qrf qfu qo2 toN1 toN2 qen etaL quc qif q04 qbh etaB etaW etaS qua qex q3x q3y qct
set_option maxHeartbeats 16000000 in
theorem q4p (hC : COk cfg19) (s : ByteArray) : Sem Tryz.prog 19 [.d (.s s)] (.tup [.d (qd0 (qbs s).1), .d (.i .i64 (qbs s).2.1), .d (.i .i64 (qbs s).2.2)]) := by
 refine q0i (C := cfg19) (rs := [.cell 2 33, .tmp 3, .tmp 4]) (fun _ => []) Tryz.func19 rfl rfl rfl rfl rfl rfl ?_
 refine inQ ?_
 repeat' first
 | (with_reducible first | apply q0y | apply q0f | apply Wsq | apply Wbk | apply Wsk | apply Wex | apply Wrt | apply q0z | apply q00 | apply q0g | apply q0h | refine q0d rfl ?_ | apply q01 | apply q02 | apply And.intro)
 | (refine Wat 18 rfl ?_; rcases beqZ p.1.err with hb | hb)
 | (with_reducible first | (refine Whr hC ?_; intro K hK) | (refine Whd hC (by kernel_rfl) ?_; intro K hK))
 | (with_reducible first | (refine Wrn hC ?_; intro K hK) | (refine Wdr hC (by kernel_rfl) ?_; intro K hK))
 | ((with_reducible first | refine q08 ?_ | refine qcl ?_ | refine q0x ?_); (first | (simp (maxSteps := 1000000) only [go_sem, ↓reduceIte, reduceCtorEq, Nat.reduceEqDiff, Nat.reduceLT, Nat.reduceLeDiff, Nat.reduceMul, Nat.reduceAdd, Nat.reduceSub, reduceDIte, Nat.reduceBEq, Nat.reduceBNe, hb]) | (refine siQ ?_)); (try simp (disch := omega) only [w64, wu8]))
 | (with_reducible refine qb4 (by kernel_rfl) ?_)
 | ((first | refine Wcd rfl (fun h => ?_) fun h => ?_ | refine Wcu rfl (fun h => ?_) ?_ | refine Wcn rfl ?_ fun h => ?_) <;> (try replace h := q0e h) <;> try (exfalso; first | omega | exact absurd h (by decide)))
 | (refine Wlp 5 rfl (ι := Nat) (fun i => mkS [(0, V.d (.s s)), (2, V.ptr 32 0), (5, V.ptr 80 0), (6, V.d (.i .i64 (i : Int)))] ([(32, .live (.box 33 [.d (.s ⟨#[]⟩), .d .nil])), (80, .live (.box 33 [.d (.s ⟨#[]⟩), .d .nil]))])) (fun i => i ≤ s.size ∧ s.size ≤ 400 ∧ ∀ j, j < i → badC (chr s j) = false) (fun i => s.size - i) (0) ?_ ?_ (fun i hi => ?_) <;> (try dsimp only) <;> (try dsimp only at hi))
 | (refine Wnx 5 (i + 1) ?_ ?_ ?_ <;> (try dsimp only))
 | (refine Wlp 18 rfl (ι := Rd × List CPart) (fun p => mkS [(2, V.ptr 32 0), (5, V.ptr 80 0), (7, .ptr 112 0), (9, .ptr 144 0)] ([(32, .live (.box 33 [.d (.s ⟨#[]⟩), .d .nil])), (80, .live (.box 33 [.d (.s ⟨#[]⟩), .d .nil])), (112, .live (.box 105 [.d (.s p.1.s), .d (.i .i64 (p.1.pos : Int)), .d (.i .i64 p.1.place), .d (.i .i64 p.1.err)])), (144, .live (.box 33 [.d (.s (rd0 s).blanks.wtxt), V.row 64 2 0 p.2.length])), (64, .live (.row 70 2 false (p.2.map q0v)))])) (fun p => p.1.s = s ∧ p.1.pos ≤ s.size ∧ qfc s ∧ p.2.length ≤ 12 ∧ qca 13 (rd0 s).blanks.word [] = qca (13 - p.2.length) p.1 p.2) (fun p => 13 - p.2.length) (((rd0 s).blanks.word, [])) ?_ ?_ (fun p hj => ?_) <;> (try dsimp only) <;> (try dsimp only at hj))
 | (refine Wnx 18 ((p.1.blanks.rpart.1, p.2 ++ [p.1.blanks.rpart.2])) ?_ ?_ ?_ <;> (try dsimp only))
 | (refine q0t ?_; refine subQ ?_)
 | (subst hK)
 | exact trivial
 all_goals try (intros; assumption)
 all_goals try refine qbm ?_
 all_goals try replace hi := q0e hi
 all_goals try replace hj := q0e hj
 all_goals try (intros; first | trivial | omega)
 all_goals (try (rw [w64 (by omega) (by omega)]; first | done | omega))
 all_goals (try simp only [qwg, qwh, qi9, beq_iff_eq, beq_eq_false_iff_ne] at *)
 all_goals first
 | (obtain ⟨c1, c2, c3, c4, c5⟩ := hj
    obtain ⟨b1, b2⟩ := qri hi.2.1 (by assumption) hi.2.2
    first
     | exact c1.symm
     | exact c1
     | (rw [c1]; exact c3)
     | (rw [qif, q0n]; exact c1)
     | (intro d hd; subst hd; exact ⟨rfl, by simp [D.cells, D.one]⟩)
     | (simp only [List.map_append, List.map_cons, List.map_nil]; exact q0b _)
     | (have e := q2n c5 hb
        rw [qm2 (by assumption) b1 (by assumption) (by assumption) (by assumption) e (by assumption)]; first | done | rfl)
     | (have e := q2o c5 c4 hb (by assumption)
        rw [qwf (by assumption) b1 (by assumption) (by assumption) (by assumption) e (by assumption)]; first | done | rfl | (rw [qby _ _ (by rw [List.length_map])]; exact q0b _))
     | (have e := q00l c5 hb (by assumption) (by assumption)
        rw [qm2 (by assumption) b1 (by assumption) (by assumption) (by assumption) e (by assumption)]; first | done | rfl)
     | (exfalso; have hq : fE p.1.blanks.err 2 = 0 := by assumption
        rw [fE2 (show p.1.blanks.err = 0 from hb)] at hq; cases hq)
     | (exfalso; contradiction)
     | (have hs : p.1.s.size = s.size := by rw [c1]
        have c2' := qbk (r := p.1) (by rw [c1]; exact c2)
        rw [c1] at c2'
        first
         | (rw [List.length_append, List.length_singleton]; omega)
         | (rw [c1]; exact c2'.2)
         | (have := qwd (r := p.1.blanks) (by rw [q0n]; omega); rw [q0n, c1] at this; exact this)
         | exact q00m c5 c4 hb (by assumption) (by omega)
         | omega
         ))
 | (rw [qrh (by assumption)]; first | done | rfl)
 | exact Nat.zero_le _
 | rfl
 | (intro j hj; by_cases e : j = i; (subst e; unfold badC; simp; omega); exact hi.2.2 j (by omega))
 | (rw [que (by omega) (by assumption) hi.2.2 (by omega)]; first | done | rfl)
 | (obtain ⟨b1, b2⟩ := qri hi.2.1 (by assumption) hi.2.2
    have k1 := qbk (r := rd0 s) (Nat.zero_le _)
    have k2 := qcz (r := (rd0 s).blanks) k1.2
    have k1 := k1.2
    have k2 := k2.2
    rw [show (rd0 s).s = s from rfl] at k1
    rw [show (rd0 s).blanks.s = s from rfl] at k2
    first
     | exact k1
     | exact k2
     | exact b2
     | exact (qf7 (r := (rd0 s).blanks) b2).1
     | exact (qf7 (r := (rd0 s).blanks) b2).2
     | (rw [qrj (by omega) b1 (by omega)]; first | done | rfl)
     | (rw [qsj (by omega) b1 (by assumption) (by assumption)]; first | done | rfl)
     | (rw [qwe (by omega) b1 (by assumption) (by assumption) (by assumption)]; first | done | rfl)
     | omega
     )
 | omega
end
def cfg20 : Cfg := ⟨Tryz.prog, 72, qu7, mvs, [], (fun _ => none)⟩
theorem q1v : cfg20.pins = [] ∧ cfg20.P = Tryz.prog ∧ cfg20.N = 72 := ⟨rfl, rfl, rfl⟩
section
attribute [local go_sem] q1v
attribute [local go_sem] qg2 qsy q00d List.length_map
theorem q4q (hC : COk cfg20) (a : CStr) (b : CStr) (hp : qp4 a) : Sem Tryz.prog 20 [.d (qd0 a), .d (qd0 b)] (.d (.b (decide (a = b)))) := by
 refine q0i (C := cfg20) (rs := [.tmp 4]) (fun _ => []) Tryz.func20 rfl rfl rfl rfl rfl rfl ?_
 refine inQ ?_
 repeat' first
 | (with_reducible first | apply q0y | apply q0f | apply Wsq | apply Wbk | apply Wsk | apply Wex | apply Wrt | apply q0z | apply q00 | apply q0g | apply q0h | refine q0d rfl ?_ | apply q01 | apply q02 | apply And.intro)
 | (refine Wat 6 rfl ?_; have hga : ∀ z, (a.parts.map q0v).getD i z = q0v (a.parts.getD i q09) := fun z => qpk (by omega) z; have hgb : ∀ z, (b.parts.map q0v).getD i z = q0v (b.parts.getD i q09) := fun z => qpk (by omega) z)
 | (with_reducible first | (refine Whr hC ?_; intro K hK) | (refine Whd hC (by kernel_rfl) ?_; intro K hK))
 | (with_reducible first | (refine Wrn hC ?_; intro K hK) | (refine Wdr hC (by kernel_rfl) ?_; intro K hK))
 | ((with_reducible first | refine q08 ?_ | refine qcl ?_ | refine q0x ?_); (first | (simp (maxSteps := 1000000) only [go_sem, ↓reduceIte, reduceCtorEq, Nat.reduceEqDiff, Nat.reduceLT, Nat.reduceLeDiff, Nat.reduceMul, Nat.reduceAdd, Nat.reduceSub, reduceDIte, Nat.reduceBEq, Nat.reduceBNe, hga, hgb]) | (refine siQ ?_)); (try simp (disch := omega) only [w64, wu8]))
 | (with_reducible refine qb4 (by kernel_rfl) ?_)
 | ((first | refine Wcd rfl (fun h => ?_) fun h => ?_ | refine Wcu rfl (fun h => ?_) ?_ | refine Wcn rfl ?_ fun h => ?_) <;> (try replace h := q0e h) <;> try (exfalso; first | omega | exact absurd h (by decide)))
 | (refine Wlp 4 rfl (ι := Nat) (fun i => mkS [(2, V.ptr 32 0), (3, V.ptr 48 0), (5, V.d (.i .i64 (i : Int)))] ([(32, .live (.box 33 [.d (.s a.name), .d (.sl 2 (a.parts.map q0v))])), (48, .live (.box 33 [.d (.s b.name), .d (.sl 2 (b.parts.map q0v))]))])) (fun i => i ≤ a.parts.length ∧ a.name = b.name ∧ a.parts.length = b.parts.length ∧ a.parts.take i = b.parts.take i) (fun i => a.parts.length - i) (0) ?_ ?_ (fun i hi => ?_) <;> (try dsimp only) <;> (try dsimp only at hi))
 | (refine Wnx 4 (i + 1) ?_ ?_ ?_ <;> (try dsimp only))
 | (refine Wlp 10 rfl (ι := Nat) (fun k => mkS [(2, V.ptr 32 0), (3, V.ptr 48 0), (5, V.d (.i .i64 (i : Int))), (6, V.ptr 96 0), (7, V.ptr 112 0), (8, V.d (.i .i64 (k : Int)))] ([(32, .live (.box 33 [.d (.s a.name), .d (.sl 2 (a.parts.map q0v))])), (48, .live (.box 33 [.d (.s b.name), .d (.sl 2 (b.parts.map q0v))])), (96, .live (.box 70 [.d (.s (a.parts.getD i q09).keyword), .d (.sl 2 ((a.parts.getD i q09).values.map q0s))])), (112, .live (.box 70 [.d (.s (b.parts.getD i q09).keyword), .d (.sl 2 ((b.parts.getD i q09).values.map q0s))]))])) (fun k => k ≤ (a.parts.getD i q09).values.length ∧ (a.parts.getD i q09).keyword = (b.parts.getD i q09).keyword ∧ (a.parts.getD i q09).values.length = (b.parts.getD i q09).values.length ∧ (a.parts.getD i q09).values.take k = (b.parts.getD i q09).values.take k) (fun k => (a.parts.getD i q09).values.length - k) (0) ?_ ?_ (fun k hk => ?_) <;> (try dsimp only) <;> (try dsimp only at hk))
 | (refine Wnx 10 (k + 1) ?_ ?_ ?_ <;> (try dsimp only))
 | (refine q0t ?_; refine subQ ?_)
 | (subst hK)
 | exact trivial
 all_goals try (intros; assumption)
 all_goals try refine qbm ?_
 all_goals try replace hp := q0e hp
 all_goals try replace hi := q0e hi
 all_goals try replace hk := q0e hk
 all_goals try (intros; first | trivial | omega)
 all_goals (try (rw [w64 (by omega) (by omega)]; first | done | omega))
 all_goals clear hC
 all_goals (try have q1 := hp.1)
 all_goals (try have q2 := hp.2 i)
 all_goals (try obtain ⟨i1, i2, i3, i4⟩ := hi)
 all_goals (try obtain ⟨k1, k2, k3, k4⟩ := hk)
 all_goals first
 | omega
 | exact h.1
 | exact i2
 | exact k2
 | (rw [w64 (by omega) (by omega)]; omega)
 | (intro e; subst e; simp at h; done)
 | (intro e; subst e; rcases h with h | h <;> exact h rfl)
 | exact qjz k4 (by omega) (by omega) (by assumption)
 | (refine qjz (z := q09) i4 (by omega) (by omega) (q007 k2 (qle k4 (by omega) (by omega))))
 | exact q2w i2 (qle i4 (by omega) (by omega))
end
def cfg4 : Cfg := ⟨Tryz.prog, 39, qy1, mvs, [], (fun _ => none)⟩
theorem q22 : cfg4.pins = [] ∧ cfg4.P = Tryz.prog ∧ cfg4.N = 39 ∧ cfg4.T 13 = e13 ∧ cfg4.mv 13 = (fun _ => []) ∧ cfg4.T 18 = e18 ∧ cfg4.mv 18 = (fun _ => []) ∧ cfg4.T 19 = e19 ∧ cfg4.mv 19 = (fun _ => []) ∧ cfg4.T 20 = e20 ∧ cfg4.mv 20 = (fun _ => []) ∧ cfg4.ti = (fun _ => none) := by and_intros <;> exact rfl
section
attribute [local go_sem] q22 e13 e18 e19 e20
attribute [local go_sem] qg2 qsy qyh
theorem con4 (hC : COk cfg4) (s : ByteArray) : Sem Tryz.prog 4 [.d (.s s)] (.d (.b true)) := by
 refine q0i (C := cfg4) (rs := [.tmp 2]) (fun _ => []) Tryz.func4 rfl rfl rfl rfl rfl rfl ?_
 refine inQ ?_
 repeat' first
 | (with_reducible first | apply q0y | apply q0f | apply Wsq | apply Wbk | apply Wsk | apply Wex | apply Wrt | apply q0z | apply q00 | apply q0g | apply q0h | refine q0d rfl ?_ | apply q01 | apply q02 | apply And.intro)
 | (with_reducible refine Wrn hC ?_; intro K hK)
 | ((with_reducible first | refine q08 ?_ | refine q0x ?_); refine siQ ?_; (try simp (disch := omega) only [w64, wu8]))
 | ((first | refine Wcd rfl (fun h => ?_) fun h => ?_ | refine Wcu rfl (fun h => ?_) ?_ | refine Wcn rfl ?_ fun h => ?_) <;> (try replace h := q0e h) <;> try (exfalso; first | omega | exact absurd h (by decide)))
 | (refine q0t ?_; refine subQ ?_)
 | (subst hK)
 | exact trivial
 all_goals try (intros; assumption)
 all_goals try refine qbm ?_
 all_goals try (intros; first | trivial | omega)
 all_goals (try (rw [w64 (by omega) (by omega)]; first | done | omega))
 all_goals first
 | omega
 | exact q006 s
end
end
end Go.Ev
