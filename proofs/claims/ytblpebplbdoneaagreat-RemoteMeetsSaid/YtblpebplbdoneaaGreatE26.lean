/- Tools and contracts under the laws of this seat: Drc20, Drc5. -/
import Derived.Test.YtblpebplbdoneaaGreatE11
set_option linter.unusedVariables false
set_option linter.unusedSimpArgs false
namespace Go.Ev
noncomputable section
open Go.Proofs Ty
set_option maxRecDepth 10000
set_option maxHeartbeats 4000000
attribute [local go_sem] qbi qbl qck qdc qce qdr qd3 qet Int.toNat_natCast qdq qd4 qee qb9 qc2 qbx qca decI List.length_map nc0 qbj qbo q01 qb7 qdh qd5 qb1 qb8 qem qfe q06 qbz qcx qdl qcb qcm qd6 qen qbt qdm qeo qff qb3 qbr qc1 qdj qcz qeq qdk qc0 qer qdi qcy qep List.length_take qdd Int.toNat_zero Nat.sub_zero List.drop_zero q0c q0y qdn qd7 q0s q0x q05 qba qcv qcw List.length_set Nat.le_refl qc5 qcl q0h q0v qbk qby qbm qcj qcq qft qgt qii qj1 qij qik qj5 qim qin qd0 qcu qdg qcr qbb qcg qbf qdy qeg qe9 qfq qf3 qfn qf2 qfo qg0 qh1 qg1 qei qe7 qfp qg2 qch qbp qbe qdw D.body qu2
attribute [local go_sem ←] List.map_take List.map_drop
def cfg20 : Cfg := ⟨Tryz.prog, 84, tab4, mvr, [], (fun _ => none)⟩
theorem qbqs : cfg20.pins = [] ∧ cfg20.P = Tryz.prog ∧ cfg20.N = 84 ∧ cfg20.ti 49 = none ∧ cfg20.T 49 = e49 ∧ cfg20.mv 49 = (fun _ => []) := by and_intros <;> exact rfl
section
attribute [local go_sem] qbqs e49
theorem qb10 (hC : COk cfg20) (l : List Entry) (hp : l.length ≤ 1000000) : Sem Tryz.prog 20 [.d (.sl 8 (l.map q0h))] (.d (.b (qhz l))) := by
 refine q0g (C := cfg20) (rs := [.tmp 2]) (fun _ => []) Tryz.func20 rfl rfl rfl rfl rfl rfl ?_
 refine inQ ?_
 repeat' first
 | (with_reducible first | apply q0n | apply q0d | apply Wsq | apply Wbk | apply Wsk | apply Wex | apply Wrt | apply q0o | apply q0p | apply q0e | apply q0f | refine q0b rfl ?_ | apply q0q | apply q0r | apply And.intro)
 | (with_reducible first | (refine Wrn hC ?_; intro K hK) | (refine Wdr hC (by kernel_rfl) ?_; intro K hK))
 | ((with_reducible first | refine q0u ?_ | refine qbu ?_ | refine q0m ?_); refine siQ ?_; (try simp (disch := omega) only [w64, wu8]))
 | (with_reducible refine qbh (by kernel_rfl) ?_)
 | ((first | refine Wcd rfl (fun h => ?_) fun h => ?_ | refine Wcu rfl (fun h => ?_) ?_ | refine Wcn rfl ?_ fun h => ?_) <;> (try replace h := q0a h) <;> try (exfalso; first | omega | exact absurd h (by decide)))
 | (refine Wlp 2 rfl (ι := Nat) (fun i => mkS [(0, V.d (.sl 8 (l.map q0h))), (3, V.d (.i .i64 (i : Int)))] ([])) (fun i => i ≤ l.length ∧ ∀ j, j < i → crsO l j = 0) (fun i => l.length - i) (0) ?_ ?_ (fun i hi => ?_) <;> (try dsimp only) <;> (try dsimp only at hi))
 | (refine Wnx 2 (i + 1) ?_ ?_ ?_ <;> (try dsimp only))
 | (refine Wlp 6 rfl (ι := Nat) (fun k => mkS [(0, V.d (.sl 8 (l.map q0h))), (3, V.d (.i .i64 (i : Int))), (4, V.d (.i .i64 (k : Int)))] ([])) (fun k => k ≤ l.length ∧ i < k ∧ ¬(¬(l.getD i q0i).kind = 0 ∨ isOpen l (l.getD i q0i).unit = false) ∧ ∀ m, i < m → m < k → hitC (l.getD i q0i) (l.getD m q0i) = false) (fun k => l.length - k) (i + 1) ?_ ?_ (fun k hk => ?_) <;> (try dsimp only) <;> (try dsimp only at hk))
 | (refine Wnx 6 (k + 1) ?_ ?_ ?_ <;> (try dsimp only))
 | (refine q0j ?_; refine subQ ?_)
 | (subst hK)
 | exact trivial
 all_goals try (intros; assumption)
 all_goals try refine q0w ?_
 all_goals try replace hp := q0a hp
 all_goals try replace hi := q0a hi
 all_goals try replace hk := q0a hk
 all_goals try (intros; first | trivial | omega)
 all_goals (try (rw [w64 (by omega) (by omega)]; first | done | omega))
 all_goals clear hC
 all_goals first
 | omega
 | exact hp
 | exact fun _ => hp
 | exact qex hi.2 (qbn8 (by assumption))
 | exact qex hi.2 (qbn9 hk.2.2.2 (by omega))
 | (rw [qbts hi.2 (by omega)]; done)
 | (rw [qbtr hi.2 (by omega) hk.2.2.1 hk.2.1 (by omega) (qu0.2 (by grind))]; done)
 | (intro m h1 h2
    by_cases e : m = k
    ·subst e
     rw [Bool.eq_false_iff]
     intro q
     have := qu0.1 q
     grind
    ·exact hk.2.2.2 m h1 (by omega))
 | (intro m h1 h2; omega)
 | (have q : (l.getD i q0i).kind = 0 ∧ isOpen l (l.getD i q0i).unit = true := by assumption
    exact fun e => e.elim (fun z => z q.1) (fun z => by rw [q.2] at z; cases z))
end
def cfg5 : Cfg := ⟨Tryz.prog, 87, qbjp, mvr, [], (fun _ => none)⟩
theorem qbvy : cfg5.pins = [] ∧ cfg5.P = Tryz.prog ∧ cfg5.N = 87 ∧ cfg5.T 6 = e6 ∧ cfg5.mv 6 = (fun _ => []) ∧ cfg5.T 7 = e7 ∧ cfg5.mv 7 = (fun _ => []) ∧ cfg5.T 8 = e8 ∧ cfg5.mv 8 = (fun _ => []) ∧ cfg5.T 10 = e10 ∧ cfg5.mv 10 = (fun _ => []) ∧ cfg5.T 11 = e11d ∧ cfg5.mv 11 = (fun _ => []) ∧ cfg5.T 12 = e12 ∧ cfg5.mv 12 = (fun _ => []) ∧ cfg5.T 13 = e13 ∧ cfg5.mv 13 = (fun _ => []) ∧ cfg5.T 15 = e15 ∧ cfg5.mv 15 = (fun _ => []) ∧ cfg5.T 16 = e16 ∧ cfg5.mv 16 = (fun _ => []) ∧ cfg5.T 19 = e19 ∧ cfg5.mv 19 = (fun _ => []) ∧ cfg5.T 20 = e20 ∧ cfg5.mv 20 = (fun _ => []) ∧ cfg5.T 21 = e21 ∧ cfg5.mv 21 = (fun _ => []) ∧ cfg5.ti = (fun _ => none) := by and_intros <;> exact rfl
section
attribute [local go_sem] qbvy e6 e7 e8 e10 e11d e12 e13 e15 e16 e19 e20 e21
theorem con5 (hC : COk cfg5) (x : Remote) (ts : List Table) : Sem Tryz.prog 5 [.d (qbb x), .d (.sl 6 (ts.map q0c))] (.d (.b true)) := by
 refine q0g (C := cfg5) (rs := [.tmp 4]) (fun _ => []) Tryz.func5 rfl rfl rfl rfl rfl rfl ?_
 refine inQ ?_
 repeat' first
 | (with_reducible first | apply q0n | apply q0d | apply Wsq | apply Wbk | apply Wsk | apply Wex | apply Wrt | apply q0o | apply q0p | apply q0e | apply q0f | refine q0b rfl ?_ | apply q0q | apply q0r | apply And.intro)
 | (refine Wat 11 rfl ?_; have FX := qqq (x := x) (by grind); have hj : ((x.source.length : Int) - 1).toNat = x.source.length - 1 := (by omega))
 | (with_reducible first | (refine Whr hC ?_; intro K hK) | (refine Whd hC (by kernel_rfl) ?_; intro K hK))
 | (with_reducible first | (refine Wrn hC ?_; intro K hK) | (refine Wdr hC (by kernel_rfl) ?_; intro K hK))
 | ((with_reducible first | refine q0u ?_ | refine qbu ?_ | refine q0m ?_); (first | (simp (maxSteps := 1000000) only [go_sem, ↓reduceIte, reduceCtorEq, Nat.reduceEqDiff, Nat.reduceLT, Nat.reduceLeDiff, Nat.reduceMul, Nat.reduceAdd, Nat.reduceSub, reduceDIte, Nat.reduceBEq, Nat.reduceBNe, hj]) | (refine siQ ?_)); (try simp (disch := omega) only [w64, wu8]))
 | (with_reducible refine qbh (by kernel_rfl) ?_)
 | ((first | refine Wcd rfl (fun h => ?_) fun h => ?_ | refine Wcu rfl (fun h => ?_) ?_ | refine Wcn rfl ?_ fun h => ?_) <;> (try replace h := q0a h) <;> try (exfalso; first | omega | exact absurd h (by decide)))
 | (refine q0j ?_; refine subQ ?_)
 | (subst hK)
 | exact trivial
 all_goals try (intros; assumption)
 all_goals try refine q0w ?_
 all_goals try replace hj := q0a hj
 all_goals try (intros; first | trivial | omega)
 all_goals (try (rw [w64 (by omega) (by omega)]; first | done | omega))
 all_goals clear hC
 all_goals first
 | omega
 | (have FX := qqq (x := x) (by grind); first | exact FX.1 | exact FX.2.1 | exact FX.2.2)
 | (have FT := (quv (l := ts) (by grind)).1; first | exact FT | exact FT.1 | exact qey FT | exact qh6 FT | exact qge FT | exact qey (qge FT) | exact fun _ => qey (qge FT) | exact fun _ => qey FT | exact fun _ => qh6 FT | exact fun _ => qi2 (qey (qge FT)) | exact fun _ => qi2 (qey FT) | exact fun _ => qi2 (qh6 FT))
 | (have FU := qsw (x := x) (by grind); have := qsy (x := x) (ts := ts) FU.2; omega)
 | (have M := qbob (x := x) (ts := ts) (by assumption) (by assumption) (by assumption)
    have M2 := qzq M.2
    rw [M.1, M2.1, decide_eq_true M2.2]; rfl)
 | (have M := qboc (x := x) (ts := ts) (by assumption) (by assumption) (by assumption)
    have M2 := qzq M.2
    rw [M.1, M2.1, decide_eq_true M2.2]; rfl)
end
end
end Go.Ev
