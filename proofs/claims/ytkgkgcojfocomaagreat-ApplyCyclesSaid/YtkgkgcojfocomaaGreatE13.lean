/- Tools and contracts under the laws of this seat: Dyc80, Dyc50, Dyc61, Dyc46, Dyc12. -/
import Derived.Test.YtkgkgcojfocomaaGreatE05
set_option linter.unusedVariables false
set_option linter.unusedSimpArgs false
namespace Go.Ev
open Go.Proofs Ty
set_option maxRecDepth 10000
set_option maxHeartbeats 4000000
attribute [local go_sem] qcn qdu List.length_map Int.toNat_natCast Int.toNat_zero Nat.sub_zero List.length_take qch qbn qb2 qd0 qdm qdz qe6 qgg
attribute [local go_sem ←] List.map_take List.map_drop
noncomputable def cfg80 : Cfg := mkC 55 q00g
theorem qbnt : cfg80.pins = [] ∧ cfg80.P = Tryz.prog ∧ cfg80.N = 55 ∧ cfg80.T 102 = e102 ∧ cfg80.T 103 = e103 ∧ cfg80.ti = (fun _ => none) ∧ cfg80.mv = fun _ _ => [] := by and_intros <;> exact rfl
section
attribute [local go_sem] qbnt e102 e103
attribute [local go_sem] q0u q0r qd5 qeo qba qb4 qbh qcl q00 q0w qdr
theorem qbx0 (hC : COk cfg80) (l : List Entry) (hp : l.length ≤ 1000000) : Sem Tryz.prog 80 [.d (.sl 8 (l.map q0r))] (.tup [.d (.i .i64 (qbc l).1), .d (.i .i64 (qbc l).2)]) := by
  refine q0f (C := cfg80) (rs := [.tmp 2, .tmp 3]) (fun _ => []) Tryz.func80 rfl rfl rfl rfl rfl rfl ?_
  refine inQ ?_
  repeat' first
  | (with_reducible first | apply q0l | apply q0c | apply AW.seq | apply AW.block | apply AW.skip | apply AW.exit | apply AW.ret | apply q0m | apply q0n | apply q0d | apply q0e | refine q0b rfl ?_ | apply q0o | apply q0p | apply And.intro)
  | (with_reducible first | (refine AW.runK hC ?_; intro K hK) | (refine AW.drawK hC (by kernel_rfl) ?_; intro K hK))
  | ((with_reducible first | refine q0t ?_ | refine qbz ?_ | refine q0k ?_); refine siQ ?_; (try simp (disch := omega) only [w64, wu8]))
  | (with_reducible refine qbj (by kernel_rfl) ?_)
  | ((first | refine AW.cond rfl (fun h => ?_) fun h => ?_ | refine AW.cond_ub rfl (fun h => ?_) ?_ | refine AW.cond_nb rfl ?_ fun h => ?_) <;> (try replace h := q0a h) <;> try (exfalso; first | omega | exact absurd h (by decide)))
  | (refine AW.loopN 4 rfl (ι := Nat) (fun i => mkS [(0, V.d (.sl 8 (l.map q0r))), (4, V.d (.i .i64 (i : Int)))] ([])) (fun i => i ≤ l.length ∧ l.length ≤ 80 ∧ qeb l (l.length - i) i = qbc l) (fun i => l.length - i) (0) ?_ ?_ (fun i hi => ?_) <;> (try dsimp only) <;> (try dsimp only at hi))
  | (refine LoopNext.mk1 4 (i + 1) ?_ ?_ ?_ <;> (try dsimp only))
  | (refine q0h ?_; refine subQ ?_)
  | (subst hK)
  | exact trivial
  all_goals try (intros; assumption)
  all_goals try refine q0v ?_
  all_goals try replace hp := q0a hp
  all_goals try replace hi := q0a hi
  all_goals try (intros; first | trivial | omega)
  all_goals (try (rw [w64 (by omega) (by omega)]; first | done | omega))
  all_goals first
  | (rw [qbc, if_pos (by omega)])
  | (rw [qbc, if_neg (by omega)]; rfl)
  | exact (qo5 hi.2.2 (by omega) (by assumption)).1
  | exact (qo5 hi.2.2 (by omega) (by assumption)).2
  | exact (qo6 hi.2.2 (by omega) (by assumption) h.1 h.2).1
  | exact (qo6 hi.2.2 (by omega) (by assumption) h.1 h.2).2
  | exact (qo7 hi.2.2 (by omega) (by assumption) (by assumption) h).1
  | exact (qo7 hi.2.2 (by omega) (by assumption) (by assumption) h).2
  | exact qv9 hi.2.2 (by omega) (by assumption) (by assumption) h
  | (rw [← hi.2.2, qmz (by omega)])
end
noncomputable def cfg50 : Cfg := mkC 11 q6v
theorem qbnu : cfg50.pins = [] ∧ cfg50.P = Tryz.prog ∧ cfg50.N = 11 ∧ cfg50.ti 80 = none ∧ cfg50.T 80 = e80 ∧ cfg50.mv 80 = (fun _ => []) := by and_intros <;> exact rfl
section
attribute [local go_sem] qbnu e80
attribute [local go_sem] q0u q0r qd5 qeo qba qb4 qbh qcl q00 q0w qdr
theorem qbx1 (hC : COk cfg50) (l : List Entry) (hp : l.length ≤ 1000000) : Sem Tryz.prog 50 [.d (.sl 8 (l.map q0r))] (.d (.i .i64 (qbc l).2)) := by
  refine q0f (C := cfg50) (rs := [.tmp 2]) (fun _ => []) Tryz.func50 rfl rfl rfl rfl rfl rfl ?_
  refine inQ ?_
  repeat' first
  | (with_reducible first | apply q0l | apply q0c | apply AW.seq | apply AW.block | apply AW.skip | apply AW.exit | apply AW.ret | apply q0m | apply q0n | apply q0d | apply q0e | refine q0b rfl ?_ | apply q0o | apply q0p | apply And.intro)
  | (with_reducible refine AW.runK hC ?_; intro K hK)
  | ((with_reducible first | refine q0t ?_ | refine q0k ?_); refine siQ ?_; (try simp (disch := omega) only [w64, wu8]))
  | ((first | refine AW.cond rfl (fun h => ?_) fun h => ?_ | refine AW.cond_ub rfl (fun h => ?_) ?_ | refine AW.cond_nb rfl ?_ fun h => ?_) <;> (try replace h := q0a h) <;> try (exfalso; first | omega | exact absurd h (by decide)))
  | (refine q0h ?_; refine subQ ?_)
  | (subst hK)
  | exact trivial
  all_goals try (intros; assumption)
  all_goals try refine q0v ?_
  all_goals try replace hp := q0a hp
  all_goals try (intros; first | trivial | omega)
  all_goals (try (rw [w64 (by omega) (by omega)]; first | done | omega))
end
noncomputable def cfg61 : Cfg := mkC 112 q6w
theorem qbnv : cfg61.pins = [] ∧ cfg61.P = Tryz.prog ∧ cfg61.N = 112 ∧ cfg61.ti 79 = none ∧ cfg61.T 79 = e79 ∧ cfg61.mv 79 = (fun _ => []) := by and_intros <;> exact rfl
section
attribute [local go_sem] qbnv e79
attribute [local go_sem] q0u q0r qd5 qeo qba qb4 qbh qcl q00 q0w qdr isK3 qz5 q3r qbre qe3 qek qfo
theorem qbx2 (hC : COk cfg61) (l : List Entry) (hp : l.length ≤ 1000000) : Sem Tryz.prog 61 [.d (.sl 8 (l.map q0r))] (.tup [.d (.mp ((qen l).map keyU) ((qen l).map fun u => .cp (qdi u))), .d (.i .i64 (qbc l).1), .d (.i .i64 (qbc l).2)]) := by
  refine q0f (C := cfg61) (rs := [.tmp 2, .tmp 3, .tmp 4]) (fun _ => []) Tryz.func61 rfl rfl rfl rfl rfl rfl ?_
  refine inQ ?_
  repeat' first
  | (with_reducible first | apply q0l | apply q0c | apply AW.seq | apply AW.block | apply AW.skip | apply AW.exit | apply AW.ret | apply q0m | apply q0n | apply q0d | apply q0e | refine q0b rfl ?_ | apply q0o | apply q0p | apply And.intro)
  | (refine AW.atR 12 rfl ?_; rcases hq : uidx (qbv (l.take i)) (l.getD i q0i).unit with _ | k; rotate_left; obtain ⟨u, hu, hun, hlt⟩ := qh2 hq; have hv := qbeu hlt; have hf := qbmh (t := 61) hu; clear hlt)
  | (with_reducible first | (refine AWh.runK hC ?_; intro K hK) | (refine AWh.drawK hC (by kernel_rfl) ?_; intro K hK))
  | (with_reducible first | (refine AW.runK hC ?_; intro K hK) | (refine AW.drawK hC (by kernel_rfl) ?_; intro K hK))
  | ((with_reducible first | refine q0t ?_ | refine qbz ?_ | refine q0k ?_); (first | (simp (maxSteps := 1000000) only [go_sem, ↓reduceIte, reduceCtorEq, Nat.reduceEqDiff, Nat.reduceLT, Nat.reduceLeDiff, Nat.reduceMul, Nat.reduceAdd, Nat.reduceSub, reduceDIte, Nat.reduceBEq, Nat.reduceBNe, hq, hv, hf]) | (simp (maxSteps := 1000000) only [go_sem, ↓reduceIte, reduceCtorEq, Nat.reduceEqDiff, Nat.reduceLT, Nat.reduceLeDiff, Nat.reduceMul, Nat.reduceAdd, Nat.reduceSub, reduceDIte, Nat.reduceBEq, Nat.reduceBNe, hq]) | (refine siQ ?_)); (try simp (disch := omega) only [w64, wu8]))
  | (with_reducible refine qbj (by kernel_rfl) ?_)
  | ((first | refine AW.cond rfl (fun h => ?_) fun h => ?_ | refine AW.cond_ub rfl (fun h => ?_) ?_ | refine AW.cond_nb rfl ?_ fun h => ?_) <;> (try replace h := q0a h) <;> try (exfalso; first | omega | exact absurd h (by decide)))
  | (refine AW.loopN 5 rfl (ι := Nat) (fun i => mkS [(0, V.d (.sl 8 (l.map q0r))), (5, V.mref 240), (16, V.d (.sl 8 (l.map q0r))), (17, V.d (.i .i64 (l.length : Int))), (18, V.d (.i .i64 (i : Int)))] ((240, .live (.mp 65 ((qbv (l.take i)).map keyU) (ptrs ((qbv (l.take i)).map qdi).length))) :: fam 61 ((qbv (l.take i)).map qdi))) (fun i => i ≤ l.length ∧ l.length ≤ 80 ∧ qeb l (l.length - i) i = qbc l ∧ UInv (qbv (l.take i)) (l.take i)) (fun i => l.length - i) (0) ?_ ?_ (fun i hi => ?_) <;> (try dsimp only) <;> (try dsimp only at hi))
  | (refine LoopNext.mk1 5 (i + 1) ?_ ?_ ?_ <;> (try dsimp only))
  | (refine qxj (M := 240) (us := []) (by omega) rfl ?_ ?_ ?_ ?_ <;> first
    | (simp only [aget, Nat.reduceEqDiff, qe3, qek, qfo, Nat.reduceLT, ↓reduceIte, List.take_zero]; done)
    | (intro j; simp only [aget, Nat.reduceEqDiff, qe3, qek, qfo, Nat.reduceLT, ↓reduceIte]; done)
    | (intro j hj; simp only [aget, Nat.reduceEqDiff, qe3, qek, qfo, Nat.reduceLT, hj, ↓reduceIte]; done)
    | (intro ρ nf h1 h2; simp only [qi0, aget, vs, ↓reduceIte, Nat.reduceEqDiff, qnt, qmo, dle, D.i.injEq, eq_self, and_self, and_true, true_and, V.mref.injEq, exists_eq_left', h1, h2]; first | done | omega)
    | (rw [qeq (by omega), qlg (by omega) (by omega)]; done)
    | (rw [qeq (by omega), qmq (by omega)]; done)
    | (rw [qeq (by omega), qoj (by omega) (by omega) hq hu]; done)
    | (simp only [aget, Nat.reduceEqDiff, qe3, qek, qfo, Nat.reduceLT, ↓reduceIte, uEnd]; (repeat' split) <;> first | rfl | (exfalso; omega))
    | (show qbv (l.take 0) = []; rfl))
  | (refine qxj (M := 240) (us := qbv (l.take i)) (by omega) rfl ?_ ?_ ?_ ?_ <;> first
    | (simp only [aget, Nat.reduceEqDiff, qe3, qek, qfo, Nat.reduceLT, ↓reduceIte, List.take_zero]; done)
    | (intro j; simp only [aget, Nat.reduceEqDiff, qe3, qek, qfo, Nat.reduceLT, ↓reduceIte]; done)
    | (intro j hj; simp only [aget, Nat.reduceEqDiff, qe3, qek, qfo, Nat.reduceLT, hj, ↓reduceIte]; done)
    | (intro ρ nf h1 h2; simp only [qi0, aget, vs, ↓reduceIte, Nat.reduceEqDiff, qnt, qmo, dle, D.i.injEq, eq_self, and_self, and_true, true_and, V.mref.injEq, exists_eq_left', h1, h2]; first | done | omega)
    | (rw [qeq (by omega), qlg (by omega) (by omega)]; done)
    | (rw [qeq (by omega), qmq (by omega)]; done)
    | (rw [qeq (by omega), qoj (by omega) (by omega) hq hu]; done)
    | (simp only [aget, Nat.reduceEqDiff, qe3, qek, qfo, Nat.reduceLT, ↓reduceIte, uEnd]; (repeat' split) <;> first | rfl | (exfalso; omega))
    | (show qbv (l.take 0) = []; rfl))
  | (refine qbew (M := 240) (us := qbv (l.take i)) (by omega) rfl (b := 1232) (u := ⟨(l.getD i q0i).unit, (l.getD i q0i).number, (l.getD i q0i).number, 2⟩) (by omega) (by omega) ?_ ?_ ?_ ?_ ?_ <;> first
    | (simp only [aget, Nat.reduceEqDiff, qe3, qek, qfo, Nat.reduceLT, ↓reduceIte, List.take_zero]; done)
    | (intro j; simp only [aget, Nat.reduceEqDiff, qe3, qek, qfo, Nat.reduceLT, ↓reduceIte]; done)
    | (intro j hj; simp only [aget, Nat.reduceEqDiff, qe3, qek, qfo, Nat.reduceLT, hj, ↓reduceIte]; done)
    | (intro ρ nf h1 h2; simp only [qi0, aget, vs, ↓reduceIte, Nat.reduceEqDiff, qnt, qmo, dle, D.i.injEq, eq_self, and_self, and_true, true_and, V.mref.injEq, exists_eq_left', h1, h2]; first | done | omega)
    | (rw [qeq (by omega), qlg (by omega) (by omega)]; done)
    | (rw [qeq (by omega), qmq (by omega)]; done)
    | (rw [qeq (by omega), qoj (by omega) (by omega) hq hu]; done)
    | (simp only [aget, Nat.reduceEqDiff, qe3, qek, qfo, Nat.reduceLT, ↓reduceIte, uEnd]; (repeat' split) <;> first | rfl | (exfalso; omega))
    | (show qbv (l.take 0) = []; rfl))
  | (refine qbex (M := 240) (us := qbv (l.take i)) (by omega) rfl (u' := uEnd (l.getD i q0i) u) hu ?_ ?_ rfl ?_ ?_ ?_ <;> first
    | (simp only [aget, Nat.reduceEqDiff, qe3, qek, qfo, Nat.reduceLT, ↓reduceIte, List.take_zero]; done)
    | (intro j; simp only [aget, Nat.reduceEqDiff, qe3, qek, qfo, Nat.reduceLT, ↓reduceIte]; done)
    | (intro j hj; simp only [aget, Nat.reduceEqDiff, qe3, qek, qfo, Nat.reduceLT, hj, ↓reduceIte]; done)
    | (intro ρ nf h1 h2; simp only [qi0, aget, vs, ↓reduceIte, Nat.reduceEqDiff, qnt, qmo, dle, D.i.injEq, eq_self, and_self, and_true, true_and, V.mref.injEq, exists_eq_left', h1, h2]; first | done | omega)
    | (rw [qeq (by omega), qlg (by omega) (by omega)]; done)
    | (rw [qeq (by omega), qmq (by omega)]; done)
    | (rw [qeq (by omega), qoj (by omega) (by omega) hq hu]; done)
    | (simp only [aget, Nat.reduceEqDiff, qe3, qek, qfo, Nat.reduceLT, ↓reduceIte, uEnd]; (repeat' split) <;> first | rfl | (exfalso; omega))
    | (show qbv (l.take 0) = []; rfl))
  | (refine q0h ?_; refine subQ ?_)
  | (subst hK)
  | exact trivial
  all_goals try (intros; assumption)
  all_goals try refine q0v ?_
  all_goals try replace hp := q0a hp
  all_goals try replace hi := q0a hi
  all_goals try replace hj := q0a hj
  all_goals try (intros; first | trivial | omega)
  all_goals (try (rw [w64 (by omega) (by omega)]; first | done | omega))
  all_goals first
  | (rw [qs4 (by omega)]; done)
  | (rw [qi1 (by rw [qs4 (by omega)]; decide)]; trivial)
  | exact qbey (by omega)
  | exact UInv.nil
  | exact qbiu _
  | (rw [qup hi.2.2.1 (by omega) (by assumption)]; done)
  | (rw [qi1 (by rw [qup hi.2.2.1 (by omega) (by assumption)]; assumption)]; trivial)
  | (rw [quq hi.2.2.1 (by omega) (by assumption) (by assumption)]; done)
  | (rw [qi1 (by rw [quq hi.2.2.1 (by omega) (by assumption) (by assumption)]; show (14 : Int) ≠ 0; decide)]; trivial)
  | (have e : l.take i = l := List.take_of_length_le (by omega)
     rw [e, qk2 (by rw [← hi.2.2.1, qmz (by omega)])]; exact q0q _)
  | (rw [← hi.2.2.1, qmz (by omega)]; done)
  | (have hst := (hi.2.2.2.st (l.getD i q0i)).trans (qbez hq)
     have hck := qs5 hi.2.2.1 (by omega) (by assumption) (by omega) hst
     clear hC hq
     first
     | (rw [if_pos (by (repeat' split) <;> omega)] at hck; first | exact hck | exact hi.2.2.2.next (by omega) (hst.trans (by (repeat' split) <;> omega)))
     | (rw [if_neg (by (repeat' split) <;> omega)] at hck; first | (rw [hck]; done) | (rw [hck]; (repeat' split) <;> first | rfl | omega) | (rw [qi1 (by rw [hck]; dsimp only; (repeat' split) <;> omega)]; trivial)))
  | (have hst := (hi.2.2.2.st (l.getD i q0i)).trans (qbe0 hq hu)
     have hck := qs5 hi.2.2.1 (by omega) (by assumption) (by omega) hst
     clear hC hq
     first
     | (rw [if_pos (by (repeat' split) <;> omega)] at hck; first | exact hck | exact hi.2.2.2.next (by omega) (hst.trans (by (repeat' split) <;> omega)))
     | (rw [if_neg (by (repeat' split) <;> omega)] at hck; first | (rw [hck]; done) | (rw [hck]; (repeat' split) <;> first | rfl | omega) | (rw [qi1 (by rw [hck]; dsimp only; (repeat' split) <;> omega)]; trivial)))
end
noncomputable def cfg46 : Cfg := mkC 15 q6x
theorem qbnw : cfg46.pins = [] ∧ cfg46.P = Tryz.prog ∧ cfg46.N = 15 ∧ cfg46.ti 61 = none ∧ cfg46.T 61 = e61 ∧ cfg46.mv 61 = (fun _ => []) := by and_intros <;> exact rfl
section
attribute [local go_sem] qbnw e61
attribute [local go_sem] q0u q0r qd5 qeo qba qb4 qbh qcl q00 q0w qdr
theorem qbx3 (hC : COk cfg46) (l : List Entry) (hp : l.length ≤ 1000000) : Sem Tryz.prog 46 [.d (.sl 8 (l.map q0r))] (.tup [.d (.i .i64 (qbc l).1), .d (.i .i64 (qbc l).2)]) := by
  refine q0f (C := cfg46) (rs := [.tmp 2, .tmp 3]) (fun _ => []) Tryz.func46 rfl rfl rfl rfl rfl rfl ?_
  refine inQ ?_
  repeat' first
  | (with_reducible first | apply q0l | apply q0c | apply AW.seq | apply AW.block | apply AW.skip | apply AW.exit | apply AW.ret | apply q0m | apply q0n | apply q0d | apply q0e | refine q0b rfl ?_ | apply q0o | apply q0p | apply And.intro)
  | (with_reducible refine AW.runK hC ?_; intro K hK)
  | ((with_reducible first | refine q0t ?_ | refine q0k ?_); refine siQ ?_; (try simp (disch := omega) only [w64, wu8]))
  | ((first | refine AW.cond rfl (fun h => ?_) fun h => ?_ | refine AW.cond_ub rfl (fun h => ?_) ?_ | refine AW.cond_nb rfl ?_ fun h => ?_) <;> (try replace h := q0a h) <;> try (exfalso; first | omega | exact absurd h (by decide)))
  | (refine q0h ?_; refine subQ ?_)
  | (subst hK)
  | exact trivial
  all_goals try (intros; assumption)
  all_goals try refine q0v ?_
  all_goals try replace hp := q0a hp
  all_goals try (intros; first | trivial | omega)
  all_goals (try (rw [w64 (by omega) (by omega)]; first | done | omega))
end
noncomputable def cfg12 : Cfg := mkC 5 q6y
theorem qbnx : cfg12.pins = [] ∧ cfg12.P = Tryz.prog ∧ cfg12.N = 5 := ⟨rfl, rfl, rfl⟩
section
attribute [local go_sem] qbnx
theorem qbx4 (hC : COk cfg12) (l : List Entry) (hp : l.length ≤ 1000000) : Sem Tryz.prog 12 [.d (.sl 8 (l.map q0r))] (.own 50 8 (l.map q0r)) := by
  refine q0f (C := cfg12) (rs := [.tmp 2]) (fun _ => [(0, 50, 8)]) Tryz.func12 rfl rfl rfl rfl rfl rfl ?_
  refine inQ ?_
  repeat' first
  | (with_reducible first | apply q0l | apply q0c | apply AW.seq | apply AW.block | apply AW.skip | apply AW.exit | apply AW.ret | apply q0m | apply q0n | apply q0d | apply q0e | refine q0b rfl ?_ | apply q0o | apply q0p | apply And.intro)
  | (with_reducible refine AW.runK hC ?_; intro K hK)
  | ((with_reducible first | refine q0t ?_ | refine q0k ?_); refine siQ ?_; (try simp (disch := omega) only [w64, wu8]))
  | ((first | refine AW.cond rfl (fun h => ?_) fun h => ?_ | refine AW.cond_ub rfl (fun h => ?_) ?_ | refine AW.cond_nb rfl ?_ fun h => ?_) <;> (try replace h := q0a h) <;> try (exfalso; first | omega | exact absurd h (by decide)))
  | (refine q0h ?_; refine subQ ?_)
  | (subst hK)
  | exact trivial
  all_goals try (intros; assumption)
  all_goals try refine q0v ?_
  all_goals try replace hp := q0a hp
  all_goals try (intros; first | trivial | omega)
  all_goals (try (rw [w64 (by omega) (by omega)]; first | done | omega))
  all_goals first | omega | (simp_all [dles]; done)
end
end Go.Ev
