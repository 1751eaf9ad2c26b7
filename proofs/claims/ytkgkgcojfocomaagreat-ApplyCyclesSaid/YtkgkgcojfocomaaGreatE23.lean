/- Tools and contracts under the laws of this seat: Dyc75 to Dyc25. -/
import Derived.Test.YtkgkgcojfocomaaGreatE09
set_option linter.unusedVariables false
set_option linter.unusedSimpArgs false
namespace Go.Ev
open Go.Proofs Ty
set_option maxRecDepth 10000
set_option maxHeartbeats 4000000
attribute [local go_sem] Int.toNat_natCast qd7 qer qcv qch qbn qb2 List.length_map List.length_take Int.toNat_zero Nat.sub_zero qcn qdu qdz
attribute [local go_sem ←] List.map_take List.map_drop
noncomputable def cfg75 : Cfg := ⟨Tryz.prog, 39, q2s, (fun _ _ => []), [0], (fun _ => none)⟩
theorem qbo4 : cfg75.pins = [0] ∧ cfg75.P = Tryz.prog ∧ cfg75.N = 39 ∧ cfg75.T 77 = e77 ∧ cfg75.T 97 = e97 ∧ cfg75.ti = (fun _ => none) ∧ cfg75.mv = fun _ _ => [] := by and_intros <;> exact rfl
section
attribute [local go_sem] qbo4 e77 e97
attribute [local go_sem] qbe qbg qcg qc2 qb7 qde qdo qei qdd decI nc0 qbf qbm q05 qb5 qc8 qds qbw qb3 qec qe9 q06 qbx qcq qdc qb6 qci qdt qed qbp qc5 qee qfa qb1 qbr qcu qda qcs qeg qdb qct qeh qc9 qcr qef qck List.drop_zero q0g q0y qdf qdy q0u q00 qba qbh qcy qcz List.length_set Nat.le_refl qc0 qcm q0r q0w qb4 qcl qd4 qgm qjs qlh qjt qju qlo qjx qjy qea
theorem qbzb (hC : COk cfg75) (x : Ans) (c : Change) (hp : okTs x.tables) : Sem Tryz.prog 75 [.bx 33 [.own 80 6 (x.tables.map q0g), .d (.i .i64 x.n), .d (.sl 1 (x.units.map (D.i .i64))), .d (.i .i64 x.err)], .d (q0u c)] (.tup [.d (.i .i64 (cond x.tables c)), .bx 33 [.own 80 6 ((doT x.tables c).map q0g), .d (.i .i64 x.n), .d (.sl 1 (x.units.map (D.i .i64))), .d (.i .i64 x.err)]]) := by
  have hB : x.tables.length ≤ 1000000 := hp.1
  have hf := qks x.tables c.file
  refine q0f (C := cfg75) (rs := [.tmp 4]) (fun j => if j = 1 then [(4242, 33, 0), (0, 80, 6)] else []) Tryz.func75 rfl rfl rfl rfl rfl rfl ?_
  refine inQ ?_
  repeat' first
  | (with_reducible first | apply q0l | apply q0c | apply AW.seq | apply AW.block | apply AW.skip | apply AW.exit | apply AW.ret | apply q0m | apply q0n | apply q0d | apply q0e | refine q0b rfl ?_ | apply q0o | apply q0p | apply And.intro)
  | (refine AW.atR 4 rfl ?_; have hg : ∀ z, (x.tables.map q0g).getD (qbq x.tables c.file).toNat z = q0g (x.tables.getD (qbq x.tables c.file).toNat q0z) := fun z => qgj (by omega) z)
  | (with_reducible first | (refine AWh.runK hC ?_; intro K hK) | (refine AWh.drawK hC (by kernel_rfl) ?_; intro K hK))
  | (with_reducible first | (refine AW.runK hC ?_; intro K hK) | (refine AW.drawK hC (by kernel_rfl) ?_; intro K hK))
  | ((with_reducible first | refine q0t ?_ | refine qbz ?_ | refine q0k ?_); (first | (simp (maxSteps := 1000000) only [go_sem, ↓reduceIte, reduceCtorEq, Nat.reduceEqDiff, Nat.reduceLT, Nat.reduceLeDiff, Nat.reduceMul, Nat.reduceAdd, Nat.reduceSub, reduceDIte, Nat.reduceBEq, Nat.reduceBNe, hg]) | (refine siQ ?_)); (try simp (disch := omega) only [w64, wu8]))
  | (with_reducible refine qbj (by kernel_rfl) ?_)
  | ((first | refine AW.cond rfl (fun h => ?_) fun h => ?_ | refine AW.cond_ub rfl (fun h => ?_) ?_ | refine AW.cond_nb rfl ?_ fun h => ?_) <;> (try replace h := q0a h) <;> try (exfalso; first | omega | exact absurd h (by decide)))
  | (refine q0h ?_; refine subQ ?_)
  | (subst hK)
  | exact trivial
  all_goals try (intros; assumption)
  all_goals try refine q0v ?_
  all_goals try replace hp := q0a hp
  all_goals try (intros; first | trivial | omega)
  all_goals (try (rw [w64 (by omega) (by omega)]; first | done | omega))
  all_goals clear hC
  all_goals (try simp only [qs8] at *)
  all_goals first
  | omega
  | exact (q5h (by assumption)).1
  | (rw [(q5h (by assumption)).2]; exact q0q _)
  | exact (hp.2 _).1
  | exact (hp.2 _).2.1
  | exact (hp.2 _).2.2
  | exact (qbbq (by assumption) (by assumption)).1
  | (rw [(qbbq (by assumption) (by assumption)).2]; exact q0q _)
  | exact (qbbr (by assumption) (by assumption)).1
  | (rw [(qbbr (by assumption) (by assumption)).2, qh5 (by assumption), List.take_of_length_le (by simp), List.map_set]; exact q0q _)
end
noncomputable def cfg42 : Cfg := ⟨Tryz.prog, 40, q8r, mvz, [], (fun _ => none)⟩
theorem qbo5 : cfg42.pins = [] ∧ cfg42.P = Tryz.prog ∧ cfg42.N = 40 ∧ cfg42.T 11 = e11 ∧ cfg42.mv 11 = (fun _ => []) ∧ cfg42.T 75 = e75 ∧ cfg42.mv 75 = (fun j => if j = 0 then [(4242, 33, 0), (0, 80, 6)] else []) ∧ cfg42.T 76 = e76 ∧ cfg42.mv 76 = (fun _ => []) ∧ cfg42.T 77 = e77 ∧ cfg42.mv 77 = (fun _ => []) ∧ cfg42.ti = fun _ => none := by and_intros <;> exact rfl
section
attribute [local go_sem] qbo5 e11 e75 e76 e77
attribute [local go_sem] qbe qbg qcg qc2 qb7 qde qdo qei qdd decI nc0 qbf qbm q05 qb5 qc8 qds qbw qb3 qec qe9 q06 qbx qcq qdc qb6 qci qdt qed qbp qc5 qee qfa qb1 qbr qcu qda qcs qeg qdb qct qeh qc9 qcr qef qck List.drop_zero q0g q0y qdf qdy q0u q00 qba qbh qcy qcz List.length_set Nat.le_refl qc0 qcm q0r q0w qb4 qcl qd4 qgm qjs qlh qjt qju qlo qjx qjy qea List.take_length
theorem qbzc (hC : COk cfg42) (ts : List Table) (cs : List Change) (hp : okTs ts ∧ cs.length ≤ 1000000) : Sem Tryz.prog 42 [.d (.sl 6 (ts.map q0g)), .d (.sl 5 (cs.map q0u))] (.d (qd4 (qfc (qcd ts cs)))) := by
  have hB : ts.length ≤ 1000000 := hp.1.1
  refine q0f (C := cfg42) (rs := [.cell 4 33]) (fun _ => []) Tryz.func42 rfl rfl rfl rfl rfl rfl ?_
  refine inQ ?_
  repeat' first
  | (with_reducible first | apply q0l | apply q0c | apply AW.seq | apply AW.block | apply AW.skip | apply AW.exit | apply AW.ret | apply q0m | apply q0n | apply q0d | apply q0e | refine q0b rfl ?_ | apply q0o | apply q0p | apply And.intro)
  | (refine AW.atR 8 rfl ?_; have hcn := qbf4 (ts := ts) (cs := cs) (k := k); have hcb := qsj ts cs k)
  | (with_reducible first | (refine AWh.runK hC ?_; intro K hK) | (refine AWh.drawK hC (by kernel_rfl) ?_; intro K hK))
  | (with_reducible first | (refine AW.runK hC ?_; intro K hK) | (refine AW.drawK hC (by kernel_rfl) ?_; intro K hK))
  | ((with_reducible first | refine q0t ?_ | refine qbz ?_ | refine q0k ?_); refine siQ ?_; (try simp (disch := omega) only [w64, wu8]))
  | (with_reducible refine qbj (by kernel_rfl) ?_)
  | ((first | refine AW.cond rfl (fun h => ?_) fun h => ?_ | refine AW.cond_ub rfl (fun h => ?_) ?_ | refine AW.cond_nb rfl ?_ fun h => ?_) <;> (try replace h := q0a h) <;> try (exfalso; first | omega | exact absurd h (by decide)))
  | (refine AW.loopN 3 rfl (ι := Nat) (fun k => mkS [(0, V.d (.sl 6 (ts.map q0g))), (1, V.d (.sl 5 (cs.map q0u))), (4, V.ptr 64 0), (5, V.ptr 80 0), (6, V.d (.i .i64 (k : Int)))] ([(64, .live (.box 33 [.d .nil, .d (.i .i64 0), .d .nil, .d (.i .i64 0)])), (80, .live (.box 33 [V.row 144 6 0 (mTo ts cs k).1.length, .d (.i .i64 (mTo ts cs k).2), .d (.sl 1 []), .d (.i .i64 0)])), (144, .live (.row 80 6 false ((mTo ts cs k).1.map q0g)))])) (fun k => k ≤ cs.length ∧ ∀ j, j < k → mErr ts cs j = 0) (fun k => cs.length - k) (0) ?_ ?_ (fun k hk => ?_) <;> (try dsimp only) <;> (try dsimp only at hk))
  | (refine LoopNext.mk1 3 (k + 1) ?_ ?_ ?_ <;> (try dsimp only))
  | (refine q0h ?_; refine subQ ?_)
  | (subst hK)
  | exact trivial
  all_goals try (intros; assumption)
  all_goals try refine q0v ?_
  all_goals try replace hp := q0a hp
  all_goals try replace hk := q0a hk
  all_goals try (intros; first | trivial | omega)
  all_goals (try (rw [w64 (by omega) (by omega)]; first | done | omega))
  all_goals clear hC
  all_goals (try have OK := qu6 (cs := cs) hp.1 hk.2)
  all_goals (try have CN := qsj ts cs k)
  all_goals (try have LN := ql5 ts cs k)
  all_goals first
  | omega
  | exact hp.1
  | exact OK
  | exact OK.1
  | exact q0q _
  | (rw [qbm4 hk.2 (by omega) (by assumption)]; first | done | rfl)
  | exact qes hk.2 (by rw [qrs]; assumption)
  | (rw [qbm3 (by rw [qrs]; assumption)]; first | done | exact q0q _)
  | (rw [qbm5 hk.2 (by omega)]; first | done | rfl | exact q0q _)
end
noncomputable def cfg39 : Cfg := ⟨Tryz.prog, 17, q8s, mvz, [], (fun _ => none)⟩
theorem qbo6 : cfg39.pins = [] ∧ cfg39.P = Tryz.prog ∧ cfg39.N = 17 ∧ cfg39.T 50 = e50 ∧ cfg39.mv 50 = (fun _ => []) ∧ cfg39.T 74 = e74 ∧ cfg39.mv 74 = (fun _ => []) ∧ cfg39.ti = fun _ => none := by and_intros <;> exact rfl
section
attribute [local go_sem] qbo6 e50 e74
attribute [local go_sem] qbe qbg qcg qc2 qb7 qde qdo qei qdd decI nc0 qbf qbm q05 qb5 qc8 qds qbw qb3 qec qe9 q06 qbx qcq qdc qb6 qci qdt qed qbp qc5 qee qfa qb1 qbr qcu qda qcs qeg qdb qct qeh qc9 qcr qef qck List.drop_zero q0g q0y qdf qdy q0u q00 qba qbh qcy qcz List.length_set Nat.le_refl qc0 qcm q0r q0w qb4 qcl qd4 qgm qjs qlh qjt qju qlo qjx qjy qea
theorem qbzd (hC : COk cfg39) (ts : List Table) (l : List Entry) (hp : okTs ts ∧ l.length ≤ 1000000) : Sem Tryz.prog 39 [.d (.sl 6 (ts.map q0g)), .d (.sl 8 (l.map q0r))] (.d (.i .i64 (chkE ts l))) := by
  refine q0f (C := cfg39) (rs := [.tmp 4]) (fun _ => []) Tryz.func39 rfl rfl rfl rfl rfl rfl ?_
  refine inQ ?_
  repeat' first
  | (with_reducible first | apply q0l | apply q0c | apply AW.seq | apply AW.block | apply AW.skip | apply AW.exit | apply AW.ret | apply q0m | apply q0n | apply q0d | apply q0e | refine q0b rfl ?_ | apply q0o | apply q0p | apply And.intro)
  | (with_reducible refine AW.runK hC ?_; intro K hK)
  | ((with_reducible first | refine q0t ?_ | refine q0k ?_); refine siQ ?_; (try simp (disch := omega) only [w64, wu8]))
  | ((first | refine AW.cond rfl (fun h => ?_) fun h => ?_ | refine AW.cond_ub rfl (fun h => ?_) ?_ | refine AW.cond_nb rfl ?_ fun h => ?_) <;> (try replace h := q0a h) <;> try (exfalso; first | omega | exact absurd h (by decide)))
  | (refine q0h ?_; refine subQ ?_)
  | (subst hK)
  | exact trivial
  all_goals try (intros; assumption)
  all_goals try refine q0v ?_
  all_goals try replace hp := q0a hp
  all_goals try (intros; first | trivial | omega)
  all_goals (try (rw [w64 (by omega) (by omega)]; first | done | omega))
  all_goals clear hC
  all_goals (try simp only [qbrw] at *)
  all_goals first
  | omega
  | exact hp.1
  | (rw [(qsi (by assumption)).2]; done)
  | (rw [(qkp (by assumption)).2]; done)
end
noncomputable def cfg40 : Cfg := ⟨Tryz.prog, 18, q8t, mvz, [], (fun _ => none)⟩
theorem qbo7 : cfg40.pins = [] ∧ cfg40.P = Tryz.prog ∧ cfg40.N = 18 := ⟨rfl, rfl, rfl⟩
section
attribute [local go_sem] qbo7
attribute [local go_sem] qbe qbg qcg qc2 qb7 qde qdo qei qdd decI nc0 qbf qbm q05 qb5 qc8 qds qbw qb3 qec qe9 q06 qbx qcq qdc qb6 qci qdt qed qbp qc5 qee qfa qb1 qbr qcu qda qcs qeg qdb qct qeh qc9 qcr qef qck List.drop_zero q0g q0y qdf qdy q0u q00 qba qbh qcy qcz List.length_set Nat.le_refl qc0 qcm q0r q0w qb4 qcl qd4 qgm qjs qlh qjt qju qlo qjx qjy qea
theorem qbze (hC : COk cfg40) (l : List Entry) (hp : l.length ≤ 1000000) : Sem Tryz.prog 40 [.d (.sl 8 (l.map q0r))] (.tup [.d (.i .i64 (qgc l)), .d (.i .i64 (qgd l))]) := by
  refine q0f (C := cfg40) (rs := [.tmp 2, .tmp 3]) (fun _ => []) Tryz.func40 rfl rfl rfl rfl rfl rfl ?_
  refine inQ ?_
  repeat' first
  | (with_reducible first | apply q0l | apply q0c | apply AW.seq | apply AW.block | apply AW.skip | apply AW.exit | apply AW.ret | apply q0m | apply q0n | apply q0d | apply q0e | refine q0b rfl ?_ | apply q0o | apply q0p | apply And.intro)
  | (refine AW.atR 3 rfl ?_; have hj : ((l.length : Int) - 1).toNat = l.length - 1 := (by omega))
  | (with_reducible first | (refine AWh.runK hC ?_; intro K hK) | (refine AWh.drawK hC (by kernel_rfl) ?_; intro K hK))
  | (with_reducible first | (refine AW.runK hC ?_; intro K hK) | (refine AW.drawK hC (by kernel_rfl) ?_; intro K hK))
  | ((with_reducible first | refine q0t ?_ | refine qbz ?_ | refine q0k ?_); (first | (simp (maxSteps := 1000000) only [go_sem, ↓reduceIte, reduceCtorEq, Nat.reduceEqDiff, Nat.reduceLT, Nat.reduceLeDiff, Nat.reduceMul, Nat.reduceAdd, Nat.reduceSub, reduceDIte, Nat.reduceBEq, Nat.reduceBNe, hj]) | (refine siQ ?_)); (try simp (disch := omega) only [w64, wu8]))
  | (with_reducible refine qbj (by kernel_rfl) ?_)
  | ((first | refine AW.cond rfl (fun h => ?_) fun h => ?_ | refine AW.cond_ub rfl (fun h => ?_) ?_ | refine AW.cond_nb rfl ?_ fun h => ?_) <;> (try replace h := q0a h) <;> try (exfalso; first | omega | exact absurd h (by decide)))
  | (refine q0h ?_; refine subQ ?_)
  | (subst hK)
  | exact trivial
  all_goals try (intros; assumption)
  all_goals try refine q0v ?_
  all_goals try replace hp := q0a hp
  all_goals try replace hj := q0a hj
  all_goals try (intros; first | trivial | omega)
  all_goals (try (rw [w64 (by omega) (by omega)]; first | done | omega))
  all_goals clear hC
  all_goals first
  | omega
  | (unfold qgc; rw [if_pos (by omega)]; done)
  | (unfold qgd; rw [if_pos (by omega)]; done)
  | (unfold qgc; rw [if_neg (by omega)]; done)
  | (unfold qgd; rw [if_neg (by omega)]; done)
end
noncomputable def cfg13 : Cfg := ⟨Tryz.prog, 63, q8u, mvz, [], (fun _ => none)⟩
theorem qbo8 : cfg13.pins = [] ∧ cfg13.P = Tryz.prog ∧ cfg13.N = 63 ∧ cfg13.T 39 = e39 ∧ cfg13.mv 39 = (fun _ => []) ∧ cfg13.T 40 = e40 ∧ cfg13.mv 40 = (fun _ => []) ∧ cfg13.T 41 = e41 ∧ cfg13.mv 41 = (fun _ => []) ∧ cfg13.T 42 = e42 ∧ cfg13.mv 42 = (fun _ => []) ∧ cfg13.ti = fun _ => none := by and_intros <;> exact rfl
section
attribute [local go_sem] qbo8 e39 e40 e41 e42
attribute [local go_sem] qbe qbg qcg qc2 qb7 qde qdo qei qdd decI nc0 qbf qbm q05 qb5 qc8 qds qbw qb3 qec qe9 q06 qbx qcq qdc qb6 qci qdt qed qbp qc5 qee qfa qb1 qbr qcu qda qcs qeg qdb qct qeh qc9 qcr qef qck List.drop_zero q0g q0y qdf qdy q0u q00 qba qbh qcy qcz List.length_set Nat.le_refl qc0 qcm q0r q0w qb4 qcl qd4 qgm qjs qlh qjt qju qlo qjx qjy qea
theorem qbzf (hC : COk cfg13) (ts : List Table) (l : List Entry) (n : Int) (hp : okTs ts ∧ l.length ≤ 1000000) : Sem Tryz.prog 13 [.d (.sl 6 (ts.map q0g)), .d (.sl 8 (l.map q0r)), .d (.i .i64 n)] (.d (qd4 (qfc (qew ts l n)))) := by
  refine q0f (C := cfg13) (rs := [.cell 6 33]) (fun _ => []) Tryz.func13 rfl rfl rfl rfl rfl rfl ?_
  refine inQ ?_
  repeat' first
  | (with_reducible first | apply q0l | apply q0c | apply AW.seq | apply AW.block | apply AW.skip | apply AW.exit | apply AW.ret | apply q0m | apply q0n | apply q0d | apply q0e | refine q0b rfl ?_ | apply q0o | apply q0p | apply And.intro)
  | (refine AW.atR 5 rfl ?_; have BL := qom (l := l) (qfj (ts := ts) (by assumption)).2; have hw : IntKind.i64.wrap (qgc l - 1) = qgc l - 1 := (w64 (by omega) (by omega)))
  | (with_reducible first | (refine AWh.runK hC ?_; intro K hK) | (refine AWh.drawK hC (by kernel_rfl) ?_; intro K hK))
  | (with_reducible refine AW.runK hC ?_; intro K hK)
  | ((with_reducible first | refine q0t ?_ | refine q0k ?_); (first | (simp (maxSteps := 1000000) only [go_sem, ↓reduceIte, reduceCtorEq, Nat.reduceEqDiff, Nat.reduceLT, Nat.reduceLeDiff, Nat.reduceMul, Nat.reduceAdd, Nat.reduceSub, reduceDIte, Nat.reduceBEq, Nat.reduceBNe, hw]) | (refine siQ ?_)); (try simp (disch := omega) only [w64, wu8]))
  | ((first | refine AW.cond rfl (fun h => ?_) fun h => ?_ | refine AW.cond_ub rfl (fun h => ?_) ?_ | refine AW.cond_nb rfl ?_ fun h => ?_) <;> (try replace h := q0a h) <;> try (exfalso; first | omega | exact absurd h (by decide)))
  | (refine AW.loopN 9 rfl (ι := Nat) (fun i => mkS [(0, V.d (.sl 6 (ts.map q0g))), (1, V.d (.sl 8 (l.map q0r))), (2, V.d (.i .i64 n)), (6, V.ptr 96 0), (10, V.row 160 5 0 (qev ⟨true, n⟩ false (l.take i)).length), (11, V.d (.i .i64 (i : Int)))] ([(96, .live (.box 33 [.d .nil, .d (.i .i64 0), .d .nil, .d (.i .i64 0)])), (160, .live (.row 48 5 false ((qev ⟨true, n⟩ false (l.take i)).map q0u)))])) (fun i => i ≤ l.length ∧ chkE ts l = 0 ∧ qgc l - 1 ≤ n ∧ n ≤ qgd l) (fun i => l.length - i) (0) ?_ ?_ (fun i hi => ?_) <;> (try dsimp only) <;> (try dsimp only at hi))
  | (refine LoopNext.mk1 9 (i + 1) ?_ ?_ ?_ <;> (try dsimp only))
  | (refine q0h ?_; refine subQ ?_)
  | (subst hK)
  | exact trivial
  all_goals try (intros; assumption)
  all_goals try refine q0v ?_
  all_goals try replace hp := q0a hp
  all_goals try replace hi := q0a hi
  all_goals try (intros; first | trivial | omega)
  all_goals (try (rw [w64 (by omega) (by omega)]; first | done | omega))
  all_goals clear hC
  all_goals (try have BL := qom (l := l) (qfj (ts := ts) (by assumption)).2)
  all_goals first
  | omega
  | exact hp.1
  | exact hp.2
  | exact q0q _
  | (rw [qbm7 (by assumption)]; first | done | rfl)
  | (rw [qbm8 (by assumption) (by omega)]; first | done | rfl)
  | (intro d hd; subst hd; exact ⟨rfl, by simp [D.cells, D.one]⟩)
  | (have := qn1 (w := ⟨true, n⟩) (back := false) (l := l) (i := i); omega)
  | (rw [ql4 (by omega) (by rw [qkr]; omega), List.length_append]; rfl)
  | (rw [ql4 (by omega) (by rw [qkr]; omega), List.map_append]; exact q0q _)
  | (rw [qo9 (by omega) (by rw [qkr]; omega)]; first | done | exact q0q _)
  | (rw [qbry (by assumption) (by omega), qxz (by omega)]; first | done | exact q0q _)
end
noncomputable def cfg16 : Cfg := ⟨Tryz.prog, 65, q8v, mvz, [], (fun _ => none)⟩
theorem qbo9 : cfg16.pins = [] ∧ cfg16.P = Tryz.prog ∧ cfg16.N = 65 ∧ cfg16.T 39 = e39 ∧ cfg16.mv 39 = (fun _ => []) ∧ cfg16.T 40 = e40 ∧ cfg16.mv 40 = (fun _ => []) ∧ cfg16.T 41 = e41 ∧ cfg16.mv 41 = (fun _ => []) ∧ cfg16.T 42 = e42 ∧ cfg16.mv 42 = (fun _ => []) ∧ cfg16.T 45 = e45 ∧ cfg16.mv 45 = (fun _ => []) ∧ cfg16.ti = fun _ => none := by and_intros <;> exact rfl
section
attribute [local go_sem] qbo9 e39 e40 e41 e42 e45
attribute [local go_sem] qbe qbg qcg qc2 qb7 qde qdo qei qdd decI nc0 qbf qbm q05 qb5 qc8 qds qbw qb3 qec qe9 q06 qbx qcq qdc qb6 qci qdt qed qbp qc5 qee qfa qb1 qbr qcu qda qcs qeg qdb qct qeh qc9 qcr qef qck List.drop_zero q0g q0y qdf qdy q0u q00 qba qbh qcy qcz List.length_set Nat.le_refl qc0 qcm q0r q0w qb4 qcl qd4 qgm qjs qlh qjt qju qlo qjx qjy qea
theorem qbzg (hC : COk cfg16) (ts : List Table) (l : List Entry) (n : Int) (hp : okTs ts ∧ l.length ≤ 1000000) : Sem Tryz.prog 16 [.d (.sl 6 (ts.map q0g)), .d (.sl 8 (l.map q0r)), .d (.i .i64 n)] (.d (qd4 (qfc (qfk ts l n)))) := by
  refine q0f (C := cfg16) (rs := [.cell 6 33]) (fun _ => []) Tryz.func16 rfl rfl rfl rfl rfl rfl ?_
  refine inQ ?_
  repeat' first
  | (with_reducible first | apply q0l | apply q0c | apply AW.seq | apply AW.block | apply AW.skip | apply AW.exit | apply AW.ret | apply q0m | apply q0n | apply q0d | apply q0e | refine q0b rfl ?_ | apply q0o | apply q0p | apply And.intro)
  | (refine AW.atR 5 rfl ?_; have BL := qom (l := l) (qfj (ts := ts) (by assumption)).2; have hw : IntKind.i64.wrap (qgd l + 1) = qgd l + 1 := (w64 (by omega) (by omega)))
  | (with_reducible first | (refine AWh.runK hC ?_; intro K hK) | (refine AWh.drawK hC (by kernel_rfl) ?_; intro K hK))
  | (with_reducible refine AW.runK hC ?_; intro K hK)
  | ((with_reducible first | refine q0t ?_ | refine q0k ?_); (first | (simp (maxSteps := 1000000) only [go_sem, ↓reduceIte, reduceCtorEq, Nat.reduceEqDiff, Nat.reduceLT, Nat.reduceLeDiff, Nat.reduceMul, Nat.reduceAdd, Nat.reduceSub, reduceDIte, Nat.reduceBEq, Nat.reduceBNe, hw]) | (refine siQ ?_)); (try simp (disch := omega) only [w64, wu8]))
  | ((first | refine AW.cond rfl (fun h => ?_) fun h => ?_ | refine AW.cond_ub rfl (fun h => ?_) ?_ | refine AW.cond_nb rfl ?_ fun h => ?_) <;> (try replace h := q0a h) <;> try (exfalso; first | omega | exact absurd h (by decide)))
  | (refine AW.loopN 9 rfl (ι := Nat) (fun j => mkS [(0, V.d (.sl 6 (ts.map q0g))), (1, V.d (.sl 8 (l.map q0r))), (2, V.d (.i .i64 n)), (6, V.ptr 96 0), (10, V.row 160 5 0 (qia ⟨false, n⟩ l j).length), (11, V.d (.i .i64 ((j : Int) - 1)))] ([(96, .live (.box 33 [.d .nil, .d (.i .i64 0), .d .nil, .d (.i .i64 0)])), (160, .live (.row 48 5 false ((qia ⟨false, n⟩ l j).map q0u)))])) (fun j => j ≤ l.length ∧ chkE ts l = 0 ∧ qgc l ≤ n ∧ n ≤ qgd l + 1) (fun j => j) (l.length) ?_ ?_ (fun j hi => ?_) <;> (try dsimp only) <;> (try dsimp only at hi))
  | (refine LoopNext.mk1 9 (j - 1) ?_ ?_ ?_ <;> (try dsimp only))
  | (refine q0h ?_; refine subQ ?_)
  | (subst hK)
  | exact trivial
  all_goals try (intros; assumption)
  all_goals try refine q0v ?_
  all_goals try replace hp := q0a hp
  all_goals try replace hi := q0a hi
  all_goals try (intros; first | trivial | omega)
  all_goals (try (rw [w64 (by omega) (by omega)]; first | done | omega))
  all_goals clear hC
  all_goals (try simp only [qjr] at *)
  all_goals (try have BL := qom (l := l) (qfj (ts := ts) (by assumption)).2)
  all_goals first
  | omega
  | exact hp.1
  | exact hp.2
  | exact q0q _
  | (rw [qbm9 (by assumption)]; first | done | rfl)
  | (rw [qbna (by assumption) (by omega)]; first | done | rfl)
  | (intro d hd; subst hd; exact ⟨rfl, by simp [D.cells, D.one]⟩)
  | (have := qbf5 ⟨false, n⟩ l j; omega)
  | (rw [q8m (Nat.le_refl _)]; rfl)
  | (rw [q2k (j := j - 1) (by omega) (by rw [qkq]; omega), show j - 1 + 1 = j by omega, List.length_append]; rfl)
  | (rw [q2k (j := j - 1) (by omega) (by rw [qkq]; omega), show j - 1 + 1 = j by omega, List.map_append]; exact q0q _)
  | (rw [qbm6 (j := j - 1) (by omega) (by rw [qkq]; omega), show j - 1 + 1 = j by omega]; first | done | exact q0q _)
  | (rw [qbrz (by assumption) (by omega), ← qbf6 (qfj (ts := ts) (by assumption)).2, show j = 0 by omega]; first | done | exact q0q _)
end
noncomputable def cfg14 : Cfg := ⟨Tryz.prog, 17, q8w, mvz, [], (fun _ => none)⟩
theorem qbpa : cfg14.pins = [] ∧ cfg14.P = Tryz.prog ∧ cfg14.N = 17 ∧ cfg14.ti 43 = none ∧ cfg14.T 43 = e43 ∧ cfg14.mv 43 = (fun _ => []) := by and_intros <;> exact rfl
section
attribute [local go_sem] qbpa e43
attribute [local go_sem] qbe qbg qcg qc2 qb7 qde qdo qei qdd decI nc0 qbf qbm q05 qb5 qc8 qds qbw qb3 qec qe9 q06 qbx qcq qdc qb6 qci qdt qed qbp qc5 qee qfa qb1 qbr qcu qda qcs qeg qdb qct qeh qc9 qcr qef qck List.drop_zero q0g q0y qdf qdy q0u q00 qba qbh qcy qcz List.length_set Nat.le_refl qc0 qcm q0r q0w qb4 qcl qd4 qgm qjs qlh qjt qju qlo qjx qjy qea
theorem qbzh (hC : COk cfg14) (ts : List Table) (e : Int) (x : Ans) (hp : okTs ts) : Sem Tryz.prog 14 [.d (.sl 6 (ts.map q0g)), .d (.i .i64 e), .d (qd4 x)] (.d (.b (decide (e = x.err) && decide (ts = x.tables)))) := by
  refine q0f (C := cfg14) (rs := [.tmp 6]) (fun _ => []) Tryz.func14 rfl rfl rfl rfl rfl rfl ?_
  refine inQ ?_
  repeat' first
  | (with_reducible first | apply q0l | apply q0c | apply AW.seq | apply AW.block | apply AW.skip | apply AW.exit | apply AW.ret | apply q0m | apply q0n | apply q0d | apply q0e | refine q0b rfl ?_ | apply q0o | apply q0p | apply And.intro)
  | (with_reducible refine AW.runK hC ?_; intro K hK)
  | ((with_reducible first | refine q0t ?_ | refine q0k ?_); refine siQ ?_; (try simp (disch := omega) only [w64, wu8]))
  | ((first | refine AW.cond rfl (fun h => ?_) fun h => ?_ | refine AW.cond_ub rfl (fun h => ?_) ?_ | refine AW.cond_nb rfl ?_ fun h => ?_) <;> (try replace h := q0a h) <;> try (exfalso; first | omega | exact absurd h (by decide)))
  | (refine q0h ?_; refine subQ ?_)
  | (subst hK)
  | exact trivial
  all_goals try (intros; assumption)
  all_goals try refine q0v ?_
  all_goals try replace hp := q0a hp
  all_goals try (intros; first | trivial | omega)
  all_goals (try (rw [w64 (by omega) (by omega)]; first | done | omega))
  all_goals clear hC
  all_goals first
  | omega
  | exact hp
  | exact fun _ => hp
end
noncomputable def cfg3 : Cfg := ⟨Tryz.prog, 41, q8x, mvz, [], (fun _ => none)⟩
theorem qbt4 : cfg3.pins = [] ∧ cfg3.P = Tryz.prog ∧ cfg3.N = 41 ∧ cfg3.T 8 = e8 ∧ cfg3.mv 8 = (fun _ => []) ∧ cfg3.T 9 = e9 ∧ cfg3.mv 9 = (fun _ => []) ∧ cfg3.T 10 = e10 ∧ cfg3.mv 10 = (fun _ => []) ∧ cfg3.T 11 = e11 ∧ cfg3.mv 11 = (fun _ => []) ∧ cfg3.T 12 = e12 ∧ cfg3.mv 12 = (fun _ => []) ∧ cfg3.T 13 = e13 ∧ cfg3.mv 13 = (fun _ => []) ∧ cfg3.T 14 = e14 ∧ cfg3.mv 14 = (fun _ => []) ∧ cfg3.ti = fun _ => none := by and_intros <;> exact rfl
section
attribute [local go_sem] qbt4 e8 e9 e10 e11 e12 e13 e14
attribute [local go_sem] qbe qbg qcg qc2 qb7 qde qdo qei qdd decI nc0 qbf qbm q05 qb5 qc8 qds qbw qb3 qec qe9 q06 qbx qcq qdc qb6 qci qdt qed qbp qc5 qee qfa qb1 qbr qcu qda qcs qeg qdb qct qeh qc9 qcr qef qck List.drop_zero q0g q0y qdf qdy q0u q00 qba qbh qcy qcz List.length_set Nat.le_refl qc0 qcm q0r q0w qb4 qcl qd4 qgm qjs qlh qjt qju qlo qjx qjy qea qfc
theorem con3 (hC : COk cfg3) (ts : List Table) (l : List Entry) (n : Int) : Sem Tryz.prog 3 [.d (.sl 6 (ts.map q0g)), .d (.sl 8 (l.map q0r)), .d (.i .i64 n)] (.d (.b true)) := by
  refine q0f (C := cfg3) (rs := [.tmp 6]) (fun _ => []) Tryz.func3 rfl rfl rfl rfl rfl rfl ?_
  refine inQ ?_
  repeat' first
  | (with_reducible first | apply q0l | apply q0c | apply AW.seq | apply AW.block | apply AW.skip | apply AW.exit | apply AW.ret | apply q0m | apply q0n | apply q0d | apply q0e | refine q0b rfl ?_ | apply q0o | apply q0p | apply And.intro)
  | (with_reducible refine AW.runK hC ?_; intro K hK)
  | ((with_reducible first | refine q0t ?_ | refine q0k ?_); refine siQ ?_; (try simp (disch := omega) only [w64, wu8]))
  | ((first | refine AW.cond rfl (fun h => ?_) fun h => ?_ | refine AW.cond_ub rfl (fun h => ?_) ?_ | refine AW.cond_nb rfl ?_ fun h => ?_) <;> (try replace h := q0a h) <;> try (exfalso; first | omega | exact absurd h (by decide)))
  | (refine q0h ?_; refine subQ ?_)
  | (subst hK)
  | exact trivial
  all_goals try (intros; assumption)
  all_goals try refine q0v ?_
  all_goals try (intros; first | trivial | omega)
  all_goals (try (rw [w64 (by omega) (by omega)]; first | done | omega))
  all_goals clear hC
  all_goals (try have HF : qhe ts = true ∧ qld l = true := by grind)
  all_goals (try have FL := qmp HF.2)
  all_goals (try have FT := (qkt HF.1).1)
  all_goals first
  | omega
  | exact FT
  | exact FT.1
  | exact qfs FT
  | exact qhi FT
  | exact fun _ => qfs FT
  | exact fun _ => qhi FT
  | exact fun _ => ⟨FT.1, by omega⟩
end
noncomputable def cfg4 : Cfg := ⟨Tryz.prog, 41, tab3, mvz, [], (fun _ => none)⟩
theorem qbt5 : cfg4.pins = [] ∧ cfg4.P = Tryz.prog ∧ cfg4.N = 41 ∧ cfg4.T 8 = e8 ∧ cfg4.mv 8 = (fun _ => []) ∧ cfg4.T 9 = e9 ∧ cfg4.mv 9 = (fun _ => []) ∧ cfg4.T 11 = e11 ∧ cfg4.mv 11 = (fun _ => []) ∧ cfg4.T 12 = e12 ∧ cfg4.mv 12 = (fun _ => []) ∧ cfg4.T 14 = e14 ∧ cfg4.mv 14 = (fun _ => []) ∧ cfg4.T 15 = e15 ∧ cfg4.mv 15 = (fun _ => []) ∧ cfg4.T 16 = e16 ∧ cfg4.mv 16 = (fun _ => []) ∧ cfg4.ti = fun _ => none := by and_intros <;> exact rfl
section
attribute [local go_sem] qbt5 e8 e9 e11 e12 e14 e15 e16
attribute [local go_sem] qbe qbg qcg qc2 qb7 qde qdo qei qdd decI nc0 qbf qbm q05 qb5 qc8 qds qbw qb3 qec qe9 q06 qbx qcq qdc qb6 qci qdt qed qbp qc5 qee qfa qb1 qbr qcu qda qcs qeg qdb qct qeh qc9 qcr qef qck List.drop_zero q0g q0y qdf qdy q0u q00 qba qbh qcy qcz List.length_set Nat.le_refl qc0 qcm q0r q0w qb4 qcl qd4 qgm qjs qlh qjt qju qlo qjx qjy qea qfc
theorem con4 (hC : COk cfg4) (ts : List Table) (l : List Entry) (n : Int) : Sem Tryz.prog 4 [.d (.sl 6 (ts.map q0g)), .d (.sl 8 (l.map q0r)), .d (.i .i64 n)] (.d (.b true)) := by
  refine q0f (C := cfg4) (rs := [.tmp 6]) (fun _ => []) Tryz.func4 rfl rfl rfl rfl rfl rfl ?_
  refine inQ ?_
  repeat' first
  | (with_reducible first | apply q0l | apply q0c | apply AW.seq | apply AW.block | apply AW.skip | apply AW.exit | apply AW.ret | apply q0m | apply q0n | apply q0d | apply q0e | refine q0b rfl ?_ | apply q0o | apply q0p | apply And.intro)
  | (with_reducible refine AW.runK hC ?_; intro K hK)
  | ((with_reducible first | refine q0t ?_ | refine q0k ?_); refine siQ ?_; (try simp (disch := omega) only [w64, wu8]))
  | ((first | refine AW.cond rfl (fun h => ?_) fun h => ?_ | refine AW.cond_ub rfl (fun h => ?_) ?_ | refine AW.cond_nb rfl ?_ fun h => ?_) <;> (try replace h := q0a h) <;> try (exfalso; first | omega | exact absurd h (by decide)))
  | (refine q0h ?_; refine subQ ?_)
  | (subst hK)
  | exact trivial
  all_goals try (intros; assumption)
  all_goals try refine q0v ?_
  all_goals try (intros; first | trivial | omega)
  all_goals (try (rw [w64 (by omega) (by omega)]; first | done | omega))
  all_goals clear hC
  all_goals (try have HF : qhe ts = true ∧ qld l = true := by grind)
  all_goals (try have FL := qmp HF.2)
  all_goals (try have FT := (qkt HF.1).1)
  all_goals first
  | omega
  | exact FT
  | exact FT.1
  | exact qfs FT
  | exact qhi FT
  | exact fun _ => qfs FT
  | exact fun _ => qhi FT
  | exact fun _ => ⟨FT.1, by omega⟩
end
noncomputable def cfg85 : Cfg := ⟨Tryz.prog, 19, tab4, mvz, [], (fun _ => none)⟩
theorem qbpb : cfg85.pins = [] ∧ cfg85.P = Tryz.prog ∧ cfg85.N = 19 := ⟨rfl, rfl, rfl⟩
section
attribute [local go_sem] qbpb
attribute [local go_sem] qd0 qdm qe6 qgg
theorem qbzi (hC : COk cfg85) (l : List Int) (v : Int) (hp : l.length ≤ 1000000) : Sem Tryz.prog 85 [.d (.sl 1 (l.map (D.i .i64))), .d (.i .i64 v)] (.d (.i .i64 (idxZ l v))) := by
  refine q0f (C := cfg85) (rs := [.tmp 4]) (fun _ => []) Tryz.func85 rfl rfl rfl rfl rfl rfl ?_
  refine inQ ?_
  repeat' first
  | (with_reducible first | apply q0l | apply q0c | apply AW.seq | apply AW.block | apply AW.skip | apply AW.exit | apply AW.ret | apply q0m | apply q0n | apply q0d | apply q0e | refine q0b rfl ?_ | apply q0o | apply q0p | apply And.intro)
  | (with_reducible refine AW.runK hC ?_; intro K hK)
  | ((with_reducible first | refine q0t ?_ | refine q0k ?_); refine siQ ?_; (try simp (disch := omega) only [w64, wu8]))
  | ((first | refine AW.cond rfl (fun h => ?_) fun h => ?_ | refine AW.cond_ub rfl (fun h => ?_) ?_ | refine AW.cond_nb rfl ?_ fun h => ?_) <;> (try replace h := q0a h) <;> try (exfalso; first | omega | exact absurd h (by decide)))
  | (refine AW.loopN 2 rfl (ι := Nat) (fun i => mkS [(0, V.d (.sl 1 (l.map (D.i .i64)))), (1, V.d (.i .i64 v)), (7, V.d (.i .i64 (l.length : Int))), (8, V.d (.i .i64 (i : Int)))] ([])) (fun i => i ≤ l.length ∧ (l.take i).findIdx? (· == v) = none) (fun i => l.length - i) (0) ?_ ?_ (fun i hi => ?_) <;> (try dsimp only) <;> (try dsimp only at hi))
  | (refine LoopNext.mk1 2 (i + 1) ?_ ?_ ?_ <;> (try dsimp only))
  | (refine q0h ?_; refine subQ ?_)
  | (subst hK)
  | exact trivial
  all_goals try (intros; assumption)
  all_goals try refine q0v ?_
  all_goals try replace hp := q0a hp
  all_goals try replace hi := q0a hi
  all_goals try (intros; first | trivial | omega)
  all_goals (try (rw [w64 (by omega) (by omega)]; first | done | omega))
  all_goals first
  | rfl
  | (rw [q2v hi.2 (by omega) (by assumption)]; done)
  | exact qyg hi.2 (by omega) (by assumption)
  | (rw [q2w hi.2 (by omega)]; done)
end
noncomputable def cfg55 : Cfg := ⟨Tryz.prog, 9, q80, mvz, [], (fun _ => none)⟩
theorem qbpc : cfg55.pins = [] ∧ cfg55.P = Tryz.prog ∧ cfg55.N = 9 ∧ cfg55.ti 85 = none ∧ cfg55.T 85 = e85 ∧ cfg55.mv 85 = (fun _ => []) := by and_intros <;> exact rfl
section
attribute [local go_sem] qbpc e85
attribute [local go_sem] qd0 qdm qe6 qgg
theorem qbzj (hC : COk cfg55) (l : List Int) (v : Int) (hp : l.length ≤ 1000000) : Sem Tryz.prog 55 [.d (.sl 1 (l.map (D.i .i64))), .d (.i .i64 v)] (.d (.b (decide (v ∈ l)))) := by
  refine q0f (C := cfg55) (rs := [.tmp 4]) (fun _ => []) Tryz.func55 rfl rfl rfl rfl rfl rfl ?_
  refine inQ ?_
  repeat' first
  | (with_reducible first | apply q0l | apply q0c | apply AW.seq | apply AW.block | apply AW.skip | apply AW.exit | apply AW.ret | apply q0m | apply q0n | apply q0d | apply q0e | refine q0b rfl ?_ | apply q0o | apply q0p | apply And.intro)
  | (with_reducible refine AW.runK hC ?_; intro K hK)
  | ((with_reducible first | refine q0t ?_ | refine q0k ?_); refine siQ ?_; (try simp (disch := omega) only [w64, wu8]))
  | ((first | refine AW.cond rfl (fun h => ?_) fun h => ?_ | refine AW.cond_ub rfl (fun h => ?_) ?_ | refine AW.cond_nb rfl ?_ fun h => ?_) <;> (try replace h := q0a h) <;> try (exfalso; first | omega | exact absurd h (by decide)))
  | (refine q0h ?_; refine subQ ?_)
  | (subst hK)
  | exact trivial
  all_goals try (intros; assumption)
  all_goals try refine q0v ?_
  all_goals try replace hp := q0a hp
  all_goals try (intros; first | trivial | omega)
  all_goals (try (rw [w64 (by omega) (by omega)]; first | done | omega))
  all_goals first
  | (simp only [← qtp]; done)
  | (simp only [← qtp]; rfl)
end
noncomputable def cfg25 : Cfg := ⟨Tryz.prog, 26, q81, mvz, [], (fun _ => none)⟩
theorem qbpd : cfg25.pins = [] ∧ cfg25.P = Tryz.prog ∧ cfg25.N = 26 := ⟨rfl, rfl, rfl⟩
section
attribute [local go_sem] qbpd
attribute [local go_sem] qd0 qdm qe6 qgg
theorem qbzk (hC : COk cfg25) (a : List Int) (b : List Int) (hp : a.length ≤ 1000000) : Sem Tryz.prog 25 [.d (.sl 1 (a.map (D.i .i64))), .d (.sl 1 (b.map (D.i .i64)))] (.d (.b (decide (a = b)))) := by
  refine q0f (C := cfg25) (rs := [.tmp 4]) (fun _ => []) Tryz.func25 rfl rfl rfl rfl rfl rfl ?_
  refine inQ ?_
  repeat' first
  | (with_reducible first | apply q0l | apply q0c | apply AW.seq | apply AW.block | apply AW.skip | apply AW.exit | apply AW.ret | apply q0m | apply q0n | apply q0d | apply q0e | refine q0b rfl ?_ | apply q0o | apply q0p | apply And.intro)
  | (with_reducible first | (refine AW.runK hC ?_; intro K hK) | (refine AW.drawK hC (by kernel_rfl) ?_; intro K hK))
  | ((with_reducible first | refine q0t ?_ | refine qbz ?_ | refine q0k ?_); refine siQ ?_; (try simp (disch := omega) only [w64, wu8]))
  | (with_reducible refine qbj (by kernel_rfl) ?_)
  | ((first | refine AW.cond rfl (fun h => ?_) fun h => ?_ | refine AW.cond_ub rfl (fun h => ?_) ?_ | refine AW.cond_nb rfl ?_ fun h => ?_) <;> (try replace h := q0a h) <;> try (exfalso; first | omega | exact absurd h (by decide)))
  | (refine AW.loopN 4 rfl (ι := Nat) (fun i => mkS [(0, V.d (.sl 1 (a.map (D.i .i64)))), (1, V.d (.sl 1 (b.map (D.i .i64)))), (5, V.d (.i .i64 (i : Int)))] ([])) (fun i => i ≤ a.length ∧ a.length = b.length ∧ a.take i = b.take i) (fun i => a.length - i) (0) ?_ ?_ (fun i hi => ?_) <;> (try dsimp only) <;> (try dsimp only at hi))
  | (refine LoopNext.mk1 4 (i + 1) ?_ ?_ ?_ <;> (try dsimp only))
  | (refine q0h ?_; refine subQ ?_)
  | (subst hK)
  | exact trivial
  all_goals try (intros; assumption)
  all_goals try refine q0v ?_
  all_goals try replace hp := q0a hp
  all_goals try replace hi := q0a hi
  all_goals try (intros; first | trivial | omega)
  all_goals (try (rw [w64 (by omega) (by omega)]; first | done | omega))
  all_goals first
  | rfl
  | (intro e; subst e; exact h rfl)
  | exact qce hi.2.2 (by omega) (by omega)
  | exact qgw hi.2.2 (by omega) (by omega) (by assumption)
  | (simp only [decide_eq_true_eq]; exact qce hi.2.2 (by omega) (by omega))
  | (intro e; subst e; simp at h; done)
end
end Go.Ev
