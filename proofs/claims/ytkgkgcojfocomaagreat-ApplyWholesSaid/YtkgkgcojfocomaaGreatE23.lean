/- Tools and contracts under the laws of this seat: Dyc75 to Dyc25. -/
import Derived.Test.YtkgkgcojfocomaaGreatE09
set_option linter.unusedVariables false
set_option linter.unusedSimpArgs false
namespace Go.Ev
open Go.Proofs Ty
set_option maxRecDepth 10000
set_option maxHeartbeats 4000000
set_option linter.unusedSimpArgs false
set_option linter.unusedVariables false
attribute [local go_sem] Int.toNat_natCast qd4 qep qcq qcc qbm qb0 List.length_map List.length_take Int.toNat_zero Nat.sub_zero qci qdt qdx
attribute [local go_sem ←] List.map_take List.map_drop
noncomputable def cfg75 : Cfg := ⟨Tryz.prog, 39, q1e, (fun _ _ => []), [0], (fun _ => none)⟩
theorem qbm1 : cfg75.pins = [0] ∧ cfg75.P = Tryz.prog ∧ cfg75.N = 39 ∧ cfg75.ti 77 = none ∧ cfg75.T 77 = e77 ∧ cfg75.mv 77 = (fun _ => []) ∧ cfg75.ti 97 = none ∧ cfg75.T 97 = e97 ∧ cfg75.mv 97 = (fun _ => []) := ⟨rfl, rfl, rfl, rfl, rfl, rfl, rfl, rfl, rfl⟩
section
attribute [local go_sem] qbm1 e77 e97
attribute [local go_sem] qbe qbg qcb qcy qb6 qda qdn qef qc9 decI qbf qbl q03 qb4 qc4 qdr qbt qb1 qd9 qe4 q06 qbv qcl qc8 qb5 qcd qds qea qbo qc0 qeb qe5 qbz qbp qcp qc6 qcn qed qc7 qco qee qc5 qcm qec qce List.drop_zero q0g q0x qdb qdw q0u q0z q08 qbh qcs qct List.length_set Nat.le_refl qcv qcg q0r q0w qb3 qcf qd2 qgf qjj qk0 qjk qjl qk5 qjn qjo qd7
theorem qbw3 (hC : COk cfg75) (x : Ans) (c : Change) (hp : okTs x.tables) : Sem Tryz.prog 75 [.bx 33 [.own 80 6 (x.tables.map q0g), .d (.i .i64 x.n), .d (.sl 1 (x.units.map (D.i .i64))), .d (.i .i64 x.err)], .d (q0u c)] (.tup [.d (.i .i64 (cond x.tables c)), .bx 33 [.own 80 6 ((doT x.tables c).map q0g), .d (.i .i64 x.n), .d (.sl 1 (x.units.map (D.i .i64))), .d (.i .i64 x.err)]]) := by
  have hB : x.tables.length ≤ 1000000 := hp.1
  have hf := qlo x.tables c.file
  refine q0f (C := cfg75) (rs := [.tmp 4]) (fun j => if j = 1 then [(4242, 33, 0), (0, 80, 6)] else []) Tryz.func75 rfl rfl rfl rfl rfl rfl ?_
  refine inQ ?_
  repeat' first
    | (with_reducible first | apply q0j | apply q0c | apply AW.seq | apply AW.block)
    | (refine AW.atR 4 rfl ?_; have hg : ∀ z, (x.tables.map q0g).getD (qcw x.tables c.file).toNat z = q0g (x.tables.getD (qcw x.tables c.file).toNat q05) := fun z => qgc (by omega) z)
    | (with_reducible first | (refine AWh.runK hC ?_; intro K hK) | (refine AWh.drawK hC (by kernel_rfl) ?_; intro K hK))
    | (with_reducible first | (refine AW.runK hC ?_; intro K hK) | (refine AW.drawK hC (by kernel_rfl) ?_; intro K hK))
    | ((with_reducible first | refine q0t ?_ | refine qb2 ?_ | refine q0i ?_); (first | (simp (maxSteps := 1000000) only [go_sem, ↓reduceIte, reduceCtorEq, Nat.reduceEqDiff, Nat.reduceLT, Nat.reduceLeDiff, Nat.reduceMul, Nat.reduceAdd, Nat.reduceSub, reduceDIte, Nat.reduceBEq, Nat.reduceBNe, hg]) | (refine siQ ?_)); (try simp (disch := omega) only [w64, wu8]))
    | (with_reducible refine qbn (by kernel_rfl) ?_)
    | ((first | (refine AW.cond rfl (fun h => ?_) (fun h => ?_)) | (refine AW.cond_ub rfl (fun h => ?_) ?_) | (refine AW.cond_nb rfl ?_ (fun h => ?_))) <;> (try replace h := q0a h) <;> (try (exfalso; first | omega | exact absurd h (by decide))))
    | (with_reducible first | apply AW.skip | apply AW.exit | apply AW.ret | apply q0k | apply q0l | apply q0d | apply q0e | refine q0b rfl ?_ | apply q0m | apply q0n)
    | (refine q0h ?_; refine subQ ?_)
    | (with_reducible refine And.intro ?_ ?_)
    | (subst hK)
    | exact trivial
  all_goals (try (intros; assumption))
  all_goals (try refine q0v ?_)
  all_goals (try replace hp := q0a hp)
  all_goals (try (intros; trivial))
  all_goals (try (intros; omega))
  all_goals (try (rw [w64 (by omega) (by omega)]; first | done | omega))
  all_goals clear hC
  all_goals (try simp only [qsc] at *)
  all_goals first
    | omega
    | exact (q3v (by assumption)).1
    | (rw [(q3v (by assumption)).2]; exact q0p _)
    | exact (hp.2 _).1
    | exact (hp.2 _).2.1
    | exact (hp.2 _).2.2
    | exact (q9z (by assumption) (by assumption)).1
    | (rw [(q9z (by assumption) (by assumption)).2]; exact q0p _)
    | exact (q90 (by assumption) (by assumption)).1
    | (rw [(q90 (by assumption) (by assumption)).2, qhx (by assumption), List.take_of_length_le (by simp), List.map_set]; exact q0p _)
end
noncomputable def cfg42 : Cfg := ⟨Tryz.prog, 40, q64, mvz, [], (fun _ => none)⟩
theorem qbm2 : cfg42.pins = [] ∧ cfg42.P = Tryz.prog ∧ cfg42.N = 40 ∧ cfg42.ti 11 = none ∧ cfg42.T 11 = e11 ∧ cfg42.mv 11 = (fun _ => []) ∧ cfg42.ti 75 = none ∧ cfg42.T 75 = e75 ∧ cfg42.mv 75 = (fun j => if j = 0 then [(4242, 33, 0), (0, 80, 6)] else []) ∧ cfg42.ti 76 = none ∧ cfg42.T 76 = e76 ∧ cfg42.mv 76 = (fun _ => []) ∧ cfg42.ti 77 = none ∧ cfg42.T 77 = e77 ∧ cfg42.mv 77 = (fun _ => []) := ⟨rfl, rfl, rfl, rfl, rfl, rfl, rfl, rfl, rfl, rfl, rfl, rfl, rfl, rfl, rfl⟩
section
attribute [local go_sem] qbm2 e11 e75 e76 e77
attribute [local go_sem] qbe qbg qcb qcy qb6 qda qdn qef qc9 decI qbf qbl q03 qb4 qc4 qdr qbt qb1 qd9 qe4 q06 qbv qcl qc8 qb5 qcd qds qea qbo qc0 qeb qe5 qbz qbp qcp qc6 qcn qed qc7 qco qee qc5 qcm qec qce List.drop_zero q0g q0x qdb qdw q0u q0z q08 qbh qcs qct List.length_set Nat.le_refl qcv qcg q0r q0w qb3 qcf qd2 qgf qjj qk0 qjk qjl qk5 qjn qjo qd7 List.take_length
theorem qbw4 (hC : COk cfg42) (ts : List Table) (cs : List Change) (hp : okTs ts ∧ cs.length ≤ 1000000) : Sem Tryz.prog 42 [.d (.sl 6 (ts.map q0g)), .d (.sl 5 (cs.map q0u))] (.d (qd2 (qe6 (qcu ts cs)))) := by
  have hB : ts.length ≤ 1000000 := hp.1.1
  refine q0f (C := cfg42) (rs := [.cell 4 33]) (fun _ => []) Tryz.func42 rfl rfl rfl rfl rfl rfl ?_
  refine inQ ?_
  repeat' first
    | (with_reducible first | apply q0j | apply q0c | apply AW.seq | apply AW.block)
    | (refine AW.atR 8 rfl ?_; have hcn := qbd8 (ts := ts) (cs := cs) (k := k); have hcb := qrn ts cs k)
    | (with_reducible first | (refine AWh.runK hC ?_; intro K hK) | (refine AWh.drawK hC (by kernel_rfl) ?_; intro K hK))
    | (with_reducible first | (refine AW.runK hC ?_; intro K hK) | (refine AW.drawK hC (by kernel_rfl) ?_; intro K hK))
    | ((with_reducible first | refine q0t ?_ | refine qb2 ?_ | refine q0i ?_); refine siQ ?_; (try simp (disch := omega) only [w64, wu8]))
    | (with_reducible refine qbn (by kernel_rfl) ?_)
    | ((first | (refine AW.cond rfl (fun h => ?_) (fun h => ?_)) | (refine AW.cond_ub rfl (fun h => ?_) ?_) | (refine AW.cond_nb rfl ?_ (fun h => ?_))) <;> (try replace h := q0a h) <;> (try (exfalso; first | omega | exact absurd h (by decide))))
    | (with_reducible first | apply AW.skip | apply AW.exit | apply AW.ret | apply q0k | apply q0l | apply q0d | apply q0e | refine q0b rfl ?_ | apply q0m | apply q0n)
    | (refine AW.loopN 3 rfl (ι := Nat) (fun k => mkS [(0, V.d (.sl 6 (ts.map q0g))), (1, V.d (.sl 5 (cs.map q0u))), (4, V.ptr 64 0), (5, V.ptr 80 0), (6, V.d (.i .i64 (k : Int)))] ([(64, .live (.box 33 [.d .nil, .d (.i .i64 0), .d .nil, .d (.i .i64 0)])), (80, .live (.box 33 [V.row 144 6 0 (mTo ts cs k).1.length, .d (.i .i64 (mTo ts cs k).2), .d (.sl 1 []), .d (.i .i64 0)])), (144, .live (.row 80 6 false ((mTo ts cs k).1.map q0g)))])) (fun k => k ≤ cs.length ∧ ∀ j, j < k → mErr ts cs j = 0) (fun k => cs.length - k) (0) ?_ ?_ (fun k hk => ?_) <;> (try dsimp only) <;> (try dsimp only at hk))
    | (refine LoopNext.mk1 3 (k + 1) ?_ ?_ ?_ <;> (try dsimp only))
    | (refine q0h ?_; refine subQ ?_)
    | (with_reducible refine And.intro ?_ ?_)
    | (subst hK)
    | exact trivial
  all_goals (try (intros; assumption))
  all_goals (try refine q0v ?_)
  all_goals (try replace hp := q0a hp)
  all_goals (try replace hk := q0a hk)
  all_goals (try (intros; trivial))
  all_goals (try (intros; omega))
  all_goals (try (rw [w64 (by omega) (by omega)]; first | done | omega))
  all_goals clear hC
  all_goals (try have OK := qt5 (cs := cs) hp.1 hk.2)
  all_goals (try have CN := qrn ts cs k)
  all_goals (try have LN := qlp ts cs k)
  all_goals first
    | omega
    | exact hp.1
    | exact OK
    | exact OK.1
    | exact q0p _
    | (rw [qbk4 hk.2 (by omega) (by assumption)]; first | done | rfl)
    | exact qe3 hk.2 (by rw [qqz]; assumption)
    | (rw [qbk3 (by rw [qqz]; assumption)]; first | done | exact q0p _)
    | (rw [qbk5 hk.2 (by omega)]; first | done | rfl | exact q0p _)
end
noncomputable def cfg39 : Cfg := ⟨Tryz.prog, 17, q65, mvz, [], (fun _ => none)⟩
theorem qbm3 : cfg39.pins = [] ∧ cfg39.P = Tryz.prog ∧ cfg39.N = 17 ∧ cfg39.ti 50 = none ∧ cfg39.T 50 = e50 ∧ cfg39.mv 50 = (fun _ => []) ∧ cfg39.ti 74 = none ∧ cfg39.T 74 = e74 ∧ cfg39.mv 74 = (fun _ => []) := ⟨rfl, rfl, rfl, rfl, rfl, rfl, rfl, rfl, rfl⟩
section
attribute [local go_sem] qbm3 e50 e74
attribute [local go_sem] qbe qbg qcb qcy qb6 qda qdn qef qc9 decI qbf qbl q03 qb4 qc4 qdr qbt qb1 qd9 qe4 q06 qbv qcl qc8 qb5 qcd qds qea qbo qc0 qeb qe5 qbz qbp qcp qc6 qcn qed qc7 qco qee qc5 qcm qec qce List.drop_zero q0g q0x qdb qdw q0u q0z q08 qbh qcs qct List.length_set Nat.le_refl qcv qcg q0r q0w qb3 qcf qd2 qgf qjj qk0 qjk qjl qk5 qjn qjo qd7
theorem qbw5 (hC : COk cfg39) (ts : List Table) (l : List Entry) (hp : okTs ts ∧ l.length ≤ 1000000) : Sem Tryz.prog 39 [.d (.sl 6 (ts.map q0g)), .d (.sl 8 (l.map q0r))] (.d (.i .i64 (chkE ts l))) := by
  refine q0f (C := cfg39) (rs := [.tmp 4]) (fun _ => []) Tryz.func39 rfl rfl rfl rfl rfl rfl ?_
  refine inQ ?_
  repeat' first
    | (with_reducible first | apply q0j | apply q0c | apply AW.seq | apply AW.block)
    | (with_reducible refine AW.runK hC ?_; intro K hK)
    | ((with_reducible first | refine q0t ?_ | refine q0i ?_); refine siQ ?_; (try simp (disch := omega) only [w64, wu8]))
    | ((first | (refine AW.cond rfl (fun h => ?_) (fun h => ?_)) | (refine AW.cond_ub rfl (fun h => ?_) ?_) | (refine AW.cond_nb rfl ?_ (fun h => ?_))) <;> (try replace h := q0a h) <;> (try (exfalso; first | omega | exact absurd h (by decide))))
    | (with_reducible first | apply AW.skip | apply AW.exit | apply AW.ret | apply q0k | apply q0l | apply q0d | apply q0e | refine q0b rfl ?_ | apply q0m | apply q0n)
    | (refine q0h ?_; refine subQ ?_)
    | (with_reducible refine And.intro ?_ ?_)
    | (subst hK)
    | exact trivial
  all_goals (try (intros; assumption))
  all_goals (try refine q0v ?_)
  all_goals (try replace hp := q0a hp)
  all_goals (try (intros; trivial))
  all_goals (try (intros; omega))
  all_goals (try (rw [w64 (by omega) (by omega)]; first | done | omega))
  all_goals clear hC
  all_goals (try simp only [qbpp] at *)
  all_goals first
    | omega
    | exact hp.1
    | (rw [(qrm (by assumption)).2]; done)
    | (rw [(qlm (by assumption)).2]; done)
end
noncomputable def cfg40 : Cfg := ⟨Tryz.prog, 18, q66, mvz, [], (fun _ => none)⟩
theorem qbm4 : cfg40.pins = [] ∧ cfg40.P = Tryz.prog ∧ cfg40.N = 18 := ⟨rfl, rfl, rfl⟩
section
attribute [local go_sem] qbm4
attribute [local go_sem] qbe qbg qcb qcy qb6 qda qdn qef qc9 decI qbf qbl q03 qb4 qc4 qdr qbt qb1 qd9 qe4 q06 qbv qcl qc8 qb5 qcd qds qea qbo qc0 qeb qe5 qbz qbp qcp qc6 qcn qed qc7 qco qee qc5 qcm qec qce List.drop_zero q0g q0x qdb qdw q0u q0z q08 qbh qcs qct List.length_set Nat.le_refl qcv qcg q0r q0w qb3 qcf qd2 qgf qjj qk0 qjk qjl qk5 qjn qjo qd7
theorem qbw6 (hC : COk cfg40) (l : List Entry) (hp : l.length ≤ 1000000) : Sem Tryz.prog 40 [.d (.sl 8 (l.map q0r))] (.tup [.d (.i .i64 (qf6 l)), .d (.i .i64 (qf7 l))]) := by
  refine q0f (C := cfg40) (rs := [.tmp 2, .tmp 3]) (fun _ => []) Tryz.func40 rfl rfl rfl rfl rfl rfl ?_
  refine inQ ?_
  repeat' first
    | (with_reducible first | apply q0j | apply q0c | apply AW.seq | apply AW.block)
    | (refine AW.atR 3 rfl ?_; have hj : ((l.length : Int) - 1).toNat = l.length - 1 := (by omega))
    | (with_reducible first | (refine AWh.runK hC ?_; intro K hK) | (refine AWh.drawK hC (by kernel_rfl) ?_; intro K hK))
    | (with_reducible first | (refine AW.runK hC ?_; intro K hK) | (refine AW.drawK hC (by kernel_rfl) ?_; intro K hK))
    | ((with_reducible first | refine q0t ?_ | refine qb2 ?_ | refine q0i ?_); (first | (simp (maxSteps := 1000000) only [go_sem, ↓reduceIte, reduceCtorEq, Nat.reduceEqDiff, Nat.reduceLT, Nat.reduceLeDiff, Nat.reduceMul, Nat.reduceAdd, Nat.reduceSub, reduceDIte, Nat.reduceBEq, Nat.reduceBNe, hj]) | (refine siQ ?_)); (try simp (disch := omega) only [w64, wu8]))
    | (with_reducible refine qbn (by kernel_rfl) ?_)
    | ((first | (refine AW.cond rfl (fun h => ?_) (fun h => ?_)) | (refine AW.cond_ub rfl (fun h => ?_) ?_) | (refine AW.cond_nb rfl ?_ (fun h => ?_))) <;> (try replace h := q0a h) <;> (try (exfalso; first | omega | exact absurd h (by decide))))
    | (with_reducible first | apply AW.skip | apply AW.exit | apply AW.ret | apply q0k | apply q0l | apply q0d | apply q0e | refine q0b rfl ?_ | apply q0m | apply q0n)
    | (refine q0h ?_; refine subQ ?_)
    | (with_reducible refine And.intro ?_ ?_)
    | (subst hK)
    | exact trivial
  all_goals (try (intros; assumption))
  all_goals (try refine q0v ?_)
  all_goals (try replace hp := q0a hp)
  all_goals (try replace hj := q0a hj)
  all_goals (try (intros; trivial))
  all_goals (try (intros; omega))
  all_goals (try (rw [w64 (by omega) (by omega)]; first | done | omega))
  all_goals clear hC
  all_goals first
    | omega
    | (unfold qf6; rw [if_pos (by omega)]; done)
    | (unfold qf7; rw [if_pos (by omega)]; done)
    | (unfold qf6; rw [if_neg (by omega)]; done)
    | (unfold qf7; rw [if_neg (by omega)]; done)
end
noncomputable def cfg13 : Cfg := ⟨Tryz.prog, 63, q67, mvz, [], (fun _ => none)⟩
theorem qbm5 : cfg13.pins = [] ∧ cfg13.P = Tryz.prog ∧ cfg13.N = 63 ∧ cfg13.ti 39 = none ∧ cfg13.T 39 = e39 ∧ cfg13.mv 39 = (fun _ => []) ∧ cfg13.ti 40 = none ∧ cfg13.T 40 = e40 ∧ cfg13.mv 40 = (fun _ => []) ∧ cfg13.ti 41 = none ∧ cfg13.T 41 = e41 ∧ cfg13.mv 41 = (fun _ => []) ∧ cfg13.ti 42 = none ∧ cfg13.T 42 = e42 ∧ cfg13.mv 42 = (fun _ => []) := ⟨rfl, rfl, rfl, rfl, rfl, rfl, rfl, rfl, rfl, rfl, rfl, rfl, rfl, rfl, rfl⟩
section
attribute [local go_sem] qbm5 e39 e40 e41 e42
attribute [local go_sem] qbe qbg qcb qcy qb6 qda qdn qef qc9 decI qbf qbl q03 qb4 qc4 qdr qbt qb1 qd9 qe4 q06 qbv qcl qc8 qb5 qcd qds qea qbo qc0 qeb qe5 qbz qbp qcp qc6 qcn qed qc7 qco qee qc5 qcm qec qce List.drop_zero q0g q0x qdb qdw q0u q0z q08 qbh qcs qct List.length_set Nat.le_refl qcv qcg q0r q0w qb3 qcf qd2 qgf qjj qk0 qjk qjl qk5 qjn qjo qd7
theorem qbw7 (hC : COk cfg13) (ts : List Table) (l : List Entry) (n : Int) (hp : okTs ts ∧ l.length ≤ 1000000) : Sem Tryz.prog 13 [.d (.sl 6 (ts.map q0g)), .d (.sl 8 (l.map q0r)), .d (.i .i64 n)] (.d (qd2 (qe6 (qf5 ts l n)))) := by
  refine q0f (C := cfg13) (rs := [.cell 6 33]) (fun _ => []) Tryz.func13 rfl rfl rfl rfl rfl rfl ?_
  refine inQ ?_
  repeat' first
    | (with_reducible first | apply q0j | apply q0c | apply AW.seq | apply AW.block)
    | (refine AW.atR 5 rfl ?_; have BL := qn5 (l := l) (qfj (ts := ts) (by assumption)).2; have hw : IntKind.i64.wrap (qf6 l - 1) = qf6 l - 1 := (w64 (by omega) (by omega)))
    | (with_reducible first | (refine AWh.runK hC ?_; intro K hK) | (refine AWh.drawK hC (by kernel_rfl) ?_; intro K hK))
    | (with_reducible refine AW.runK hC ?_; intro K hK)
    | ((with_reducible first | refine q0t ?_ | refine q0i ?_); (first | (simp (maxSteps := 1000000) only [go_sem, ↓reduceIte, reduceCtorEq, Nat.reduceEqDiff, Nat.reduceLT, Nat.reduceLeDiff, Nat.reduceMul, Nat.reduceAdd, Nat.reduceSub, reduceDIte, Nat.reduceBEq, Nat.reduceBNe, hw]) | (refine siQ ?_)); (try simp (disch := omega) only [w64, wu8]))
    | ((first | (refine AW.cond rfl (fun h => ?_) (fun h => ?_)) | (refine AW.cond_ub rfl (fun h => ?_) ?_) | (refine AW.cond_nb rfl ?_ (fun h => ?_))) <;> (try replace h := q0a h) <;> (try (exfalso; first | omega | exact absurd h (by decide))))
    | (with_reducible first | apply AW.skip | apply AW.exit | apply AW.ret | apply q0k | apply q0l | apply q0d | apply q0e | refine q0b rfl ?_ | apply q0m | apply q0n)
    | (refine AW.loopN 9 rfl (ι := Nat) (fun i => mkS [(0, V.d (.sl 6 (ts.map q0g))), (1, V.d (.sl 8 (l.map q0r))), (2, V.d (.i .i64 n)), (6, V.ptr 96 0), (10, V.row 160 5 0 (qe8 ⟨true, n⟩ false (l.take i)).length), (11, V.d (.i .i64 (i : Int)))] ([(96, .live (.box 33 [.d .nil, .d (.i .i64 0), .d .nil, .d (.i .i64 0)])), (160, .live (.row 48 5 false ((qe8 ⟨true, n⟩ false (l.take i)).map q0u)))])) (fun i => i ≤ l.length ∧ chkE ts l = 0 ∧ qf6 l - 1 ≤ n ∧ n ≤ qf7 l) (fun i => l.length - i) (0) ?_ ?_ (fun i hi => ?_) <;> (try dsimp only) <;> (try dsimp only at hi))
    | (refine LoopNext.mk1 9 (i + 1) ?_ ?_ ?_ <;> (try dsimp only))
    | (refine q0h ?_; refine subQ ?_)
    | (with_reducible refine And.intro ?_ ?_)
    | (subst hK)
    | exact trivial
  all_goals (try (intros; assumption))
  all_goals (try refine q0v ?_)
  all_goals (try replace hp := q0a hp)
  all_goals (try replace hi := q0a hi)
  all_goals (try (intros; trivial))
  all_goals (try (intros; omega))
  all_goals (try (rw [w64 (by omega) (by omega)]; first | done | omega))
  all_goals clear hC
  all_goals (try have BL := qn5 (l := l) (qfj (ts := ts) (by assumption)).2)
  all_goals first
    | omega
    | exact hp.1
    | exact hp.2
    | exact q0p _
    | (rw [qbk7 (by assumption)]; first | done | rfl)
    | (rw [qbk8 (by assumption) (by omega)]; first | done | rfl)
    | (intro d hd; subst hd; exact ⟨rfl, by simp [D.cells, D.one]⟩)
    | (have := qnh (w := ⟨true, n⟩) (back := false) (l := l) (i := i); omega)
    | (rw [qln (by omega) (by rw [qkf]; omega), List.length_append]; rfl)
    | (rw [qln (by omega) (by rw [qkf]; omega), List.map_append]; exact q0p _)
    | (rw [qos (by omega) (by rw [qkf]; omega)]; first | done | exact q0p _)
    | (rw [qbpr (by assumption) (by omega), qwt (by omega)]; first | done | exact q0p _)
end
noncomputable def cfg16 : Cfg := ⟨Tryz.prog, 65, q68, mvz, [], (fun _ => none)⟩
theorem qbm6 : cfg16.pins = [] ∧ cfg16.P = Tryz.prog ∧ cfg16.N = 65 ∧ cfg16.ti 39 = none ∧ cfg16.T 39 = e39 ∧ cfg16.mv 39 = (fun _ => []) ∧ cfg16.ti 40 = none ∧ cfg16.T 40 = e40 ∧ cfg16.mv 40 = (fun _ => []) ∧ cfg16.ti 41 = none ∧ cfg16.T 41 = e41 ∧ cfg16.mv 41 = (fun _ => []) ∧ cfg16.ti 42 = none ∧ cfg16.T 42 = e42 ∧ cfg16.mv 42 = (fun _ => []) ∧ cfg16.ti 45 = none ∧ cfg16.T 45 = e45 ∧ cfg16.mv 45 = (fun _ => []) := ⟨rfl, rfl, rfl, rfl, rfl, rfl, rfl, rfl, rfl, rfl, rfl, rfl, rfl, rfl, rfl, rfl, rfl, rfl⟩
section
attribute [local go_sem] qbm6 e39 e40 e41 e42 e45
attribute [local go_sem] qbe qbg qcb qcy qb6 qda qdn qef qc9 decI qbf qbl q03 qb4 qc4 qdr qbt qb1 qd9 qe4 q06 qbv qcl qc8 qb5 qcd qds qea qbo qc0 qeb qe5 qbz qbp qcp qc6 qcn qed qc7 qco qee qc5 qcm qec qce List.drop_zero q0g q0x qdb qdw q0u q0z q08 qbh qcs qct List.length_set Nat.le_refl qcv qcg q0r q0w qb3 qcf qd2 qgf qjj qk0 qjk qjl qk5 qjn qjo qd7
theorem qbw8 (hC : COk cfg16) (ts : List Table) (l : List Entry) (n : Int) (hp : okTs ts ∧ l.length ≤ 1000000) : Sem Tryz.prog 16 [.d (.sl 6 (ts.map q0g)), .d (.sl 8 (l.map q0r)), .d (.i .i64 n)] (.d (qd2 (qe6 (qfd ts l n)))) := by
  refine q0f (C := cfg16) (rs := [.cell 6 33]) (fun _ => []) Tryz.func16 rfl rfl rfl rfl rfl rfl ?_
  refine inQ ?_
  repeat' first
    | (with_reducible first | apply q0j | apply q0c | apply AW.seq | apply AW.block)
    | (refine AW.atR 5 rfl ?_; have BL := qn5 (l := l) (qfj (ts := ts) (by assumption)).2; have hw : IntKind.i64.wrap (qf7 l + 1) = qf7 l + 1 := (w64 (by omega) (by omega)))
    | (with_reducible first | (refine AWh.runK hC ?_; intro K hK) | (refine AWh.drawK hC (by kernel_rfl) ?_; intro K hK))
    | (with_reducible refine AW.runK hC ?_; intro K hK)
    | ((with_reducible first | refine q0t ?_ | refine q0i ?_); (first | (simp (maxSteps := 1000000) only [go_sem, ↓reduceIte, reduceCtorEq, Nat.reduceEqDiff, Nat.reduceLT, Nat.reduceLeDiff, Nat.reduceMul, Nat.reduceAdd, Nat.reduceSub, reduceDIte, Nat.reduceBEq, Nat.reduceBNe, hw]) | (refine siQ ?_)); (try simp (disch := omega) only [w64, wu8]))
    | ((first | (refine AW.cond rfl (fun h => ?_) (fun h => ?_)) | (refine AW.cond_ub rfl (fun h => ?_) ?_) | (refine AW.cond_nb rfl ?_ (fun h => ?_))) <;> (try replace h := q0a h) <;> (try (exfalso; first | omega | exact absurd h (by decide))))
    | (with_reducible first | apply AW.skip | apply AW.exit | apply AW.ret | apply q0k | apply q0l | apply q0d | apply q0e | refine q0b rfl ?_ | apply q0m | apply q0n)
    | (refine AW.loopN 9 rfl (ι := Nat) (fun j => mkS [(0, V.d (.sl 6 (ts.map q0g))), (1, V.d (.sl 8 (l.map q0r))), (2, V.d (.i .i64 n)), (6, V.ptr 96 0), (10, V.row 160 5 0 (qh2 ⟨false, n⟩ l j).length), (11, V.d (.i .i64 ((j : Int) - 1)))] ([(96, .live (.box 33 [.d .nil, .d (.i .i64 0), .d .nil, .d (.i .i64 0)])), (160, .live (.row 48 5 false ((qh2 ⟨false, n⟩ l j).map q0u)))])) (fun j => j ≤ l.length ∧ chkE ts l = 0 ∧ qf6 l ≤ n ∧ n ≤ qf7 l + 1) (fun j => j) (l.length) ?_ ?_ (fun j hi => ?_) <;> (try dsimp only) <;> (try dsimp only at hi))
    | (refine LoopNext.mk1 9 (j - 1) ?_ ?_ ?_ <;> (try dsimp only))
    | (refine q0h ?_; refine subQ ?_)
    | (with_reducible refine And.intro ?_ ?_)
    | (subst hK)
    | exact trivial
  all_goals (try (intros; assumption))
  all_goals (try refine q0v ?_)
  all_goals (try replace hp := q0a hp)
  all_goals (try replace hi := q0a hi)
  all_goals (try (intros; trivial))
  all_goals (try (intros; omega))
  all_goals (try (rw [w64 (by omega) (by omega)]; first | done | omega))
  all_goals clear hC
  all_goals (try simp only [qjh] at *)
  all_goals (try have BL := qn5 (l := l) (qfj (ts := ts) (by assumption)).2)
  all_goals first
    | omega
    | exact hp.1
    | exact hp.2
    | exact q0p _
    | (rw [qbk9 (by assumption)]; first | done | rfl)
    | (rw [qbla (by assumption) (by omega)]; first | done | rfl)
    | (intro d hd; subst hd; exact ⟨rfl, by simp [D.cells, D.one]⟩)
    | (have := qbd9 ⟨false, n⟩ l j; omega)
    | (rw [q6z (Nat.le_refl _)]; rfl)
    | (rw [q006 (j := j - 1) (by omega) (by rw [qke]; omega), show j - 1 + 1 = j by omega, List.length_append]; rfl)
    | (rw [q006 (j := j - 1) (by omega) (by rw [qke]; omega), show j - 1 + 1 = j by omega, List.map_append]; exact q0p _)
    | (rw [qbk6 (j := j - 1) (by omega) (by rw [qke]; omega), show j - 1 + 1 = j by omega]; first | done | exact q0p _)
    | (rw [qbps (by assumption) (by omega), ← qbea (qfj (ts := ts) (by assumption)).2, show j = 0 by omega]; first | done | exact q0p _)
end
noncomputable def cfg14 : Cfg := ⟨Tryz.prog, 17, q69, mvz, [], (fun _ => none)⟩
theorem qbm7 : cfg14.pins = [] ∧ cfg14.P = Tryz.prog ∧ cfg14.N = 17 ∧ cfg14.ti 43 = none ∧ cfg14.T 43 = e43 ∧ cfg14.mv 43 = (fun _ => []) := ⟨rfl, rfl, rfl, rfl, rfl, rfl⟩
section
attribute [local go_sem] qbm7 e43
attribute [local go_sem] qbe qbg qcb qcy qb6 qda qdn qef qc9 decI qbf qbl q03 qb4 qc4 qdr qbt qb1 qd9 qe4 q06 qbv qcl qc8 qb5 qcd qds qea qbo qc0 qeb qe5 qbz qbp qcp qc6 qcn qed qc7 qco qee qc5 qcm qec qce List.drop_zero q0g q0x qdb qdw q0u q0z q08 qbh qcs qct List.length_set Nat.le_refl qcv qcg q0r q0w qb3 qcf qd2 qgf qjj qk0 qjk qjl qk5 qjn qjo qd7
theorem qbw9 (hC : COk cfg14) (ts : List Table) (e : Int) (x : Ans) (hp : okTs ts) : Sem Tryz.prog 14 [.d (.sl 6 (ts.map q0g)), .d (.i .i64 e), .d (qd2 x)] (.d (.b (decide (e = x.err) && decide (ts = x.tables)))) := by
  refine q0f (C := cfg14) (rs := [.tmp 6]) (fun _ => []) Tryz.func14 rfl rfl rfl rfl rfl rfl ?_
  refine inQ ?_
  repeat' first
    | (with_reducible first | apply q0j | apply q0c | apply AW.seq | apply AW.block)
    | (with_reducible refine AW.runK hC ?_; intro K hK)
    | ((with_reducible first | refine q0t ?_ | refine q0i ?_); refine siQ ?_; (try simp (disch := omega) only [w64, wu8]))
    | ((first | (refine AW.cond rfl (fun h => ?_) (fun h => ?_)) | (refine AW.cond_ub rfl (fun h => ?_) ?_) | (refine AW.cond_nb rfl ?_ (fun h => ?_))) <;> (try replace h := q0a h) <;> (try (exfalso; first | omega | exact absurd h (by decide))))
    | (with_reducible first | apply AW.skip | apply AW.exit | apply AW.ret | apply q0k | apply q0l | apply q0d | apply q0e | refine q0b rfl ?_ | apply q0m | apply q0n)
    | (refine q0h ?_; refine subQ ?_)
    | (with_reducible refine And.intro ?_ ?_)
    | (subst hK)
    | exact trivial
  all_goals (try (intros; assumption))
  all_goals (try refine q0v ?_)
  all_goals (try replace hp := q0a hp)
  all_goals (try (intros; trivial))
  all_goals (try (intros; omega))
  all_goals (try (rw [w64 (by omega) (by omega)]; first | done | omega))
  all_goals clear hC
  all_goals first
    | omega
    | exact hp
    | exact fun _ => hp
end
noncomputable def cfg3 : Cfg := ⟨Tryz.prog, 41, q7a, mvz, [], (fun _ => none)⟩
theorem qbrx : cfg3.pins = [] ∧ cfg3.P = Tryz.prog ∧ cfg3.N = 41 ∧ cfg3.ti 8 = none ∧ cfg3.T 8 = e8 ∧ cfg3.mv 8 = (fun _ => []) ∧ cfg3.ti 9 = none ∧ cfg3.T 9 = e9 ∧ cfg3.mv 9 = (fun _ => []) ∧ cfg3.ti 10 = none ∧ cfg3.T 10 = e10 ∧ cfg3.mv 10 = (fun _ => []) ∧ cfg3.ti 11 = none ∧ cfg3.T 11 = e11 ∧ cfg3.mv 11 = (fun _ => []) ∧ cfg3.ti 12 = none ∧ cfg3.T 12 = e12 ∧ cfg3.mv 12 = (fun _ => []) ∧ cfg3.ti 13 = none ∧ cfg3.T 13 = e13 ∧ cfg3.mv 13 = (fun _ => []) ∧ cfg3.ti 14 = none ∧ cfg3.T 14 = e14 ∧ cfg3.mv 14 = (fun _ => []) := ⟨rfl, rfl, rfl, rfl, rfl, rfl, rfl, rfl, rfl, rfl, rfl, rfl, rfl, rfl, rfl, rfl, rfl, rfl, rfl, rfl, rfl, rfl, rfl, rfl⟩
section
attribute [local go_sem] qbrx e8 e9 e10 e11 e12 e13 e14
attribute [local go_sem] qbe qbg qcb qcy qb6 qda qdn qef qc9 decI qbf qbl q03 qb4 qc4 qdr qbt qb1 qd9 qe4 q06 qbv qcl qc8 qb5 qcd qds qea qbo qc0 qeb qe5 qbz qbp qcp qc6 qcn qed qc7 qco qee qc5 qcm qec qce List.drop_zero q0g q0x qdb qdw q0u q0z q08 qbh qcs qct List.length_set Nat.le_refl qcv qcg q0r q0w qb3 qcf qd2 qgf qjj qk0 qjk qjl qk5 qjn qjo qd7 qe6
theorem con3 (hC : COk cfg3) (ts : List Table) (l : List Entry) (n : Int) : Sem Tryz.prog 3 [.d (.sl 6 (ts.map q0g)), .d (.sl 8 (l.map q0r)), .d (.i .i64 n)] (.d (.b true)) := by
  refine q0f (C := cfg3) (rs := [.tmp 6]) (fun _ => []) Tryz.func3 rfl rfl rfl rfl rfl rfl ?_
  refine inQ ?_
  repeat' first
    | (with_reducible first | apply q0j | apply q0c | apply AW.seq | apply AW.block)
    | (with_reducible refine AW.runK hC ?_; intro K hK)
    | ((with_reducible first | refine q0t ?_ | refine q0i ?_); refine siQ ?_; (try simp (disch := omega) only [w64, wu8]))
    | ((first | (refine AW.cond rfl (fun h => ?_) (fun h => ?_)) | (refine AW.cond_ub rfl (fun h => ?_) ?_) | (refine AW.cond_nb rfl ?_ (fun h => ?_))) <;> (try replace h := q0a h) <;> (try (exfalso; first | omega | exact absurd h (by decide))))
    | (with_reducible first | apply AW.skip | apply AW.exit | apply AW.ret | apply q0k | apply q0l | apply q0d | apply q0e | refine q0b rfl ?_ | apply q0m | apply q0n)
    | (refine q0h ?_; refine subQ ?_)
    | (with_reducible refine And.intro ?_ ?_)
    | (subst hK)
    | exact trivial
  all_goals (try (intros; assumption))
  all_goals (try refine q0v ?_)
  all_goals (try (intros; trivial))
  all_goals (try (intros; omega))
  all_goals (try (rw [w64 (by omega) (by omega)]; first | done | omega))
  all_goals clear hC
  all_goals (try have HF : qhz ts = true ∧ qlw l = true := by grind)
  all_goals (try have FL := qny HF.2)
  all_goals (try have FT := (qlq HF.1).1)
  all_goals first
    | omega
    | exact FT
    | exact FT.1
    | exact qh1 FT
    | exact qg8 FT
    | exact fun _ => qh1 FT
    | exact fun _ => qg8 FT
    | exact fun _ => ⟨FT.1, by omega⟩
end
noncomputable def cfg4 : Cfg := ⟨Tryz.prog, 41, tab3, mvz, [], (fun _ => none)⟩
theorem qbry : cfg4.pins = [] ∧ cfg4.P = Tryz.prog ∧ cfg4.N = 41 ∧ cfg4.ti 8 = none ∧ cfg4.T 8 = e8 ∧ cfg4.mv 8 = (fun _ => []) ∧ cfg4.ti 9 = none ∧ cfg4.T 9 = e9 ∧ cfg4.mv 9 = (fun _ => []) ∧ cfg4.ti 11 = none ∧ cfg4.T 11 = e11 ∧ cfg4.mv 11 = (fun _ => []) ∧ cfg4.ti 12 = none ∧ cfg4.T 12 = e12 ∧ cfg4.mv 12 = (fun _ => []) ∧ cfg4.ti 14 = none ∧ cfg4.T 14 = e14 ∧ cfg4.mv 14 = (fun _ => []) ∧ cfg4.ti 15 = none ∧ cfg4.T 15 = e15 ∧ cfg4.mv 15 = (fun _ => []) ∧ cfg4.ti 16 = none ∧ cfg4.T 16 = e16 ∧ cfg4.mv 16 = (fun _ => []) := ⟨rfl, rfl, rfl, rfl, rfl, rfl, rfl, rfl, rfl, rfl, rfl, rfl, rfl, rfl, rfl, rfl, rfl, rfl, rfl, rfl, rfl, rfl, rfl, rfl⟩
section
attribute [local go_sem] qbry e8 e9 e11 e12 e14 e15 e16
attribute [local go_sem] qbe qbg qcb qcy qb6 qda qdn qef qc9 decI qbf qbl q03 qb4 qc4 qdr qbt qb1 qd9 qe4 q06 qbv qcl qc8 qb5 qcd qds qea qbo qc0 qeb qe5 qbz qbp qcp qc6 qcn qed qc7 qco qee qc5 qcm qec qce List.drop_zero q0g q0x qdb qdw q0u q0z q08 qbh qcs qct List.length_set Nat.le_refl qcv qcg q0r q0w qb3 qcf qd2 qgf qjj qk0 qjk qjl qk5 qjn qjo qd7 qe6
theorem con4 (hC : COk cfg4) (ts : List Table) (l : List Entry) (n : Int) : Sem Tryz.prog 4 [.d (.sl 6 (ts.map q0g)), .d (.sl 8 (l.map q0r)), .d (.i .i64 n)] (.d (.b true)) := by
  refine q0f (C := cfg4) (rs := [.tmp 6]) (fun _ => []) Tryz.func4 rfl rfl rfl rfl rfl rfl ?_
  refine inQ ?_
  repeat' first
    | (with_reducible first | apply q0j | apply q0c | apply AW.seq | apply AW.block)
    | (with_reducible refine AW.runK hC ?_; intro K hK)
    | ((with_reducible first | refine q0t ?_ | refine q0i ?_); refine siQ ?_; (try simp (disch := omega) only [w64, wu8]))
    | ((first | (refine AW.cond rfl (fun h => ?_) (fun h => ?_)) | (refine AW.cond_ub rfl (fun h => ?_) ?_) | (refine AW.cond_nb rfl ?_ (fun h => ?_))) <;> (try replace h := q0a h) <;> (try (exfalso; first | omega | exact absurd h (by decide))))
    | (with_reducible first | apply AW.skip | apply AW.exit | apply AW.ret | apply q0k | apply q0l | apply q0d | apply q0e | refine q0b rfl ?_ | apply q0m | apply q0n)
    | (refine q0h ?_; refine subQ ?_)
    | (with_reducible refine And.intro ?_ ?_)
    | (subst hK)
    | exact trivial
  all_goals (try (intros; assumption))
  all_goals (try refine q0v ?_)
  all_goals (try (intros; trivial))
  all_goals (try (intros; omega))
  all_goals (try (rw [w64 (by omega) (by omega)]; first | done | omega))
  all_goals clear hC
  all_goals (try have HF : qhz ts = true ∧ qlw l = true := by grind)
  all_goals (try have FL := qny HF.2)
  all_goals (try have FT := (qlq HF.1).1)
  all_goals first
    | omega
    | exact FT
    | exact FT.1
    | exact qh1 FT
    | exact qg8 FT
    | exact fun _ => qh1 FT
    | exact fun _ => qg8 FT
    | exact fun _ => ⟨FT.1, by omega⟩
end
noncomputable def cfg85 : Cfg := ⟨Tryz.prog, 19, tab4, mvz, [], (fun _ => none)⟩
theorem qbm8 : cfg85.pins = [] ∧ cfg85.P = Tryz.prog ∧ cfg85.N = 19 := ⟨rfl, rfl, rfl⟩
section
attribute [local go_sem] qbm8
attribute [local go_sem] qdz qdk qe1 qga
theorem qbxa (hC : COk cfg85) (l : List Int) (v : Int) (hp : l.length ≤ 1000000) : Sem Tryz.prog 85 [.d (.sl 1 (l.map (D.i .i64))), .d (.i .i64 v)] (.d (.i .i64 (idxZ l v))) := by
  refine q0f (C := cfg85) (rs := [.tmp 4]) (fun _ => []) Tryz.func85 rfl rfl rfl rfl rfl rfl ?_
  refine inQ ?_
  repeat' first
    | (with_reducible first | apply q0j | apply q0c | apply AW.seq | apply AW.block)
    | (with_reducible refine AW.runK hC ?_; intro K hK)
    | ((with_reducible first | refine q0t ?_ | refine q0i ?_); refine siQ ?_; (try simp (disch := omega) only [w64, wu8]))
    | ((first | (refine AW.cond rfl (fun h => ?_) (fun h => ?_)) | (refine AW.cond_ub rfl (fun h => ?_) ?_) | (refine AW.cond_nb rfl ?_ (fun h => ?_))) <;> (try replace h := q0a h) <;> (try (exfalso; first | omega | exact absurd h (by decide))))
    | (with_reducible first | apply AW.skip | apply AW.exit | apply AW.ret | apply q0k | apply q0l | apply q0d | apply q0e | refine q0b rfl ?_ | apply q0m | apply q0n)
    | (refine AW.loopN 2 rfl (ι := Nat) (fun i => mkS [(0, V.d (.sl 1 (l.map (D.i .i64)))), (1, V.d (.i .i64 v)), (7, V.d (.i .i64 (l.length : Int))), (8, V.d (.i .i64 (i : Int)))] ([])) (fun i => i ≤ l.length ∧ (l.take i).findIdx? (· == v) = none) (fun i => l.length - i) (0) ?_ ?_ (fun i hi => ?_) <;> (try dsimp only) <;> (try dsimp only at hi))
    | (refine LoopNext.mk1 2 (i + 1) ?_ ?_ ?_ <;> (try dsimp only))
    | (refine q0h ?_; refine subQ ?_)
    | (with_reducible refine And.intro ?_ ?_)
    | (subst hK)
    | exact trivial
  all_goals (try (intros; assumption))
  all_goals (try refine q0v ?_)
  all_goals (try replace hp := q0a hp)
  all_goals (try replace hi := q0a hi)
  all_goals (try (intros; trivial))
  all_goals (try (intros; omega))
  all_goals (try (rw [w64 (by omega) (by omega)]; first | done | omega))
  all_goals first
    | rfl
    | (rw [qbee hi.2 (by omega) (by assumption)]; done)
    | exact q93 hi.2 (by omega) (by assumption)
    | (rw [qbef hi.2 (by omega)]; done)
end
noncomputable def cfg55 : Cfg := ⟨Tryz.prog, 9, q7d, mvz, [], (fun _ => none)⟩
theorem qbm9 : cfg55.pins = [] ∧ cfg55.P = Tryz.prog ∧ cfg55.N = 9 ∧ cfg55.ti 85 = none ∧ cfg55.T 85 = e85 ∧ cfg55.mv 85 = (fun _ => []) := ⟨rfl, rfl, rfl, rfl, rfl, rfl⟩
section
attribute [local go_sem] qbm9 e85
attribute [local go_sem] qdz qdk qe1 qga
theorem qbxb (hC : COk cfg55) (l : List Int) (v : Int) (hp : l.length ≤ 1000000) : Sem Tryz.prog 55 [.d (.sl 1 (l.map (D.i .i64))), .d (.i .i64 v)] (.d (.b (decide (v ∈ l)))) := by
  refine q0f (C := cfg55) (rs := [.tmp 4]) (fun _ => []) Tryz.func55 rfl rfl rfl rfl rfl rfl ?_
  refine inQ ?_
  repeat' first
    | (with_reducible first | apply q0j | apply q0c | apply AW.seq | apply AW.block)
    | (with_reducible refine AW.runK hC ?_; intro K hK)
    | ((with_reducible first | refine q0t ?_ | refine q0i ?_); refine siQ ?_; (try simp (disch := omega) only [w64, wu8]))
    | ((first | (refine AW.cond rfl (fun h => ?_) (fun h => ?_)) | (refine AW.cond_ub rfl (fun h => ?_) ?_) | (refine AW.cond_nb rfl ?_ (fun h => ?_))) <;> (try replace h := q0a h) <;> (try (exfalso; first | omega | exact absurd h (by decide))))
    | (with_reducible first | apply AW.skip | apply AW.exit | apply AW.ret | apply q0k | apply q0l | apply q0d | apply q0e | refine q0b rfl ?_ | apply q0m | apply q0n)
    | (refine q0h ?_; refine subQ ?_)
    | (with_reducible refine And.intro ?_ ?_)
    | (subst hK)
    | exact trivial
  all_goals (try (intros; assumption))
  all_goals (try refine q0v ?_)
  all_goals (try replace hp := q0a hp)
  all_goals (try (intros; trivial))
  all_goals (try (intros; omega))
  all_goals (try (rw [w64 (by omega) (by omega)]; first | done | omega))
  all_goals first
    | (simp only [← q1h]; done)
    | (simp only [← q1h]; rfl)
end
noncomputable def cfg25 : Cfg := ⟨Tryz.prog, 26, q7e, mvz, [], (fun _ => none)⟩
theorem qbna : cfg25.pins = [] ∧ cfg25.P = Tryz.prog ∧ cfg25.N = 26 := ⟨rfl, rfl, rfl⟩
section
attribute [local go_sem] qbna
attribute [local go_sem] qdz qdk qe1 qga
theorem qbxc (hC : COk cfg25) (a : List Int) (b : List Int) (hp : a.length ≤ 1000000) : Sem Tryz.prog 25 [.d (.sl 1 (a.map (D.i .i64))), .d (.sl 1 (b.map (D.i .i64)))] (.d (.b (decide (a = b)))) := by
  refine q0f (C := cfg25) (rs := [.tmp 4]) (fun _ => []) Tryz.func25 rfl rfl rfl rfl rfl rfl ?_
  refine inQ ?_
  repeat' first
    | (with_reducible first | apply q0j | apply q0c | apply AW.seq | apply AW.block)
    | (with_reducible first | (refine AW.runK hC ?_; intro K hK) | (refine AW.drawK hC (by kernel_rfl) ?_; intro K hK))
    | ((with_reducible first | refine q0t ?_ | refine qb2 ?_ | refine q0i ?_); refine siQ ?_; (try simp (disch := omega) only [w64, wu8]))
    | (with_reducible refine qbn (by kernel_rfl) ?_)
    | ((first | (refine AW.cond rfl (fun h => ?_) (fun h => ?_)) | (refine AW.cond_ub rfl (fun h => ?_) ?_) | (refine AW.cond_nb rfl ?_ (fun h => ?_))) <;> (try replace h := q0a h) <;> (try (exfalso; first | omega | exact absurd h (by decide))))
    | (with_reducible first | apply AW.skip | apply AW.exit | apply AW.ret | apply q0k | apply q0l | apply q0d | apply q0e | refine q0b rfl ?_ | apply q0m | apply q0n)
    | (refine AW.loopN 4 rfl (ι := Nat) (fun i => mkS [(0, V.d (.sl 1 (a.map (D.i .i64)))), (1, V.d (.sl 1 (b.map (D.i .i64)))), (5, V.d (.i .i64 (i : Int)))] ([])) (fun i => i ≤ a.length ∧ a.length = b.length ∧ a.take i = b.take i) (fun i => a.length - i) (0) ?_ ?_ (fun i hi => ?_) <;> (try dsimp only) <;> (try dsimp only at hi))
    | (refine LoopNext.mk1 4 (i + 1) ?_ ?_ ?_ <;> (try dsimp only))
    | (refine q0h ?_; refine subQ ?_)
    | (with_reducible refine And.intro ?_ ?_)
    | (subst hK)
    | exact trivial
  all_goals (try (intros; assumption))
  all_goals (try refine q0v ?_)
  all_goals (try replace hp := q0a hp)
  all_goals (try replace hi := q0a hi)
  all_goals (try (intros; trivial))
  all_goals (try (intros; omega))
  all_goals (try (rw [w64 (by omega) (by omega)]; first | done | omega))
  all_goals first
    | rfl
    | (intro e; subst e; exact h rfl)
    | exact qb9 hi.2.2 (by omega) (by omega)
    | exact qgp hi.2.2 (by omega) (by omega) (by assumption)
    | (simp only [decide_eq_true_eq]; exact qb9 hi.2.2 (by omega) (by omega))
    | (intro e; subst e; simp at h; done)
end
end Go.Ev
