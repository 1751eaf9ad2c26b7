/- Tools and contracts under the laws of this seat: Dyc53, Dyc58, Dyc21, Dyc22, Dyc23, Dyc24, Dyc6. -/
import Derived.Test.YtkgkgcojfocomaaGreatE11
import Derived.Test.YtkgkgcojfocomaaGreatE25
set_option linter.unusedVariables false
set_option linter.unusedSimpArgs false
namespace Go.Ev
open Go.Proofs Ty
set_option maxRecDepth 10000
set_option maxHeartbeats 4000000
set_option linter.unusedSimpArgs false
set_option linter.unusedVariables false
attribute [local go_sem] qbe qbg qcb qcy qb6 qda qdn qef Int.toNat_natCast qc9 qd4 qep qcq qcc qbm qb0 decI List.length_map qbf qbl q03 qb4 qc4 qdr qbt qb1 qd9 qe4 q06 qbv qcl qc8 qb5 qcd qds qea qbo qc0 qeb qe5 qbz qbp qcp qc6 qcn qed qc7 qco qee qc5 qcm qec List.length_take qce Int.toNat_zero Nat.sub_zero List.drop_zero q0g q0x qdb qdw q0u q0z q08 qbh qcs qct List.length_set Nat.le_refl qcv qcg q0r q0w qb3 qcf qci qdt qdx qd2 qgf qjj qk0 qjk qjl qk5 qjn qjo qd7
attribute [local go_sem ←] List.map_take List.map_drop
noncomputable def cfg53 : Cfg := ⟨Tryz.prog, 27, tab5, mvz, [], (fun _ => none)⟩
theorem qbnk : cfg53.pins = [] ∧ cfg53.P = Tryz.prog ∧ cfg53.N = 27 ∧ cfg53.ti 83 = none ∧ cfg53.ti 84 = none := ⟨rfl, rfl, rfl, rfl, rfl⟩
section
attribute [local go_sem] qbnk
attribute [local go_sem] qq2 qdf
theorem qbxm (hC : COk cfg53) (us : List AUnit) (hp : us.length ≤ 1000 ∧ ∀ u ∈ us, 1 ≤ u.unit ∧ u.unit ≤ 999) : Sem Tryz.prog 53 [.d (.mp (us.map keyU) (us.map fun u => .cp (qdf u)))] (.d (.sl 1 ((qpr us).map (D.i .i64)))) := by
  have hsl := qq2 (us.map (·.unit))
  rw [List.length_map] at hsl
  refine q0f (C := cfg53) (rs := [.tmp 2]) (fun _ => []) Tryz.func53 rfl rfl rfl rfl rfl rfl ?_
  refine inQ ?_
  repeat' first
    | (refine AW.keysSorted (t := 3) (tR := 3) (ks := us.map (·.unit)) (xs := us.map fun u => .cp (qdf u)) hC Tryz.underlying3 ⟨_, Tryz.func84, rfl, rfl⟩ ⟨_, Tryz.func83, rfl, rfl⟩ cKz cSz rfl rfl rfl rfl rfl rfl rfl rfl rfl (by show _ < 27; decide) (by show _ < 27; decide) (by show _ < 27; decide) (by rw [← qbek]; rfl) rfl rfl rfl (by rw [List.length_map]; omega) (qblf hp.2) ?_)
    | (with_reducible first | apply q0j | apply q0c | apply AW.seq | apply AW.block)
    | (refine AW.atR 5 rfl ?_; obtain ⟨kx, ux, hk1, hk2, hk3, hk4⟩ := qbpw (us := us) (j := i) (by omega); refine AWh.mk ?_; refine AW.lookP (kt := 3) (et := 99) (kk := us.map keyU) (xs := us.map fun u => .cp (qdf u)) (k := .i .i64 ((qfo (us.map (·.unit))).getD i 0)) (x := .cp (qdf ux)) (j := kx) hC (by show mapT Tryz.prog 65 = some (3, 99); kernel_rfl) (by show qck Tryz.prog 99 = some [.np]; kernel_rfl) rfl rfl rfl rfl rfl rfl rfl rfl rfl (by show _ < 27; decide) (by show _ < 27; decide) (by show _ < 27; decide) (by decide) rfl rfl (by simp) rfl rfl (isK3 _) (isKU us) (by rw [qyt]; assumption) (by assumption) ?_)
    | (with_reducible first | (refine AWh.runK hC ?_; intro K hK) | (refine AWh.drawK hC (by kernel_rfl) ?_; intro K hK))
    | (with_reducible refine AW.runK hC ?_; intro K hK)
    | ((with_reducible first | refine q0t ?_ | refine q0i ?_); (first | (simp (maxSteps := 1000000) only [go_sem, ↓reduceIte, reduceCtorEq, Nat.reduceEqDiff, Nat.reduceLT, Nat.reduceLeDiff, Nat.reduceMul, Nat.reduceAdd, Nat.reduceSub, reduceDIte, Nat.reduceBEq, Nat.reduceBNe, hk4]) | (refine siQ ?_)); (try simp (disch := omega) only [w64, wu8]))
    | ((first | (refine AW.cond rfl (fun h => ?_) (fun h => ?_)) | (refine AW.cond_ub rfl (fun h => ?_) ?_) | (refine AW.cond_nb rfl ?_ (fun h => ?_))) <;> (try replace h := q0a h) <;> (try (exfalso; first | omega | exact absurd h (by decide))))
    | (with_reducible first | apply AW.skip | apply AW.exit | apply AW.ret | apply q0k | apply q0l | apply q0d | apply q0e | refine q0b rfl ?_ | apply q0m | apply q0n)
    | (refine AW.loopN 3 rfl (ι := Nat) (fun i => mkS [(0, V.d (.mp (us.map keyU) (us.map fun u => .cp (qdf u)))), (3, V.row 48 1 0 (opn us ((qfo (us.map (·.unit))).take i)).length), (8, V.d (.sl 1 ((qfo (us.map (·.unit))).map (D.i .i64)))), (9, V.d (.i .i64 (us.length : Int))), (10, V.d (.i .i64 (i : Int)))] ([(48, .live (.row 3 1 false ((opn us ((qfo (us.map (·.unit))).take i)).map (D.i .i64))))])) (fun i => i ≤ us.length) (fun i => us.length - i) (0) ?_ ?_ (fun i hi => ?_) <;> (try dsimp only) <;> (try dsimp only at hi))
    | (refine LoopNext.mk1 3 (i + 1) ?_ ?_ ?_ <;> (try dsimp only))
    | (refine q0h ?_; refine subQ ?_)
    | (with_reducible refine And.intro ?_ ?_)
    | (subst hK)
    | exact trivial
  all_goals (try (intros; assumption))
  all_goals (try refine q0v ?_)
  all_goals (try replace hp := q0a hp)
  all_goals (try replace hi := q0a hi)
  all_goals (try (intros; trivial))
  all_goals (try (intros; omega))
  all_goals (try (rw [w64 (by omega) (by omega)]; first | done | omega))
  all_goals clear hC
  all_goals (try have OL : (opn us ((qfo (us.map (·.unit))).take i)).length ≤ 1000 := Nat.le_trans (qble us _) (by rw [List.length_take]; omega))
  all_goals first
    | omega
    | (intro d hd; subst hd; exact ⟨rfl, by simp [D.cells, D.one]⟩)
    | (rw [List.take_of_length_le (by omega)]; exact q0p _)
    | (rw [q3w (by omega) (by rw [hk4]; assumption), List.length_append]; rfl)
    | (rw [q3w (by omega) (by rw [hk4]; assumption), List.map_append]; exact q0p _)
    | (rw [qbpv (by omega) (by rw [hk4]; assumption)]; first | done | exact q0p _)
end
noncomputable def cfg58 : Cfg := ⟨Tryz.prog, 17, q7p, mvz, [], (fun _ => none)⟩
theorem qbnl : cfg58.pins = [] ∧ cfg58.P = Tryz.prog ∧ cfg58.N = 17 ∧ cfg58.ti 57 = none ∧ cfg58.T 57 = e57 ∧ cfg58.mv 57 = (fun _ => []) := ⟨rfl, rfl, rfl, rfl, rfl, rfl⟩
section
attribute [local go_sem] qbnl e57
theorem qbxn (hC : COk cfg58) (l : List Entry) (hp : l.length ≤ 1000000) : Sem Tryz.prog 58 [.d (.sl 8 (l.map q0r))] (.d (.sl 1 ((qdl l).map (D.i .i64)))) := by
  refine q0f (C := cfg58) (rs := [.tmp 2]) (fun _ => []) Tryz.func58 rfl rfl rfl rfl rfl rfl ?_
  refine inQ ?_
  repeat' first
    | (with_reducible first | apply q0j | apply q0c | apply AW.seq | apply AW.block)
    | (with_reducible refine AW.runK hC ?_; intro K hK)
    | ((with_reducible first | refine q0t ?_ | refine q0i ?_); refine siQ ?_; (try simp (disch := omega) only [w64, wu8]))
    | ((first | (refine AW.cond rfl (fun h => ?_) (fun h => ?_)) | (refine AW.cond_ub rfl (fun h => ?_) ?_) | (refine AW.cond_nb rfl ?_ (fun h => ?_))) <;> (try replace h := q0a h) <;> (try (exfalso; first | omega | exact absurd h (by decide))))
    | (with_reducible first | apply AW.skip | apply AW.exit | apply AW.ret | apply q0k | apply q0l | apply q0d | apply q0e | refine q0b rfl ?_ | apply q0m | apply q0n)
    | (refine AW.loopN 3 rfl (ι := Nat) (fun i => mkS [(0, V.d (.sl 8 (l.map q0r))), (3, V.row 48 1 0 (qhi l i).length), (4, V.d (.i .i64 ((i : Int) + 1)))] ([(48, .live (.row 3 1 false ((qhi l i).map (D.i .i64))))])) (fun i => i ≤ 999) (fun i => 999 - i) (0) ?_ ?_ (fun i hi => ?_) <;> (try dsimp only) <;> (try dsimp only at hi))
    | (refine LoopNext.mk1 3 (i + 1) ?_ ?_ ?_ <;> (try dsimp only))
    | (refine q0h ?_; refine subQ ?_)
    | (with_reducible refine And.intro ?_ ?_)
    | (subst hK)
    | exact trivial
  all_goals (try (intros; assumption))
  all_goals (try refine q0v ?_)
  all_goals (try replace hp := q0a hp)
  all_goals (try replace hi := q0a hi)
  all_goals (try (intros; trivial))
  all_goals (try (intros; omega))
  all_goals (try (rw [w64 (by omega) (by omega)]; first | done | omega))
  all_goals clear hC
  all_goals (try have OL := quj l i)
  all_goals first
    | omega
    | (intro d hd; subst hd; exact ⟨rfl, by simp [D.cells, D.one]⟩)
    | (rw [qui (by assumption), List.length_append]; rfl)
    | (rw [qui (by assumption), List.map_append]; exact q0p _)
    | (rw [q94 (by assumption)]; first | done | exact q0p _)
    | (rw [← q1l, show (999 : Nat) = i by omega]; exact q0p _)
end
noncomputable def cfg21 : Cfg := ⟨Tryz.prog, 37, q7q, mvz, [], (fun _ => none)⟩
theorem qbnm : cfg21.pins = [] ∧ cfg21.P = Tryz.prog ∧ cfg21.N = 37 ∧ cfg21.ti 34 = none ∧ cfg21.T 34 = e34 ∧ cfg21.mv 34 = (fun _ => []) ∧ cfg21.ti 35 = none ∧ cfg21.T 35 = e35 ∧ cfg21.mv 35 = (fun _ => []) ∧ cfg21.ti 36 = none ∧ cfg21.T 36 = e36z ∧ cfg21.mv 36 = (fun _ => []) ∧ cfg21.ti 53 = none ∧ cfg21.T 53 = e53 ∧ cfg21.mv 53 = (fun _ => []) ∧ cfg21.ti 54 = none ∧ cfg21.T 54 = e54 ∧ cfg21.mv 54 = (fun _ => []) := ⟨rfl, rfl, rfl, rfl, rfl, rfl, rfl, rfl, rfl, rfl, rfl, rfl, rfl, rfl, rfl, rfl, rfl, rfl⟩
section
attribute [local go_sem] qbnm e34 e35 e36z e53 e54
attribute [local go_sem] qgy dWZ1 dWZ2 dWZ3 dWZ4 dWZ5 dUs
theorem qbxo (hC : COk cfg21) (ts : List Table) (l : List Entry) (hp : okTs ts ∧ l.length ≤ 1000000) : Sem Tryz.prog 21 [.d (.sl 6 (ts.map q0g)), .d (.sl 8 (l.map q0r))] (.tup [.d (.sl 6 ((qfm ts l).1.map q0g)), .d (.sl 1 ((qfm ts l).2.1.map (D.i .i64))), .d (.i .i64 (qfm ts l).2.2)]) := by
  refine q0f (C := cfg21) (rs := [.tmp 4, .tmp 5, .tmp 6]) (fun _ => []) Tryz.func21 rfl rfl rfl rfl rfl rfl ?_
  refine inQ ?_
  repeat' first
    | (with_reducible first | apply q0j | apply q0c | apply AW.seq | apply AW.block)
    | (refine AW.atR 4 rfl ?_; have hop := qps (ts := ts) (l := l) (by assumption))
    | (with_reducible first | (refine AWh.runK hC ?_; intro K hK) | (refine AWh.drawK hC (by kernel_rfl) ?_; intro K hK))
    | (with_reducible first | (refine AW.runK hC ?_; intro K hK) | (refine AW.drawK hC (by kernel_rfl) ?_; intro K hK))
    | ((with_reducible first | refine q0t ?_ | refine qb2 ?_ | refine q0i ?_); (first | (simp (maxSteps := 1000000) only [go_sem, ↓reduceIte, reduceCtorEq, Nat.reduceEqDiff, Nat.reduceLT, Nat.reduceLeDiff, Nat.reduceMul, Nat.reduceAdd, Nat.reduceSub, reduceDIte, Nat.reduceBEq, Nat.reduceBNe, hop]) | (refine siQ ?_)); (try simp (disch := omega) only [w64, wu8]))
    | (with_reducible refine qbn (by kernel_rfl) ?_)
    | ((first | (refine AW.cond rfl (fun h => ?_) (fun h => ?_)) | (refine AW.cond_ub rfl (fun h => ?_) ?_) | (refine AW.cond_nb rfl ?_ (fun h => ?_))) <;> (try replace h := q0a h) <;> (try (exfalso; first | omega | exact absurd h (by decide))))
    | (with_reducible first | apply AW.skip | apply AW.exit | apply AW.ret | apply q0k | apply q0l | apply q0d | apply q0e | refine q0b rfl ?_ | apply q0m | apply q0n)
    | (refine q0h ?_; refine subQ ?_)
    | (with_reducible refine And.intro ?_ ?_)
    | (subst hK)
    | exact trivial
  all_goals (try (intros; assumption))
  all_goals (try refine q0v ?_)
  all_goals (try replace hp := q0a hp)
  all_goals (try (intros; trivial))
  all_goals (try (intros; omega))
  all_goals (try (rw [w64 (by omega) (by omega)]; first | done | omega))
  all_goals clear hC
  all_goals (try have UB := qn6 l)
  all_goals (try have CP := qnk (WantZ.out (qdl l)).has false l)
  all_goals (try simp only [qps (ts := ts) (l := l) (by assumption)] at *)
  all_goals first
    | omega
    | exact hp.1
    | exact hp.2
    | exact ⟨hp.2, by show (qdl l).length ≤ 1000000; omega⟩
    | (show (qdl l).length ≤ 1000000; omega)
    | exact (qmz (by assumption)).1
    | exact (qmz (by assumption)).2
    | exact ⟨hp.1, by omega⟩
    | (rw [q95 (by assumption)]; first | done | rfl)
    | (rw [q96 (by assumption) (by assumption)]; first | done | rfl)
    | (rw [qbg5 (by assumption) (by assumption)]; first | done | rfl | exact q0p _)
end
noncomputable def cfg22 : Cfg := ⟨Tryz.prog, 37, q7r, mvz, [], (fun _ => none)⟩
theorem qbnn : cfg22.pins = [] ∧ cfg22.P = Tryz.prog ∧ cfg22.N = 37 ∧ cfg22.ti 34 = none ∧ cfg22.T 34 = e34 ∧ cfg22.mv 34 = (fun _ => []) ∧ cfg22.ti 35 = none ∧ cfg22.T 35 = e35 ∧ cfg22.mv 35 = (fun _ => []) ∧ cfg22.ti 36 = none ∧ cfg22.T 36 = e36z ∧ cfg22.mv 36 = (fun _ => []) ∧ cfg22.ti 53 = none ∧ cfg22.T 53 = e53 ∧ cfg22.mv 53 = (fun _ => []) ∧ cfg22.ti 56 = none ∧ cfg22.T 56 = e56 ∧ cfg22.mv 56 = (fun _ => []) := ⟨rfl, rfl, rfl, rfl, rfl, rfl, rfl, rfl, rfl, rfl, rfl, rfl, rfl, rfl, rfl, rfl, rfl, rfl⟩
section
attribute [local go_sem] qbnn e34 e35 e36z e53 e56
attribute [local go_sem] qgy dWZ1 dWZ2 dWZ3 dWZ4 dWZ5 dUs
theorem qbxp (hC : COk cfg22) (ts : List Table) (l : List Entry) (hp : okTs ts ∧ l.length ≤ 1000000) : Sem Tryz.prog 22 [.d (.sl 6 (ts.map q0g)), .d (.sl 8 (l.map q0r))] (.tup [.d (.sl 6 ((qgm ts l).1.map q0g)), .d (.sl 1 ((qgm ts l).2.1.map (D.i .i64))), .d (.i .i64 (qgm ts l).2.2)]) := by
  refine q0f (C := cfg22) (rs := [.tmp 4, .tmp 5, .tmp 6]) (fun _ => []) Tryz.func22 rfl rfl rfl rfl rfl rfl ?_
  refine inQ ?_
  repeat' first
    | (with_reducible first | apply q0j | apply q0c | apply AW.seq | apply AW.block)
    | (refine AW.atR 4 rfl ?_; have hop := qps (ts := ts) (l := l) (by assumption))
    | (with_reducible first | (refine AWh.runK hC ?_; intro K hK) | (refine AWh.drawK hC (by kernel_rfl) ?_; intro K hK))
    | (with_reducible first | (refine AW.runK hC ?_; intro K hK) | (refine AW.drawK hC (by kernel_rfl) ?_; intro K hK))
    | ((with_reducible first | refine q0t ?_ | refine qb2 ?_ | refine q0i ?_); (first | (simp (maxSteps := 1000000) only [go_sem, ↓reduceIte, reduceCtorEq, Nat.reduceEqDiff, Nat.reduceLT, Nat.reduceLeDiff, Nat.reduceMul, Nat.reduceAdd, Nat.reduceSub, reduceDIte, Nat.reduceBEq, Nat.reduceBNe, hop]) | (refine siQ ?_)); (try simp (disch := omega) only [w64, wu8]))
    | (with_reducible refine qbn (by kernel_rfl) ?_)
    | ((first | (refine AW.cond rfl (fun h => ?_) (fun h => ?_)) | (refine AW.cond_ub rfl (fun h => ?_) ?_) | (refine AW.cond_nb rfl ?_ (fun h => ?_))) <;> (try replace h := q0a h) <;> (try (exfalso; first | omega | exact absurd h (by decide))))
    | (with_reducible first | apply AW.skip | apply AW.exit | apply AW.ret | apply q0k | apply q0l | apply q0d | apply q0e | refine q0b rfl ?_ | apply q0m | apply q0n)
    | (refine q0h ?_; refine subQ ?_)
    | (with_reducible refine And.intro ?_ ?_)
    | (subst hK)
    | exact trivial
  all_goals (try (intros; assumption))
  all_goals (try refine q0v ?_)
  all_goals (try replace hp := q0a hp)
  all_goals (try (intros; trivial))
  all_goals (try (intros; omega))
  all_goals (try (rw [w64 (by omega) (by omega)]; first | done | omega))
  all_goals clear hC
  all_goals (try have UB := qn6 l)
  all_goals (try have CP := qnk (WantZ.inn (qdl l)).has true l)
  all_goals (try simp only [qps (ts := ts) (l := l) (by assumption)] at *)
  all_goals first
    | omega
    | exact hp.1
    | exact hp.2
    | exact ⟨hp.2, by show (qdl l).length ≤ 1000000; omega⟩
    | (show (qdl l).length ≤ 1000000; omega)
    | exact (qmz (by assumption)).1
    | exact (qmz (by assumption)).2
    | exact ⟨hp.1, by omega⟩
    | (rw [q97 (by assumption)]; first | done | rfl)
    | (rw [q98 (by assumption) (by assumption)]; first | done | rfl)
    | (rw [qbg6 (by assumption) (by assumption)]; first | done | rfl | exact q0p _)
end
noncomputable def cfg23 : Cfg := ⟨Tryz.prog, 58, q7s, mvz, [], (fun _ => none)⟩
theorem qbno : cfg23.pins = [] ∧ cfg23.P = Tryz.prog ∧ cfg23.N = 58 ∧ cfg23.ti 39 = none ∧ cfg23.T 39 = e39 ∧ cfg23.mv 39 = (fun _ => []) ∧ cfg23.ti 42 = none ∧ cfg23.T 42 = e42 ∧ cfg23.mv 42 = (fun _ => []) ∧ cfg23.ti 57 = none ∧ cfg23.T 57 = e57 ∧ cfg23.mv 57 = (fun _ => []) ∧ cfg23.ti 58 = none ∧ cfg23.T 58 = e58 ∧ cfg23.mv 58 = (fun _ => []) := ⟨rfl, rfl, rfl, rfl, rfl, rfl, rfl, rfl, rfl, rfl, rfl, rfl, rfl, rfl, rfl⟩
section
attribute [local go_sem] qbno e39 e42 e57 e58
attribute [local go_sem] qe6
theorem qbxq (hC : COk cfg23) (ts : List Table) (l : List Entry) (hp : okTs ts ∧ l.length ≤ 1000000) : Sem Tryz.prog 23 [.d (.sl 6 (ts.map q0g)), .d (.sl 8 (l.map q0r))] (.d (qd2 (ansW (qfm ts l)))) := by
  refine q0f (C := cfg23) (rs := [.cell 4 33]) (fun _ => []) Tryz.func23 rfl rfl rfl rfl rfl rfl ?_
  refine inQ ?_
  repeat' first
    | (with_reducible first | apply q0j | apply q0c | apply AW.seq | apply AW.block)
    | (with_reducible first | (refine AW.runK hC ?_; intro K hK) | (refine AW.drawK hC (by kernel_rfl) ?_; intro K hK))
    | ((with_reducible first | refine q0t ?_ | refine qb2 ?_ | refine q0i ?_); refine siQ ?_; (try simp (disch := omega) only [w64, wu8]))
    | (with_reducible refine qbn (by kernel_rfl) ?_)
    | ((first | (refine AW.cond rfl (fun h => ?_) (fun h => ?_)) | (refine AW.cond_ub rfl (fun h => ?_) ?_) | (refine AW.cond_nb rfl ?_ (fun h => ?_))) <;> (try replace h := q0a h) <;> (try (exfalso; first | omega | exact absurd h (by decide))))
    | (with_reducible first | apply AW.skip | apply AW.exit | apply AW.ret | apply q0k | apply q0l | apply q0d | apply q0e | refine q0b rfl ?_ | apply q0m | apply q0n)
    | (refine AW.loopN 6 rfl (ι := Nat) (fun i => mkS [(0, V.d (.sl 6 (ts.map q0g))), (1, V.d (.sl 8 (l.map q0r))), (4, V.ptr 64 0), (6, V.row 96 5 0 (qe7 (wP l) false (l.take i)).length), (7, V.d (.i .i64 (i : Int)))] ([(64, .live (.box 33 [.d .nil, .d (.i .i64 0), .d .nil, .d (.i .i64 0)])), (96, .live (.row 48 5 false ((qe7 (wP l) false (l.take i)).map q0u)))])) (fun i => i ≤ l.length ∧ chkE ts l = 0) (fun i => l.length - i) (0) ?_ ?_ (fun i hi => ?_) <;> (try dsimp only) <;> (try dsimp only at hi))
    | (refine LoopNext.mk1 6 (i + 1) ?_ ?_ ?_ <;> (try dsimp only))
    | (refine q0h ?_; refine subQ ?_)
    | (with_reducible refine And.intro ?_ ?_)
    | (subst hK)
    | exact trivial
  all_goals (try (intros; assumption))
  all_goals (try refine q0v ?_)
  all_goals (try replace hp := q0a hp)
  all_goals (try replace hi := q0a hi)
  all_goals (try (intros; trivial))
  all_goals (try (intros; omega))
  all_goals (try (rw [w64 (by omega) (by omega)]; first | done | omega))
  all_goals clear hC
  all_goals (try simp only [qjh] at *)
  all_goals (try have CL := qmd (p := wP l) (back := false) (l := l) (i := i))
  all_goals first
    | omega
    | exact hp.1
    | exact hp.2
    | exact q0p _
    | (rw [qbpx (by assumption)]; first | done | rfl)
    | (intro d hd; subst hd; exact ⟨rfl, by simp [D.cells, D.one]⟩)
    | (rw [qks (by omega) h.1 (by unfold wP; rw [h.2]; rfl), List.length_append]; rfl)
    | (rw [qks (by omega) h.1 (by unfold wP; rw [h.2]; rfl), List.map_append]; exact q0p _)
    | (rw [qnl (by omega) (h.imp id (fun q => by unfold wP; rw [q]; rfl))]; first | done | exact q0p _)
    | (rw [qmy (by omega)] at *
       rw [qbpy (by assumption) (by assumption)]; first | done | rfl | exact q0p _)
    | (rw [qmy (by omega)] at *
       rw [qbvg (by assumption) (by assumption)]; first | done | rfl | exact q0p _)
end
noncomputable def cfg24 : Cfg := ⟨Tryz.prog, 59, q7t, mvz, [], (fun _ => none)⟩
theorem qbnp : cfg24.pins = [] ∧ cfg24.P = Tryz.prog ∧ cfg24.N = 59 ∧ cfg24.ti 39 = none ∧ cfg24.T 39 = e39 ∧ cfg24.mv 39 = (fun _ => []) ∧ cfg24.ti 42 = none ∧ cfg24.T 42 = e42 ∧ cfg24.mv 42 = (fun _ => []) ∧ cfg24.ti 45 = none ∧ cfg24.T 45 = e45 ∧ cfg24.mv 45 = (fun _ => []) ∧ cfg24.ti 57 = none ∧ cfg24.T 57 = e57 ∧ cfg24.mv 57 = (fun _ => []) ∧ cfg24.ti 58 = none ∧ cfg24.T 58 = e58 ∧ cfg24.mv 58 = (fun _ => []) := ⟨rfl, rfl, rfl, rfl, rfl, rfl, rfl, rfl, rfl, rfl, rfl, rfl, rfl, rfl, rfl, rfl, rfl, rfl⟩
section
attribute [local go_sem] qbnp e39 e42 e45 e57 e58
attribute [local go_sem] qe6
theorem qbxr (hC : COk cfg24) (ts : List Table) (l : List Entry) (hp : okTs ts ∧ l.length ≤ 1000000) : Sem Tryz.prog 24 [.d (.sl 6 (ts.map q0g)), .d (.sl 8 (l.map q0r))] (.d (qd2 (ansW (qgm ts l)))) := by
  refine q0f (C := cfg24) (rs := [.cell 4 33]) (fun _ => []) Tryz.func24 rfl rfl rfl rfl rfl rfl ?_
  refine inQ ?_
  repeat' first
    | (with_reducible first | apply q0j | apply q0c | apply AW.seq | apply AW.block)
    | (with_reducible first | (refine AW.runK hC ?_; intro K hK) | (refine AW.drawK hC (by kernel_rfl) ?_; intro K hK))
    | ((with_reducible first | refine q0t ?_ | refine qb2 ?_ | refine q0i ?_); refine siQ ?_; (try simp (disch := omega) only [w64, wu8]))
    | (with_reducible refine qbn (by kernel_rfl) ?_)
    | ((first | (refine AW.cond rfl (fun h => ?_) (fun h => ?_)) | (refine AW.cond_ub rfl (fun h => ?_) ?_) | (refine AW.cond_nb rfl ?_ (fun h => ?_))) <;> (try replace h := q0a h) <;> (try (exfalso; first | omega | exact absurd h (by decide))))
    | (with_reducible first | apply AW.skip | apply AW.exit | apply AW.ret | apply q0k | apply q0l | apply q0d | apply q0e | refine q0b rfl ?_ | apply q0m | apply q0n)
    | (refine AW.loopN 6 rfl (ι := Nat) (fun j => mkS [(0, V.d (.sl 6 (ts.map q0g))), (1, V.d (.sl 8 (l.map q0r))), (4, V.ptr 64 0), (6, V.row 96 5 0 (qi3 (oP l) l j).length), (7, V.d (.i .i64 ((j : Int) - 1)))] ([(64, .live (.box 33 [.d .nil, .d (.i .i64 0), .d .nil, .d (.i .i64 0)])), (96, .live (.row 48 5 false ((qi3 (oP l) l j).map q0u)))])) (fun j => j ≤ l.length ∧ chkE ts l = 0) (fun j => j) (l.length) ?_ ?_ (fun j hi => ?_) <;> (try dsimp only) <;> (try dsimp only at hi))
    | (refine LoopNext.mk1 6 (j - 1) ?_ ?_ ?_ <;> (try dsimp only))
    | (refine q0h ?_; refine subQ ?_)
    | (with_reducible refine And.intro ?_ ?_)
    | (subst hK)
    | exact trivial
  all_goals (try (intros; assumption))
  all_goals (try refine q0v ?_)
  all_goals (try replace hp := q0a hp)
  all_goals (try replace hi := q0a hi)
  all_goals (try (intros; trivial))
  all_goals (try (intros; omega))
  all_goals (try (rw [w64 (by omega) (by omega)]; first | done | omega))
  all_goals clear hC
  all_goals (try simp only [qjh] at *)
  all_goals (try have CL := qbab (oP l) l j)
  all_goals first
    | omega
    | exact hp.1
    | exact hp.2
    | exact q0p _
    | (rw [qbpz (by assumption)]; first | done | rfl)
    | (intro d hd; subst hd; exact ⟨rfl, by simp [D.cells, D.one]⟩)
    | (rw [q2t (Nat.le_refl _)]; rfl)
    | (rw [qw7 (j := j - 1) (by omega) h.1 h.2, show j - 1 + 1 = j by omega, List.length_append]; rfl)
    | (rw [qw7 (j := j - 1) (by omega) h.1 h.2, show j - 1 + 1 = j by omega, List.map_append]; exact q0p _)
    | (rw [qbeh (j := j - 1) (by omega) h, show j - 1 + 1 = j by omega]; first | done | exact q0p _)
    | (obtain rfl : j = 0 := by omega
       have e := qw8 (p := oP l) (qfj (ts := ts) (l := l) (by assumption)).2
       rw [e] at h
       try rw [e]
       rw [qbp0 (by assumption) h]; first | done | rfl | exact q0p _)
    | (obtain rfl : j = 0 := by omega
       have e := qw8 (p := oP l) (qfj (ts := ts) (l := l) (by assumption)).2
       rw [e] at h
       try rw [e]
       rw [qbvh (by assumption) h]; first | done | rfl | exact q0p _)
end
noncomputable def cfg6 : Cfg := ⟨Tryz.prog, 65, qbg7, mvz, [], (fun _ => none)⟩
theorem qbr4 : cfg6.pins = [] ∧ cfg6.P = Tryz.prog ∧ cfg6.N = 65 ∧ cfg6.ti 8 = none ∧ cfg6.T 8 = e8 ∧ cfg6.mv 8 = (fun _ => []) ∧ cfg6.ti 9 = none ∧ cfg6.T 9 = e9 ∧ cfg6.mv 9 = (fun _ => []) ∧ cfg6.ti 11 = none ∧ cfg6.T 11 = e11 ∧ cfg6.mv 11 = (fun _ => []) ∧ cfg6.ti 12 = none ∧ cfg6.T 12 = e12 ∧ cfg6.mv 12 = (fun _ => []) ∧ cfg6.ti 14 = none ∧ cfg6.T 14 = e14 ∧ cfg6.mv 14 = (fun _ => []) ∧ cfg6.ti 21 = none ∧ cfg6.T 21 = e21 ∧ cfg6.mv 21 = (fun _ => []) ∧ cfg6.ti 22 = none ∧ cfg6.T 22 = e22 ∧ cfg6.mv 22 = (fun _ => []) ∧ cfg6.ti 23 = none ∧ cfg6.T 23 = e23 ∧ cfg6.mv 23 = (fun _ => []) ∧ cfg6.ti 24 = none ∧ cfg6.T 24 = e24 ∧ cfg6.mv 24 = (fun _ => []) ∧ cfg6.ti 25 = none ∧ cfg6.T 25 = e25 ∧ cfg6.mv 25 = (fun _ => []) := ⟨rfl, rfl, rfl, rfl, rfl, rfl, rfl, rfl, rfl, rfl, rfl, rfl, rfl, rfl, rfl, rfl, rfl, rfl, rfl, rfl, rfl, rfl, rfl, rfl, rfl, rfl, rfl, rfl, rfl, rfl, rfl, rfl, rfl⟩
section
attribute [local go_sem] qbr4 e8 e9 e11 e12 e14 e21 e22 e23 e24 e25
attribute [local go_sem] ansW
theorem con6 (hC : COk cfg6) (ts : List Table) (l : List Entry) : Sem Tryz.prog 6 [.d (.sl 6 (ts.map q0g)), .d (.sl 8 (l.map q0r))] (.d (.b true)) := by
  refine q0f (C := cfg6) (rs := [.tmp 4]) (fun _ => []) Tryz.func6 rfl rfl rfl rfl rfl rfl ?_
  refine inQ ?_
  repeat' first
    | (with_reducible first | apply q0j | apply q0c | apply AW.seq | apply AW.block)
    | (with_reducible refine AW.runK hC ?_; intro K hK)
    | ((with_reducible first | refine q0t ?_ | refine q0i ?_); refine siQ ?_; (try simp (disch := omega) only [w64, wu8]))
    | ((first | (refine AW.cond rfl (fun h => ?_) (fun h => ?_)) | (refine AW.cond_ub rfl (fun h => ?_) ?_) | (refine AW.cond_nb rfl ?_ (fun h => ?_))) <;> (try replace h := q0a h) <;> (try (exfalso; first | omega | exact absurd h (by decide))))
    | (with_reducible first | apply AW.skip | apply AW.exit | apply AW.ret | apply q0k | apply q0l | apply q0d | apply q0e | refine q0b rfl ?_ | apply q0m | apply q0n)
    | (refine q0h ?_; refine subQ ?_)
    | (with_reducible refine And.intro ?_ ?_)
    | (subst hK)
    | exact trivial
  all_goals (try (intros; assumption))
  all_goals (try refine q0v ?_)
  all_goals (try (intros; trivial))
  all_goals (try (intros; omega))
  all_goals (try (rw [w64 (by omega) (by omega)]; first | done | omega))
  all_goals clear hC
  all_goals (try have HF : qhz ts = true ∧ qlw l = true := by grind)
  all_goals (try have FL := qny HF.2)
  all_goals (try have FT := (qlq HF.1).1)
  all_goals first
    | omega
    | exact FT
    | exact FT.1
    | exact quk FT
    | exact qw6 FT
    | exact fun _ => quk FT
    | exact fun _ => qw6 FT
    | (have := whU ts l; omega)
    | (have := opU ts l; omega)
    | (intro _; have := whU ts l; omega)
    | (intro _; have := opU ts l; omega)
    | exact qh1 FT
    | exact qg8 FT
    | exact fun _ => qh1 FT
    | exact fun _ => qg8 FT
    | exact fun _ => ⟨FT.1, by omega⟩
end
end Go.Ev
