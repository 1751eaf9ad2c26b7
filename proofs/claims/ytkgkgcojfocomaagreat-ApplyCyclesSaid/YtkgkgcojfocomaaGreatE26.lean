/- Tools and contracts under the laws of this seat: Dyc53, Dyc58, Dyc21, Dyc22, Dyc23, Dyc24, Dyc6, Dyc59, Dyc26, Dyc7. -/
import Derived.Test.YtkgkgcojfocomaaGreatE11
import Derived.Test.YtkgkgcojfocomaaGreatE25
set_option linter.unusedVariables false
set_option linter.unusedSimpArgs false
namespace Go.Ev
open Go.Proofs Ty
set_option maxRecDepth 10000
set_option maxHeartbeats 4000000
attribute [local go_sem] qbe qbg qcg qc2 qb7 qde qdo qei Int.toNat_natCast qdd qd7 qer qcv qch qbn qb2 decI List.length_map nc0 qbf qbm q05 qb5 qc8 qds qbw qb3 qec qe9 q06 qbx qcq qdc qb6 qci qdt qed qbp qc5 qee qfa qb1 qbr qcu qda qcs qeg qdb qct qeh qc9 qcr qef List.length_take qck Int.toNat_zero Nat.sub_zero List.drop_zero q0g q0y qdf qdy q0u q00 qba qbh qcy qcz List.length_set Nat.le_refl qc0 qcm q0r q0w qb4 qcl qcn qdu qdz qd4 qgm qjs qlh qjt qju qlo qjx qjy qea
attribute [local go_sem ←] List.map_take List.map_drop
noncomputable def cfg53 : Cfg := ⟨Tryz.prog, 27, tab5, mvz, [], (fun _ => none)⟩
theorem qbpn : cfg53.pins = [] ∧ cfg53.P = Tryz.prog ∧ cfg53.N = 27 ∧ cfg53.ti = fun _ => none := ⟨rfl, rfl, rfl, rfl⟩
section
attribute [local go_sem] qbpn
attribute [local go_sem] qrw qdi
theorem qbzu (hC : COk cfg53) (us : List AUnit) (hp : us.length ≤ 1000 ∧ ∀ u ∈ us, 1 ≤ u.unit ∧ u.unit ≤ 999) : Sem Tryz.prog 53 [.d (.mp (us.map keyU) (us.map fun u => .cp (qdi u)))] (.d (.sl 1 ((qqf us).map (D.i .i64)))) := by
  have hsl := qrw (us.map (·.unit))
  rw [List.length_map] at hsl
  refine q0f (C := cfg53) (rs := [.tmp 2]) (fun _ => []) Tryz.func53 rfl rfl rfl rfl rfl rfl ?_
  refine inQ ?_
  repeat' first
  | (refine AW.keysSorted (t := 3) (tR := 3) (ks := us.map (·.unit)) (xs := us.map fun u => .cp (qdi u)) hC Tryz.underlying3 ⟨_, Tryz.func84, rfl, rfl⟩ ⟨_, Tryz.func83, rfl, rfl⟩ cKz cSz rfl rfl rfl rfl rfl rfl rfl rfl rfl (by show _ < 27; decide) (by show _ < 27; decide) (by show _ < 27; decide) (by rw [← qbge]; rfl) rfl rfl rfl (by rw [List.length_map]; omega) (qbnf hp.2) ?_)
  | (with_reducible first | apply q0l | apply q0c | apply AW.seq | apply AW.block | apply AW.skip | apply AW.exit | apply AW.ret | apply q0m | apply q0n | apply q0d | apply q0e | refine q0b rfl ?_ | apply q0o | apply q0p | apply And.intro)
  | (refine AW.atR 5 rfl ?_; obtain ⟨kx, ux, hk1, hk2, hk3, hk4⟩ := qbr3 (us := us) (j := i) (by omega); refine AWh.mk ?_; refine AW.lookP (kt := 3) (et := 99) (kk := us.map keyU) (xs := us.map fun u => .cp (qdi u)) (k := .i .i64 ((qft (us.map (·.unit))).getD i 0)) (x := .cp (qdi ux)) (j := kx) hC (by show mapT Tryz.prog 65 = some (3, 99); kernel_rfl) (by show qcp Tryz.prog 99 = some [.np]; kernel_rfl) rfl rfl rfl rfl rfl rfl rfl rfl rfl (by show _ < 27; decide) (by show _ < 27; decide) (by show _ < 27; decide) (by decide) rfl rfl (by simp) rfl rfl (isK3 _) (isKU us) (by rw [qz5]; assumption) (by assumption) ?_)
  | (with_reducible first | (refine AWh.runK hC ?_; intro K hK) | (refine AWh.drawK hC (by kernel_rfl) ?_; intro K hK))
  | (with_reducible refine AW.runK hC ?_; intro K hK)
  | ((with_reducible first | refine q0t ?_ | refine q0k ?_); (first | (simp (maxSteps := 1000000) only [go_sem, ↓reduceIte, reduceCtorEq, Nat.reduceEqDiff, Nat.reduceLT, Nat.reduceLeDiff, Nat.reduceMul, Nat.reduceAdd, Nat.reduceSub, reduceDIte, Nat.reduceBEq, Nat.reduceBNe, hk4]) | (refine siQ ?_)); (try simp (disch := omega) only [w64, wu8]))
  | ((first | refine AW.cond rfl (fun h => ?_) fun h => ?_ | refine AW.cond_ub rfl (fun h => ?_) ?_ | refine AW.cond_nb rfl ?_ fun h => ?_) <;> (try replace h := q0a h) <;> try (exfalso; first | omega | exact absurd h (by decide)))
  | (refine AW.loopN 3 rfl (ι := Nat) (fun i => mkS [(0, V.d (.mp (us.map keyU) (us.map fun u => .cp (qdi u)))), (3, V.row 48 1 0 (opn us ((qft (us.map (·.unit))).take i)).length), (8, V.d (.sl 1 ((qft (us.map (·.unit))).map (D.i .i64)))), (9, V.d (.i .i64 (us.length : Int))), (10, V.d (.i .i64 (i : Int)))] ([(48, .live (.row 3 1 false ((opn us ((qft (us.map (·.unit))).take i)).map (D.i .i64))))])) (fun i => i ≤ us.length) (fun i => us.length - i) (0) ?_ ?_ (fun i hi => ?_) <;> (try dsimp only) <;> (try dsimp only at hi))
  | (refine LoopNext.mk1 3 (i + 1) ?_ ?_ ?_ <;> (try dsimp only))
  | (refine q0h ?_; refine subQ ?_)
  | (subst hK)
  | exact trivial
  all_goals try (intros; assumption)
  all_goals try refine q0v ?_
  all_goals try replace hp := q0a hp
  all_goals try replace hi := q0a hi
  all_goals try (intros; first | trivial | omega)
  all_goals (try (rw [w64 (by omega) (by omega)]; first | done | omega))
  all_goals clear hC
  all_goals (try have OL : (opn us ((qft (us.map (·.unit))).take i)).length ≤ 1000 := Nat.le_trans (qbne us _) (by rw [List.length_take]; omega))
  all_goals first
  | omega
  | (intro d hd; subst hd; exact ⟨rfl, by simp [D.cells, D.one]⟩)
  | (rw [List.take_of_length_le (by omega)]; exact q0q _)
  | (rw [q5i (by omega) (by rw [hk4]; assumption), List.length_append]; rfl)
  | (rw [q5i (by omega) (by rw [hk4]; assumption), List.map_append]; exact q0q _)
  | (rw [qbr2 (by omega) (by rw [hk4]; assumption)]; first | done | exact q0q _)
end
noncomputable def cfg58 : Cfg := ⟨Tryz.prog, 17, q9e, mvz, [], (fun _ => none)⟩
theorem qbpo : cfg58.pins = [] ∧ cfg58.P = Tryz.prog ∧ cfg58.N = 17 ∧ cfg58.ti 57 = none ∧ cfg58.T 57 = e57 ∧ cfg58.mv 57 = (fun _ => []) := by and_intros <;> exact rfl
section
attribute [local go_sem] qbpo e57
theorem qbzv (hC : COk cfg58) (l : List Entry) (hp : l.length ≤ 1000000) : Sem Tryz.prog 58 [.d (.sl 8 (l.map q0r))] (.d (.sl 1 ((qcj l).map (D.i .i64)))) := by
  refine q0f (C := cfg58) (rs := [.tmp 2]) (fun _ => []) Tryz.func58 rfl rfl rfl rfl rfl rfl ?_
  refine inQ ?_
  repeat' first
  | (with_reducible first | apply q0l | apply q0c | apply AW.seq | apply AW.block | apply AW.skip | apply AW.exit | apply AW.ret | apply q0m | apply q0n | apply q0d | apply q0e | refine q0b rfl ?_ | apply q0o | apply q0p | apply And.intro)
  | (with_reducible refine AW.runK hC ?_; intro K hK)
  | ((with_reducible first | refine q0t ?_ | refine q0k ?_); refine siQ ?_; (try simp (disch := omega) only [w64, wu8]))
  | ((first | refine AW.cond rfl (fun h => ?_) fun h => ?_ | refine AW.cond_ub rfl (fun h => ?_) ?_ | refine AW.cond_nb rfl ?_ fun h => ?_) <;> (try replace h := q0a h) <;> try (exfalso; first | omega | exact absurd h (by decide)))
  | (refine AW.loopN 3 rfl (ι := Nat) (fun i => mkS [(0, V.d (.sl 8 (l.map q0r))), (3, V.row 48 1 0 (qhs l i).length), (4, V.d (.i .i64 ((i : Int) + 1)))] ([(48, .live (.row 3 1 false ((qhs l i).map (D.i .i64))))])) (fun i => i ≤ 999) (fun i => 999 - i) (0) ?_ ?_ (fun i hi => ?_) <;> (try dsimp only) <;> (try dsimp only at hi))
  | (refine LoopNext.mk1 3 (i + 1) ?_ ?_ ?_ <;> (try dsimp only))
  | (refine q0h ?_; refine subQ ?_)
  | (subst hK)
  | exact trivial
  all_goals try (intros; assumption)
  all_goals try refine q0v ?_
  all_goals try replace hp := q0a hp
  all_goals try replace hi := q0a hi
  all_goals try (intros; first | trivial | omega)
  all_goals (try (rw [w64 (by omega) (by omega)]; first | done | omega))
  all_goals clear hC
  all_goals (try have OL := qvm l i)
  all_goals first
  | omega
  | (intro d hd; subst hd; exact ⟨rfl, by simp [D.cells, D.one]⟩)
  | (rw [qvl (by assumption), List.length_append]; rfl)
  | (rw [qvl (by assumption), List.map_append]; exact q0q _)
  | (rw [qbbu (by assumption)]; first | done | exact q0q _)
  | (rw [← q20, show (999 : Nat) = i by omega]; exact q0q _)
end
noncomputable def cfg21 : Cfg := ⟨Tryz.prog, 37, q9f, mvz, [], (fun _ => none)⟩
theorem qbpp : cfg21.pins = [] ∧ cfg21.P = Tryz.prog ∧ cfg21.N = 37 ∧ cfg21.T 34 = e34 ∧ cfg21.mv 34 = (fun _ => []) ∧ cfg21.T 35 = e35 ∧ cfg21.mv 35 = (fun _ => []) ∧ cfg21.T 36 = e36z ∧ cfg21.mv 36 = (fun _ => []) ∧ cfg21.T 53 = e53 ∧ cfg21.mv 53 = (fun _ => []) ∧ cfg21.T 54 = e54 ∧ cfg21.mv 54 = (fun _ => []) ∧ cfg21.ti = fun _ => none := by and_intros <;> exact rfl
section
attribute [local go_sem] qbpp e34 e35 e36z e53 e54
attribute [local go_sem] qg8 dWZ1 dWZ2 dWZ3 dWZ4 dWZ5 dUs
theorem qbzw (hC : COk cfg21) (ts : List Table) (l : List Entry) (hp : okTs ts ∧ l.length ≤ 1000000) : Sem Tryz.prog 21 [.d (.sl 6 (ts.map q0g)), .d (.sl 8 (l.map q0r))] (.tup [.d (.sl 6 ((qfd ts l).1.map q0g)), .d (.sl 1 ((qfd ts l).2.1.map (D.i .i64))), .d (.i .i64 (qfd ts l).2.2)]) := by
  refine q0f (C := cfg21) (rs := [.tmp 4, .tmp 5, .tmp 6]) (fun _ => []) Tryz.func21 rfl rfl rfl rfl rfl rfl ?_
  refine inQ ?_
  repeat' first
  | (with_reducible first | apply q0l | apply q0c | apply AW.seq | apply AW.block | apply AW.skip | apply AW.exit | apply AW.ret | apply q0m | apply q0n | apply q0d | apply q0e | refine q0b rfl ?_ | apply q0o | apply q0p | apply And.intro)
  | (refine AW.atR 4 rfl ?_; have hop := qqg (ts := ts) (l := l) (by assumption))
  | (with_reducible first | (refine AWh.runK hC ?_; intro K hK) | (refine AWh.drawK hC (by kernel_rfl) ?_; intro K hK))
  | (with_reducible first | (refine AW.runK hC ?_; intro K hK) | (refine AW.drawK hC (by kernel_rfl) ?_; intro K hK))
  | ((with_reducible first | refine q0t ?_ | refine qbz ?_ | refine q0k ?_); (first | (simp (maxSteps := 1000000) only [go_sem, ↓reduceIte, reduceCtorEq, Nat.reduceEqDiff, Nat.reduceLT, Nat.reduceLeDiff, Nat.reduceMul, Nat.reduceAdd, Nat.reduceSub, reduceDIte, Nat.reduceBEq, Nat.reduceBNe, hop]) | (refine siQ ?_)); (try simp (disch := omega) only [w64, wu8]))
  | (with_reducible refine qbj (by kernel_rfl) ?_)
  | ((first | refine AW.cond rfl (fun h => ?_) fun h => ?_ | refine AW.cond_ub rfl (fun h => ?_) ?_ | refine AW.cond_nb rfl ?_ fun h => ?_) <;> (try replace h := q0a h) <;> try (exfalso; first | omega | exact absurd h (by decide)))
  | (refine q0h ?_; refine subQ ?_)
  | (subst hK)
  | exact trivial
  all_goals try (intros; assumption)
  all_goals try refine q0v ?_
  all_goals try replace hp := q0a hp
  all_goals try (intros; first | trivial | omega)
  all_goals (try (rw [w64 (by omega) (by omega)]; first | done | omega))
  all_goals clear hC
  all_goals (try have UB := qon l)
  all_goals (try have CP := qn4 (WantZ.out (qcj l)).has false l)
  all_goals (try simp only [qqg (ts := ts) (l := l) (by assumption)] at *)
  all_goals first
  | omega
  | exact hp.1
  | exact hp.2
  | exact ⟨hp.2, by show (qcj l).length ≤ 1000000; omega⟩
  | (show (qcj l).length ≤ 1000000; omega)
  | exact (qnj (by assumption)).1
  | exact (qnj (by assumption)).2
  | exact ⟨hp.1, by omega⟩
  | (rw [qbbv (by assumption)]; first | done | rfl)
  | (rw [q22 (by assumption) (by assumption)]; first | done | rfl)
  | (rw [q9c (by assumption) (by assumption)]; first | done | rfl | exact q0q _)
end
noncomputable def cfg22 : Cfg := ⟨Tryz.prog, 37, q9g, mvz, [], (fun _ => none)⟩
theorem qbpq : cfg22.pins = [] ∧ cfg22.P = Tryz.prog ∧ cfg22.N = 37 ∧ cfg22.T 34 = e34 ∧ cfg22.mv 34 = (fun _ => []) ∧ cfg22.T 35 = e35 ∧ cfg22.mv 35 = (fun _ => []) ∧ cfg22.T 36 = e36z ∧ cfg22.mv 36 = (fun _ => []) ∧ cfg22.T 53 = e53 ∧ cfg22.mv 53 = (fun _ => []) ∧ cfg22.T 56 = e56 ∧ cfg22.mv 56 = (fun _ => []) ∧ cfg22.ti = fun _ => none := by and_intros <;> exact rfl
section
attribute [local go_sem] qbpq e34 e35 e36z e53 e56
attribute [local go_sem] qg8 dWZ1 dWZ2 dWZ3 dWZ4 dWZ5 dUs
theorem qbzx (hC : COk cfg22) (ts : List Table) (l : List Entry) (hp : okTs ts ∧ l.length ≤ 1000000) : Sem Tryz.prog 22 [.d (.sl 6 (ts.map q0g)), .d (.sl 8 (l.map q0r))] (.tup [.d (.sl 6 ((qfu ts l).1.map q0g)), .d (.sl 1 ((qfu ts l).2.1.map (D.i .i64))), .d (.i .i64 (qfu ts l).2.2)]) := by
  refine q0f (C := cfg22) (rs := [.tmp 4, .tmp 5, .tmp 6]) (fun _ => []) Tryz.func22 rfl rfl rfl rfl rfl rfl ?_
  refine inQ ?_
  repeat' first
  | (with_reducible first | apply q0l | apply q0c | apply AW.seq | apply AW.block | apply AW.skip | apply AW.exit | apply AW.ret | apply q0m | apply q0n | apply q0d | apply q0e | refine q0b rfl ?_ | apply q0o | apply q0p | apply And.intro)
  | (refine AW.atR 4 rfl ?_; have hop := qqg (ts := ts) (l := l) (by assumption))
  | (with_reducible first | (refine AWh.runK hC ?_; intro K hK) | (refine AWh.drawK hC (by kernel_rfl) ?_; intro K hK))
  | (with_reducible first | (refine AW.runK hC ?_; intro K hK) | (refine AW.drawK hC (by kernel_rfl) ?_; intro K hK))
  | ((with_reducible first | refine q0t ?_ | refine qbz ?_ | refine q0k ?_); (first | (simp (maxSteps := 1000000) only [go_sem, ↓reduceIte, reduceCtorEq, Nat.reduceEqDiff, Nat.reduceLT, Nat.reduceLeDiff, Nat.reduceMul, Nat.reduceAdd, Nat.reduceSub, reduceDIte, Nat.reduceBEq, Nat.reduceBNe, hop]) | (refine siQ ?_)); (try simp (disch := omega) only [w64, wu8]))
  | (with_reducible refine qbj (by kernel_rfl) ?_)
  | ((first | refine AW.cond rfl (fun h => ?_) fun h => ?_ | refine AW.cond_ub rfl (fun h => ?_) ?_ | refine AW.cond_nb rfl ?_ fun h => ?_) <;> (try replace h := q0a h) <;> try (exfalso; first | omega | exact absurd h (by decide)))
  | (refine q0h ?_; refine subQ ?_)
  | (subst hK)
  | exact trivial
  all_goals try (intros; assumption)
  all_goals try refine q0v ?_
  all_goals try replace hp := q0a hp
  all_goals try (intros; first | trivial | omega)
  all_goals (try (rw [w64 (by omega) (by omega)]; first | done | omega))
  all_goals clear hC
  all_goals (try have UB := qon l)
  all_goals (try have CP := qn4 (WantZ.inn (qcj l)).has true l)
  all_goals (try simp only [qqg (ts := ts) (l := l) (by assumption)] at *)
  all_goals first
  | omega
  | exact hp.1
  | exact hp.2
  | exact ⟨hp.2, by show (qcj l).length ≤ 1000000; omega⟩
  | (show (qcj l).length ≤ 1000000; omega)
  | exact (qnj (by assumption)).1
  | exact (qnj (by assumption)).2
  | exact ⟨hp.1, by omega⟩
  | (rw [qbbw (by assumption)]; first | done | rfl)
  | (rw [q23 (by assumption) (by assumption)]; first | done | rfl)
  | (rw [q9d (by assumption) (by assumption)]; first | done | rfl | exact q0q _)
end
noncomputable def cfg23 : Cfg := ⟨Tryz.prog, 58, q9h, mvz, [], (fun _ => none)⟩
theorem qbpr : cfg23.pins = [] ∧ cfg23.P = Tryz.prog ∧ cfg23.N = 58 ∧ cfg23.T 39 = e39 ∧ cfg23.mv 39 = (fun _ => []) ∧ cfg23.T 42 = e42 ∧ cfg23.mv 42 = (fun _ => []) ∧ cfg23.T 57 = e57 ∧ cfg23.mv 57 = (fun _ => []) ∧ cfg23.T 58 = e58 ∧ cfg23.mv 58 = (fun _ => []) ∧ cfg23.ti = fun _ => none := by and_intros <;> exact rfl
section
attribute [local go_sem] qbpr e39 e42 e57 e58
attribute [local go_sem] qfc
theorem qbzy (hC : COk cfg23) (ts : List Table) (l : List Entry) (hp : okTs ts ∧ l.length ≤ 1000000) : Sem Tryz.prog 23 [.d (.sl 6 (ts.map q0g)), .d (.sl 8 (l.map q0r))] (.d (qd4 (ansW (qfd ts l)))) := by
  refine q0f (C := cfg23) (rs := [.cell 4 33]) (fun _ => []) Tryz.func23 rfl rfl rfl rfl rfl rfl ?_
  refine inQ ?_
  repeat' first
  | (with_reducible first | apply q0l | apply q0c | apply AW.seq | apply AW.block | apply AW.skip | apply AW.exit | apply AW.ret | apply q0m | apply q0n | apply q0d | apply q0e | refine q0b rfl ?_ | apply q0o | apply q0p | apply And.intro)
  | (with_reducible first | (refine AW.runK hC ?_; intro K hK) | (refine AW.drawK hC (by kernel_rfl) ?_; intro K hK))
  | ((with_reducible first | refine q0t ?_ | refine qbz ?_ | refine q0k ?_); refine siQ ?_; (try simp (disch := omega) only [w64, wu8]))
  | (with_reducible refine qbj (by kernel_rfl) ?_)
  | ((first | refine AW.cond rfl (fun h => ?_) fun h => ?_ | refine AW.cond_ub rfl (fun h => ?_) ?_ | refine AW.cond_nb rfl ?_ fun h => ?_) <;> (try replace h := q0a h) <;> try (exfalso; first | omega | exact absurd h (by decide)))
  | (refine AW.loopN 6 rfl (ι := Nat) (fun i => mkS [(0, V.d (.sl 6 (ts.map q0g))), (1, V.d (.sl 8 (l.map q0r))), (4, V.ptr 64 0), (6, V.row 96 5 0 (qff (wP l) false (l.take i)).length), (7, V.d (.i .i64 (i : Int)))] ([(64, .live (.box 33 [.d .nil, .d (.i .i64 0), .d .nil, .d (.i .i64 0)])), (96, .live (.row 48 5 false ((qff (wP l) false (l.take i)).map q0u)))])) (fun i => i ≤ l.length ∧ chkE ts l = 0) (fun i => l.length - i) (0) ?_ ?_ (fun i hi => ?_) <;> (try dsimp only) <;> (try dsimp only at hi))
  | (refine LoopNext.mk1 6 (i + 1) ?_ ?_ ?_ <;> (try dsimp only))
  | (refine q0h ?_; refine subQ ?_)
  | (subst hK)
  | exact trivial
  all_goals try (intros; assumption)
  all_goals try refine q0v ?_
  all_goals try replace hp := q0a hp
  all_goals try replace hi := q0a hi
  all_goals try (intros; first | trivial | omega)
  all_goals (try (rw [w64 (by omega) (by omega)]; first | done | omega))
  all_goals clear hC
  all_goals (try simp only [qjr] at *)
  all_goals (try have CL := qmx (p := wP l) (back := false) (l := l) (i := i))
  all_goals first
  | omega
  | exact hp.1
  | exact hp.2
  | exact q0q _
  | (rw [qbr4 (by assumption)]; first | done | rfl)
  | (intro d hd; subst hd; exact ⟨rfl, by simp [D.cells, D.one]⟩)
  | (rw [qk7 (by omega) h.1 (by unfold wP; rw [h.2]; rfl), List.length_append]; rfl)
  | (rw [qk7 (by omega) h.1 (by unfold wP; rw [h.2]; rfl), List.map_append]; exact q0q _)
  | (rw [qn5 (by omega) (h.imp id (fun q => by unfold wP; rw [q]; rfl))]; first | done | exact q0q _)
  | (rw [qni (by omega)] at *
     rw [qbr5 (by assumption) (by assumption)]; first | done | rfl | exact q0q _)
  | (rw [qni (by omega)] at *
     rw [qbxo (by assumption) (by assumption)]; first | done | rfl | exact q0q _)
end
noncomputable def cfg24 : Cfg := ⟨Tryz.prog, 59, q9i, mvz, [], (fun _ => none)⟩
theorem qbps : cfg24.pins = [] ∧ cfg24.P = Tryz.prog ∧ cfg24.N = 59 ∧ cfg24.T 39 = e39 ∧ cfg24.mv 39 = (fun _ => []) ∧ cfg24.T 42 = e42 ∧ cfg24.mv 42 = (fun _ => []) ∧ cfg24.T 45 = e45 ∧ cfg24.mv 45 = (fun _ => []) ∧ cfg24.T 57 = e57 ∧ cfg24.mv 57 = (fun _ => []) ∧ cfg24.T 58 = e58 ∧ cfg24.mv 58 = (fun _ => []) ∧ cfg24.ti = fun _ => none := by and_intros <;> exact rfl
section
attribute [local go_sem] qbps e39 e42 e45 e57 e58
attribute [local go_sem] qfc
theorem qbzz (hC : COk cfg24) (ts : List Table) (l : List Entry) (hp : okTs ts ∧ l.length ≤ 1000000) : Sem Tryz.prog 24 [.d (.sl 6 (ts.map q0g)), .d (.sl 8 (l.map q0r))] (.d (qd4 (ansW (qfu ts l)))) := by
  refine q0f (C := cfg24) (rs := [.cell 4 33]) (fun _ => []) Tryz.func24 rfl rfl rfl rfl rfl rfl ?_
  refine inQ ?_
  repeat' first
  | (with_reducible first | apply q0l | apply q0c | apply AW.seq | apply AW.block | apply AW.skip | apply AW.exit | apply AW.ret | apply q0m | apply q0n | apply q0d | apply q0e | refine q0b rfl ?_ | apply q0o | apply q0p | apply And.intro)
  | (with_reducible first | (refine AW.runK hC ?_; intro K hK) | (refine AW.drawK hC (by kernel_rfl) ?_; intro K hK))
  | ((with_reducible first | refine q0t ?_ | refine qbz ?_ | refine q0k ?_); refine siQ ?_; (try simp (disch := omega) only [w64, wu8]))
  | (with_reducible refine qbj (by kernel_rfl) ?_)
  | ((first | refine AW.cond rfl (fun h => ?_) fun h => ?_ | refine AW.cond_ub rfl (fun h => ?_) ?_ | refine AW.cond_nb rfl ?_ fun h => ?_) <;> (try replace h := q0a h) <;> try (exfalso; first | omega | exact absurd h (by decide)))
  | (refine AW.loopN 6 rfl (ι := Nat) (fun j => mkS [(0, V.d (.sl 6 (ts.map q0g))), (1, V.d (.sl 8 (l.map q0r))), (4, V.ptr 64 0), (6, V.row 96 5 0 (qjd (oP l) l j).length), (7, V.d (.i .i64 ((j : Int) - 1)))] ([(64, .live (.box 33 [.d .nil, .d (.i .i64 0), .d .nil, .d (.i .i64 0)])), (96, .live (.row 48 5 false ((qjd (oP l) l j).map q0u)))])) (fun j => j ≤ l.length ∧ chkE ts l = 0) (fun j => j) (l.length) ?_ ?_ (fun j hi => ?_) <;> (try dsimp only) <;> (try dsimp only at hi))
  | (refine LoopNext.mk1 6 (j - 1) ?_ ?_ ?_ <;> (try dsimp only))
  | (refine q0h ?_; refine subQ ?_)
  | (subst hK)
  | exact trivial
  all_goals try (intros; assumption)
  all_goals try refine q0v ?_
  all_goals try replace hp := q0a hp
  all_goals try replace hi := q0a hi
  all_goals try (intros; first | trivial | omega)
  all_goals (try (rw [w64 (by omega) (by omega)]; first | done | omega))
  all_goals clear hC
  all_goals (try simp only [qjr] at *)
  all_goals (try have CL := qbbx (oP l) l j)
  all_goals first
  | omega
  | exact hp.1
  | exact hp.2
  | exact q0q _
  | (rw [qbr6 (by assumption)]; first | done | rfl)
  | (intro d hd; subst hd; exact ⟨rfl, by simp [D.cells, D.one]⟩)
  | (rw [q4c (Nat.le_refl _)]; rfl)
  | (rw [qyi (j := j - 1) (by omega) h.1 h.2, show j - 1 + 1 = j by omega, List.length_append]; rfl)
  | (rw [qyi (j := j - 1) (by omega) h.1 h.2, show j - 1 + 1 = j by omega, List.map_append]; exact q0q _)
  | (rw [qbgb (j := j - 1) (by omega) h, show j - 1 + 1 = j by omega]; first | done | exact q0q _)
  | (obtain rfl : j = 0 := by omega
     have e := qyj (p := oP l) (qfj (ts := ts) (l := l) (by assumption)).2
     rw [e] at h
     try rw [e]
     rw [qbr7 (by assumption) h]; first | done | rfl | exact q0q _)
  | (obtain rfl : j = 0 := by omega
     have e := qyj (p := oP l) (qfj (ts := ts) (l := l) (by assumption)).2
     rw [e] at h
     try rw [e]
     rw [qbxp (by assumption) h]; first | done | rfl | exact q0q _)
end
noncomputable def cfg6 : Cfg := ⟨Tryz.prog, 65, q9j, mvz, [], (fun _ => none)⟩
theorem qbub : cfg6.pins = [] ∧ cfg6.P = Tryz.prog ∧ cfg6.N = 65 ∧ cfg6.T 8 = e8 ∧ cfg6.mv 8 = (fun _ => []) ∧ cfg6.T 9 = e9 ∧ cfg6.mv 9 = (fun _ => []) ∧ cfg6.T 11 = e11 ∧ cfg6.mv 11 = (fun _ => []) ∧ cfg6.T 12 = e12 ∧ cfg6.mv 12 = (fun _ => []) ∧ cfg6.T 14 = e14 ∧ cfg6.mv 14 = (fun _ => []) ∧ cfg6.T 21 = e21 ∧ cfg6.mv 21 = (fun _ => []) ∧ cfg6.T 22 = e22 ∧ cfg6.mv 22 = (fun _ => []) ∧ cfg6.T 23 = e23 ∧ cfg6.mv 23 = (fun _ => []) ∧ cfg6.T 24 = e24 ∧ cfg6.mv 24 = (fun _ => []) ∧ cfg6.T 25 = e25 ∧ cfg6.mv 25 = (fun _ => []) ∧ cfg6.ti = fun _ => none := by and_intros <;> exact rfl
section
attribute [local go_sem] qbub e8 e9 e11 e12 e14 e21 e22 e23 e24 e25
attribute [local go_sem] ansW
theorem con6 (hC : COk cfg6) (ts : List Table) (l : List Entry) : Sem Tryz.prog 6 [.d (.sl 6 (ts.map q0g)), .d (.sl 8 (l.map q0r))] (.d (.b true)) := by
  refine q0f (C := cfg6) (rs := [.tmp 4]) (fun _ => []) Tryz.func6 rfl rfl rfl rfl rfl rfl ?_
  refine inQ ?_
  repeat' first
  | (with_reducible first | apply q0l | apply q0c | apply AW.seq | apply AW.block | apply AW.skip | apply AW.exit | apply AW.ret | apply q0m | apply q0n | apply q0d | apply q0e | refine q0b rfl ?_ | apply q0o | apply q0p | apply And.intro)
  | (with_reducible refine AW.runK hC ?_; intro K hK)
  | ((with_reducible first | refine q0t ?_ | refine q0k ?_); refine siQ ?_; (try simp (disch := omega) only [w64, wu8]))
  | ((first | refine AW.cond rfl (fun h => ?_) fun h => ?_ | refine AW.cond_ub rfl (fun h => ?_) ?_ | refine AW.cond_nb rfl ?_ fun h => ?_) <;> (try replace h := q0a h) <;> try (exfalso; first | omega | exact absurd h (by decide)))
  | (refine q0h ?_; refine subQ ?_)
  | (subst hK)
  | exact trivial
  all_goals try (intros; assumption)
  all_goals try refine q0v ?_
  all_goals try (intros; first | trivial | omega)
  all_goals (try (rw [w64 (by omega) (by omega)]; first | done | omega))
  all_goals clear hC
  all_goals (try have HF : qhe ts = true ∧ qld l = true := by grind)
  all_goals (try have FL := qmp HF.2)
  all_goals (try have FT := (qkt HF.1).1)
  all_goals first
  | omega
  | exact FT
  | exact FT.1
  | exact qnk FT
  | exact qoo FT
  | exact fun _ => qnk FT
  | exact fun _ => qoo FT
  | (have := whU ts l; omega)
  | (have := opU ts l; omega)
  | (intro _; have := whU ts l; omega)
  | (intro _; have := opU ts l; omega)
  | exact qfs FT
  | exact qhi FT
  | exact fun _ => qfs FT
  | exact fun _ => qhi FT
  | exact fun _ => ⟨FT.1, by omega⟩
end
noncomputable def cfg59 : Cfg := ⟨Tryz.prog, 19, tab6, mvz, [], (fun _ => none)⟩
theorem qbpt : cfg59.pins = [] ∧ cfg59.P = Tryz.prog ∧ cfg59.N = 19 := ⟨rfl, rfl, rfl⟩
section
attribute [local go_sem] qbpt
theorem qbz0 (hC : COk cfg59) (l : List Int) (v : Int) (hp : l.length ≤ 1000000) : Sem Tryz.prog 59 [.d (.sl 1 (l.map (D.i .i64))), .d (.i .i64 v)] (.d (.i .i64 (idxZ l v))) := by
  refine q0f (C := cfg59) (rs := [.tmp 4]) (fun _ => []) Tryz.func59 rfl rfl rfl rfl rfl rfl ?_
  refine inQ ?_
  repeat' first
  | (with_reducible first | apply q0l | apply q0c | apply AW.seq | apply AW.block | apply AW.skip | apply AW.exit | apply AW.ret | apply q0m | apply q0n | apply q0d | apply q0e | refine q0b rfl ?_ | apply q0o | apply q0p | apply And.intro)
  | (with_reducible refine AW.runK hC ?_; intro K hK)
  | ((with_reducible first | refine q0t ?_ | refine q0k ?_); refine siQ ?_; (try simp (disch := omega) only [w64, wu8]))
  | ((first | refine AW.cond rfl (fun h => ?_) fun h => ?_ | refine AW.cond_ub rfl (fun h => ?_) ?_ | refine AW.cond_nb rfl ?_ fun h => ?_) <;> (try replace h := q0a h) <;> try (exfalso; first | omega | exact absurd h (by decide)))
  | (refine AW.loopN 2 rfl (ι := Nat) (fun i => mkS [(0, V.d (.sl 1 (l.map (D.i .i64)))), (1, V.d (.i .i64 v)), (5, V.d (.i .i64 (i : Int)))] ([])) (fun i => i ≤ l.length ∧ (l.take i).findIdx? (· == v) = none) (fun i => l.length - i) (0) ?_ ?_ (fun i hi => ?_) <;> (try dsimp only) <;> (try dsimp only at hi))
  | (refine LoopNext.mk1 2 (i + 1) ?_ ?_ ?_ <;> (try dsimp only))
  | (refine q0h ?_; refine subQ ?_)
  | (subst hK)
  | exact trivial
  all_goals try (intros; assumption)
  all_goals try refine q0v ?_
  all_goals try replace hp := q0a hp
  all_goals try replace hi := q0a hi
  all_goals try (intros; first | trivial | omega)
  all_goals (try (rw [w64 (by omega) (by omega)]; first | done | omega))
  all_goals clear hC
  all_goals first
  | rfl
  | (rw [q2v hi.2 (by omega) (by first | assumption | (symm; assumption))]; done)
  | exact qyg hi.2 (by omega) (by first | assumption | (intro q; exact h q.symm))
  | (rw [q2w hi.2 (by omega)]; done)
end
noncomputable def cfg26 : Cfg := ⟨Tryz.prog, 86, q9m, mvz, [], (fun _ => none)⟩
theorem qbpu : cfg26.pins = [] ∧ cfg26.P = Tryz.prog ∧ cfg26.N = 86 ∧ cfg26.ti 59 = none ∧ cfg26.T 59 = e59 ∧ cfg26.mv 59 = (fun _ => []) := by and_intros <;> exact rfl
section
attribute [local go_sem] qbpu e59
theorem qbz1 (hC : COk cfg26) (l : List Entry) (us : List Int) (hp : l.length ≤ 1000000 ∧ us.length ≤ 1000000) : Sem Tryz.prog 26 [.d (.sl 8 (l.map q0r)), .d (.sl 1 (us.map (D.i .i64)))] (.d (.b (qii l us))) := by
  refine q0f (C := cfg26) (rs := [.tmp 4]) (fun _ => []) Tryz.func26 rfl rfl rfl rfl rfl rfl ?_
  refine inQ ?_
  repeat' first
  | (with_reducible first | apply q0l | apply q0c | apply AW.seq | apply AW.block | apply AW.skip | apply AW.exit | apply AW.ret | apply q0m | apply q0n | apply q0d | apply q0e | refine q0b rfl ?_ | apply q0o | apply q0p | apply And.intro)
  | (with_reducible first | (refine AW.runK hC ?_; intro K hK) | (refine AW.drawK hC (by kernel_rfl) ?_; intro K hK))
  | ((with_reducible first | refine q0t ?_ | refine qbz ?_ | refine q0k ?_); refine siQ ?_; (try simp (disch := omega) only [w64, wu8]))
  | (with_reducible refine qbj (by kernel_rfl) ?_)
  | ((first | refine AW.cond rfl (fun h => ?_) fun h => ?_ | refine AW.cond_ub rfl (fun h => ?_) ?_ | refine AW.cond_nb rfl ?_ fun h => ?_) <;> (try replace h := q0a h) <;> try (exfalso; first | omega | exact absurd h (by decide)))
  | (refine AW.loopN 2 rfl (ι := Nat) (fun i => mkS [(0, V.d (.sl 8 (l.map q0r))), (1, V.d (.sl 1 (us.map (D.i .i64)))), (5, V.d (.i .i64 (i : Int)))] ([])) (fun i => i ≤ l.length ∧ ∀ j, j < i → qkj l us j = 0) (fun i => l.length - i) (0) ?_ ?_ (fun i hi => ?_) <;> (try dsimp only) <;> (try dsimp only at hi))
  | (refine LoopNext.mk1 2 (i + 1) ?_ ?_ ?_ <;> (try dsimp only))
  | (refine AW.loopN 6 rfl (ι := Nat) (fun k => mkS [(0, V.d (.sl 8 (l.map q0r))), (1, V.d (.sl 1 (us.map (D.i .i64)))), (5, V.d (.i .i64 (i : Int))), (6, V.d (.i .i64 (k : Int)))] ([])) (fun k => k ≤ l.length ∧ i < k ∧ ¬(¬(l.getD i q0i).kind = 0 ∨ idxZ us (l.getD i q0i).unit = -1) ∧ ∀ m, i < m → m < k → hitC (l.getD i q0i) (l.getD m q0i) = false) (fun k => l.length - k) (i + 1) ?_ ?_ (fun k hk => ?_) <;> (try dsimp only) <;> (try dsimp only at hk))
  | (refine LoopNext.mk1 6 (k + 1) ?_ ?_ ?_ <;> (try dsimp only))
  | (refine q0h ?_; refine subQ ?_)
  | (subst hK)
  | exact trivial
  all_goals try (intros; assumption)
  all_goals try refine q0v ?_
  all_goals try replace hp := q0a hp
  all_goals try replace hi := q0a hi
  all_goals try replace hk := q0a hk
  all_goals try (intros; first | trivial | omega)
  all_goals (try (rw [w64 (by omega) (by omega)]; first | done | omega))
  all_goals clear hC
  all_goals first
  | omega
  | exact hp.2
  | exact qes hi.2 (qbgh (by assumption))
  | exact qes hi.2 (qbgi hk.2.2.2 (by omega))
  | (rw [qbni hi.2 (by omega)]; done)
  | (rw [qbnh hi.2 (by omega) hk.2.2.1 hk.2.1 (by omega) (qts.2 (by grind))]; done)
  | (intro m h1 h2
     by_cases e : m = k
     · subst e
       rw [Bool.eq_false_iff]
       intro q
       have := qts.1 q
       grind
     · exact hk.2.2.2 m h1 (by omega))
  | (intro m h1 h2; omega)
end
noncomputable def cfg7 : Cfg := ⟨Tryz.prog, 78, qbi5, mvz, [], (fun _ => none)⟩
theorem qbuc : cfg7.pins = [] ∧ cfg7.P = Tryz.prog ∧ cfg7.N = 78 ∧ cfg7.T 8 = e8 ∧ cfg7.mv 8 = (fun _ => []) ∧ cfg7.T 9 = e9 ∧ cfg7.mv 9 = (fun _ => []) ∧ cfg7.T 10 = e10 ∧ cfg7.mv 10 = (fun _ => []) ∧ cfg7.T 11 = e11 ∧ cfg7.mv 11 = (fun _ => []) ∧ cfg7.T 12 = e12 ∧ cfg7.mv 12 = (fun _ => []) ∧ cfg7.T 21 = e21 ∧ cfg7.mv 21 = (fun _ => []) ∧ cfg7.T 22 = e22 ∧ cfg7.mv 22 = (fun _ => []) ∧ cfg7.T 25 = e25 ∧ cfg7.mv 25 = (fun _ => []) ∧ cfg7.T 26 = e26 ∧ cfg7.mv 26 = (fun _ => []) ∧ cfg7.T 27 = e27 ∧ cfg7.mv 27 = (fun _ => []) ∧ cfg7.ti = fun _ => none := by and_intros <;> exact rfl
section
attribute [local go_sem] qbuc e8 e9 e10 e11 e12 e21 e22 e25 e26 e27
attribute [local go_sem] ansW
theorem con7 (hC : COk cfg7) (ts : List Table) (l : List Entry) : Sem Tryz.prog 7 [.d (.sl 6 (ts.map q0g)), .d (.sl 8 (l.map q0r))] (.d (.b true)) := by
  refine q0f (C := cfg7) (rs := [.tmp 4]) (fun _ => []) Tryz.func7 rfl rfl rfl rfl rfl rfl ?_
  refine inQ ?_
  repeat' first
  | (with_reducible first | apply q0l | apply q0c | apply AW.seq | apply AW.block | apply AW.skip | apply AW.exit | apply AW.ret | apply q0m | apply q0n | apply q0d | apply q0e | refine q0b rfl ?_ | apply q0o | apply q0p | apply And.intro)
  | (refine AW.atR 5 rfl ?_; have HF : qhe ts = true ∧ qld l = true := (by grind); have FL := qmp HF.2; have FT := (qkt HF.1).1; have hj : ((l.length : Int) - 1).toNat = l.length - 1 := (by omega))
  | (with_reducible first | (refine AWh.runK hC ?_; intro K hK) | (refine AWh.drawK hC (by kernel_rfl) ?_; intro K hK))
  | (with_reducible first | (refine AW.runK hC ?_; intro K hK) | (refine AW.drawK hC (by kernel_rfl) ?_; intro K hK))
  | ((with_reducible first | refine q0t ?_ | refine qbz ?_ | refine q0k ?_); (first | (simp (maxSteps := 1000000) only [go_sem, ↓reduceIte, reduceCtorEq, Nat.reduceEqDiff, Nat.reduceLT, Nat.reduceLeDiff, Nat.reduceMul, Nat.reduceAdd, Nat.reduceSub, reduceDIte, Nat.reduceBEq, Nat.reduceBNe, hj]) | (refine siQ ?_)); (try simp (disch := omega) only [w64, wu8]))
  | (with_reducible refine qbj (by kernel_rfl) ?_)
  | ((first | refine AW.cond rfl (fun h => ?_) fun h => ?_ | refine AW.cond_ub rfl (fun h => ?_) ?_ | refine AW.cond_nb rfl ?_ fun h => ?_) <;> (try replace h := q0a h) <;> try (exfalso; first | omega | exact absurd h (by decide)))
  | (refine q0h ?_; refine subQ ?_)
  | (subst hK)
  | exact trivial
  all_goals try (intros; assumption)
  all_goals try refine q0v ?_
  all_goals try replace hj := q0a hj
  all_goals try (intros; first | trivial | omega)
  all_goals (try (rw [w64 (by omega) (by omega)]; first | done | omega))
  all_goals clear hC
  all_goals first
  | omega
  | exact FT
  | exact FT.1
  | exact qfs FT
  | exact qnk FT
  | exact qoo (qfs FT)
  | exact fun _ => qfs FT
  | exact fun _ => qnk FT
  | exact fun _ => qoo (qfs FT)
  | exact fun _ => ⟨FT.1, by omega⟩
  | (have := whU ts l; omega)
  | (intro _; have := whU ts l; omega)
  | (intro _; intro _; have := whU ts l; omega)
  | (have CL := qbb2 (ts := ts) (l := l) (by assumption) h.1 h.2
     rw [CL.1, CL.2.1]
     generalize qfu (qew ts l (l.getD (l.length - 1) q0i).number).1 l = X at *
     generalize hc : qii l (qcj l) = b at *
     cases b with
     | true => rw [decide_eq_true rfl, Bool.true_or]; rfl
     | false => rw [decide_eq_true rfl, CL.2.2 rfl]; rfl)
end
end Go.Ev
