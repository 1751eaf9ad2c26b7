/- Tools and contracts under the laws of this seat: Dyc9 to Dyc193. -/
import Derived.Test.YtkgkgcojfocomaaGreatE09
set_option linter.unusedVariables false
set_option linter.unusedSimpArgs false
namespace Go.Ev
open Go.Proofs Ty
set_option maxRecDepth 10000
set_option maxHeartbeats 4000000
noncomputable def cfg9 : Cfg := mkC 11 q8b
theorem qbs8 : cfg9.pins = [] ∧ cfg9.P = Tryz.prog ∧ cfg9.N = 11 ∧ cfg9.T 32 = e32 ∧ cfg9.T 33 = e33 ∧ cfg9.ti = (fun _ => none) ∧ cfg9.mv = fun _ _ => [] := by and_intros <;> exact rfl
section
attribute [local go_sem] qbs8 e32 e33
attribute [local go_sem] qbe qbg qcg qc2 qb7 qde qdo qei Int.toNat_natCast qdd qd7 qer qcv qch qbn qb2 decI List.length_map nc0 qbf qbm q05 qb5 qc8 qds qbw qb3 qec qe9 q06 qbx qcq qdc qb6 qci qdt qed qbp qc5 qee qfa qb1 qbr qcu qda qcs qeg qdb qct qeh qc9 qcr qef List.length_take qck Int.toNat_zero Nat.sub_zero List.drop_zero q0g q0y qdf qdy q0u q00 qba qbh qcy qcz List.length_set Nat.le_refl qc0 qcm q0r q0w qb4 qcl qcn qdu qdz
attribute [local go_sem ←] List.map_take List.map_drop
theorem con9 (hC : COk cfg9) (ts : List Table) (l : List Entry) : Sem Tryz.prog 9 [.d (.sl 6 (ts.map q0g)), .d (.sl 8 (l.map q0r))] (.d (.b (qhe ts && qld l))) := by
  refine q0f (C := cfg9) (rs := [.tmp 4]) (fun _ => []) Tryz.func9 rfl rfl rfl rfl rfl rfl ?_
  refine inQ ?_
  repeat' first
  | (with_reducible first | apply q0l | apply q0c | apply AW.seq | apply AW.block | apply AW.skip | apply AW.exit | apply AW.ret | apply q0m | apply q0n | apply q0d | apply q0e | refine q0b rfl ?_ | apply q0o | apply q0p | apply And.intro)
  | (with_reducible refine AW.runK hC ?_; intro K hK)
  | ((with_reducible first | refine q0t ?_ | refine q0k ?_); refine siQ ?_; (try simp (disch := omega) only [w64, wu8]))
  | ((first | refine AW.cond rfl (fun h => ?_) fun h => ?_ | refine AW.cond_ub rfl (fun h => ?_) ?_ | refine AW.cond_nb rfl ?_ fun h => ?_) <;> (try replace h := q0a h) <;> try (exfalso; first | omega | exact absurd h (by decide)))
  | (refine q0h ?_; refine subQ ?_)
  | (subst hK)
  | exact trivial
  all_goals try (intros; assumption)
  all_goals try refine q0v ?_
  all_goals try (intros; first | trivial | omega)
  all_goals (try (rw [w64 (by omega) (by omega)]; first | done | omega))
end
noncomputable def cfg60 : Cfg := mkC 48 tab9
theorem qbox : cfg60.pins = [] ∧ cfg60.P = Tryz.prog ∧ cfg60.N = 48 ∧ cfg60.ti 11 = none ∧ cfg60.T 11 = e11 ∧ cfg60.mv 11 = (fun _ => []) := by and_intros <;> exact rfl
section
attribute [local go_sem] qbox e11
attribute [local go_sem] qbe qbg qcg qc2 qb7 qde qdo qei Int.toNat_natCast qdd qd7 qer qcv qch qbn qb2 decI List.length_map nc0 qbf qbm q05 qb5 qc8 qds qbw qb3 qec qe9 q06 qbx qcq qdc qb6 qci qdt qed qbp qc5 qee qfa qb1 qbr qcu qda qcs qeg qdb qct qeh qc9 qcr qef List.length_take qck Int.toNat_zero Nat.sub_zero List.drop_zero q0g q0y qdf qdy q0u q00 qba qbh qcy qcz List.length_set Nat.le_refl qc0 qcm List.take_length
attribute [local go_sem ←] List.map_take List.map_drop
theorem qby4 (hC : COk cfg60) (l : List Table) (hp : okTs l) : Sem Tryz.prog 60 [.d (.sl 6 (l.map q0g))] (.d (.sl 6 ((l.map qh7).map q0g))) := by
  have hB : l.length ≤ 1000000 := hp.1
  refine q0f (C := cfg60) (rs := [.tmp 2]) (fun _ => []) Tryz.func60 rfl rfl rfl rfl rfl rfl ?_
  refine inQ ?_
  repeat' first
  | (with_reducible first | apply q0l | apply q0c | apply AW.seq | apply AW.block | apply AW.skip | apply AW.exit | apply AW.ret | apply q0m | apply q0n | apply q0d | apply q0e | refine q0b rfl ?_ | apply q0o | apply q0p | apply And.intro)
  | (refine AW.atR 5 rfl ?_; have TL := qll l i; have hg := q8c (l := l) (i := i) (by omega); have hO := hp.2 i; have hR : (l.getD i q0z).records.length ≤ 1000000 := hO.2.2)
  | (refine AW.atR 6 rfl ?_; skip)
  | (with_reducible first | (refine AWh.runK hC ?_; intro K hK) | (refine AWh.drawK hC (by kernel_rfl) ?_; intro K hK))
  | (with_reducible refine AW.runK hC ?_; intro K hK)
  | ((with_reducible first | refine q0t ?_ | refine q0k ?_); (first | (simp (maxSteps := 1000000) only [go_sem, ↓reduceIte, reduceCtorEq, Nat.reduceEqDiff, Nat.reduceLT, Nat.reduceLeDiff, Nat.reduceMul, Nat.reduceAdd, Nat.reduceSub, reduceDIte, Nat.reduceBEq, Nat.reduceBNe, hg]) | (refine siQ ?_)); (try simp (disch := omega) only [w64, wu8]))
  | ((first | refine AW.cond rfl (fun h => ?_) fun h => ?_ | refine AW.cond_ub rfl (fun h => ?_) ?_ | refine AW.cond_nb rfl ?_ fun h => ?_) <;> (try replace h := q0a h) <;> try (exfalso; first | omega | exact absurd h (by decide)))
  | (refine AW.loopN 3 rfl (ι := Nat) (fun i => mkS [(3, V.row 112 6 0 (qh8 l i).length), (4, V.d (.i .i64 (i : Int)))] ([(112, .live (.row 80 6 false ((qh8 l i).map q0g)))])) (fun i => i ≤ l.length) (fun i => l.length - i) (0) ?_ ?_ (fun i hi => ?_) <;> (try dsimp only) <;> (try dsimp only at hi))
  | (refine LoopNext.mk1 3 (i + 1) ?_ ?_ ?_ <;> (try dsimp only))
  | (refine AW.loopN 6 rfl (ι := Nat) (fun n => mkS [(3, V.row 112 6 0 (qh8 l i).length), (4, V.d (.i .i64 (i : Int))), (5, V.d (.i .i64 (n : Int)))] ([(112, .live (.row 80 6 false ((qh8 l i).map q0g)))])) (fun n => n ≤ (l.getD i q0z).records.length ∧ ∀ j, n ≤ j → j < (l.getD i q0z).records.length → ((l.getD i q0z).records.getD j zRec).deleted = true) (fun n => n) ((l.getD i q0z).records.length) ?_ ?_ (fun n hn => ?_) <;> (try dsimp only) <;> (try dsimp only at hn))
  | (refine LoopNext.mk1 6 (n - 1) ?_ ?_ ?_ <;> (try dsimp only))
  | (refine q0h ?_; refine subQ ?_)
  | (subst hK)
  | exact trivial
  all_goals try (intros; assumption)
  all_goals try refine q0v ?_
  all_goals try replace hp := q0a hp
  all_goals try replace hi := q0a hi
  all_goals try replace hj := q0a hj
  all_goals try (intros; first | trivial | omega)
  all_goals (try (rw [w64 (by omega) (by omega)]; first | done | omega))
  all_goals clear hC
  all_goals (try have TL := qll l i)
  all_goals first
  | omega
  | exact q0q _
  | (rw [q8d (by omega)]; exact q0q _)
  | (rw [qll, qll]; done)
  | (intro j hj hj2; by_cases e : n ≤ j; exact hn.2 j e hj2; (have := h.2; rw [show ((n : Int) - 1).toNat = j by omega] at this; exact this))
  | (have e := qbmt (l := (l.getD i q0z).records) hn.1 hn.2 (by rcases h with h | h; (left; omega); (by_cases h0 : n = 0; exact .inl h0; right; rw [show ((n : Int) - 1).toNat = n - 1 by omega] at h; exact h))
     rw [← q38 (by omega), List.map_set, show qh7 (l.getD i q0z) = ⟨(l.getD i q0z).file, (l.getD i q0z).records.take n⟩ from by unfold qh7; rw [e]]
     exact q0q _)
end
noncomputable def cfg27 : Cfg := mkC 14 q8e
theorem qboy : cfg27.pins = [] ∧ cfg27.P = Tryz.prog ∧ cfg27.N = 14 ∧ cfg27.T 32 = e32 ∧ cfg27.T 43 = e43 ∧ cfg27.T 60 = e60 ∧ cfg27.ti = (fun _ => none) ∧ cfg27.mv = fun _ _ => [] := by and_intros <;> exact rfl
section
attribute [local go_sem] qboy e32 e43 e60
attribute [local go_sem] qbe qbg qcg qc2 qb7 qde qdo qei Int.toNat_natCast qdd qd7 qer qcv qch qbn qb2 decI List.length_map nc0 qbf qbm q05 qb5 qc8 qds qbw qb3 qec qe9 q06 qbx qcq qdc qb6 qci qdt qed qbp qc5 qee qfa qb1 qbr qcu qda qcs qeg qdb qct qeh qc9 qcr qef List.length_take qck Int.toNat_zero Nat.sub_zero List.drop_zero q0g q0y qdf qdy q0u q00 qba qbh qcy qcz List.length_set Nat.le_refl qc0 qcm
attribute [local go_sem ←] List.map_take List.map_drop
theorem qby5 (hC : COk cfg27) (a : List Table) (b : List Table) (hp : okTs b) : Sem Tryz.prog 27 [.d (.sl 6 (a.map q0g)), .d (.sl 6 (b.map q0g))] (.d (.b (qu8 a b))) := by
  refine q0f (C := cfg27) (rs := [.tmp 4]) (fun _ => []) Tryz.func27 rfl rfl rfl rfl rfl rfl ?_
  refine inQ ?_
  repeat' first
  | (with_reducible first | apply q0l | apply q0c | apply AW.seq | apply AW.block | apply AW.skip | apply AW.exit | apply AW.ret | apply q0m | apply q0n | apply q0d | apply q0e | refine q0b rfl ?_ | apply q0o | apply q0p | apply And.intro)
  | (with_reducible refine AW.runK hC ?_; intro K hK)
  | ((with_reducible first | refine q0t ?_ | refine q0k ?_); refine siQ ?_; (try simp (disch := omega) only [w64, wu8]))
  | ((first | refine AW.cond rfl (fun h => ?_) fun h => ?_ | refine AW.cond_ub rfl (fun h => ?_) ?_ | refine AW.cond_nb rfl ?_ fun h => ?_) <;> (try replace h := q0a h) <;> try (exfalso; first | omega | exact absurd h (by decide)))
  | (refine q0h ?_; refine subQ ?_)
  | (subst hK)
  | exact trivial
  all_goals try (intros; assumption)
  all_goals try refine q0v ?_
  all_goals try replace hp := q0a hp
  all_goals try (intros; first | trivial | omega)
  all_goals (try (rw [w64 (by omega) (by omega)]; first | done | omega))
  all_goals clear hC
  all_goals first
  | omega
  | exact fun h => (qkt h).1
  | exact fun _ => hp
  | exact fun h => qba7 (qkt h).1
end
noncomputable def cfg179 : Cfg := mkC 23 q8f
theorem qbhj : cfg179.pins = [] ∧ cfg179.P = Tryz.prog ∧ cfg179.N = 23 ∧ cfg179.ti 76 = none ∧ cfg179.T 76 = e76 ∧ cfg179.mv 76 = (fun _ => []) := by and_intros <;> exact rfl
section
attribute [local go_sem] qbhj e76
attribute [local go_sem] qbe qbg qcg qc2 qb7 qde qdo qei qbs Int.toNat_natCast qdd qd7 qer qcv qch qbn qb2 decI List.length_map nc0 qbf qbm
theorem qbs9 (hC : COk cfg179) (t : DType) (hp : qbi t = 0) : Sem Tryz.prog 179 [.d (qbe t)] (.d (.i .i64 (qex t))) := by
  have ht := qj4 hp
  refine q0f (C := cfg179) (rs := [.tmp 2]) (fun _ => []) Tryz.func179 rfl rfl rfl rfl rfl rfl ?_
  refine inQ ?_
  repeat' first
  | (with_reducible first | apply q0l | apply q0c | apply AW.seq | apply AW.block | apply AW.skip | apply AW.exit | apply AW.ret | apply q0m | apply q0n | apply q0d | apply q0e | refine q0b rfl ?_ | apply q0o | apply q0p | apply And.intro)
  | (with_reducible refine AW.runK hC ?_; intro K hK)
  | ((with_reducible first | refine q0t ?_ | refine q0k ?_); refine siQ ?_; (try simp (disch := omega) only [w64, wu8]))
  | ((first | refine AW.cond rfl (fun h => ?_) fun h => ?_ | refine AW.cond_ub rfl (fun h => ?_) ?_ | refine AW.cond_nb rfl ?_ fun h => ?_) <;> (try replace h := q0a h) <;> try (exfalso; first | omega | exact absurd h (by decide)))
  | (refine q0h ?_; refine subQ ?_)
  | (subst hK)
  | exact trivial
  all_goals try (intros; assumption)
  all_goals try refine q0v ?_
  all_goals try replace hp := q0a hp
  all_goals try (intros; first | trivial | omega)
  all_goals (try (rw [w64 (by omega) (by omega)]; first | done | omega))
  all_goals clear hC
  all_goals (try simp only [qex])
  all_goals first
  | omega
  | (rw [qs7 (by omega) (by omega), if_pos (by omega)]; done)
  | (rcases ht.2.2.2.2.2.2 (by omega) with e | e <;> (rw [e]; simp_all; done))
  | grind
end
noncomputable def cfg180 : Cfg := mkC 24 q1v
theorem qbhk : cfg180.pins = [] ∧ cfg180.P = Tryz.prog ∧ cfg180.N = 24 := ⟨rfl, rfl, rfl⟩
section
attribute [local go_sem] qbhk
attribute [local go_sem] qbe qbg qcg qc2 qb7 qde qdo qei qbs Int.toNat_natCast qdd qd7 qer qcv qch qbn qb2 decI List.length_map nc0 qbf qbm
theorem qbta (hC : COk cfg180) (s : ByteArray) (a : Int) (n : Int) (hp : 0 ≤ a ∧ 0 ≤ n ∧ a + n ≤ s.size ∧ s.size ≤ 1000) : Sem Tryz.prog 180 [.d (.s s), .d (.i .i64 a), .d (.i .i64 n)] (.d (.i .i64 (qez s a.toNat n.toNat))) := by
  refine q0f (C := cfg180) (rs := [.tmp 6]) (fun _ => []) Tryz.func180 rfl rfl rfl rfl rfl rfl ?_
  refine inQ ?_
  repeat' first
  | (with_reducible first | apply q0l | apply q0c | apply AW.seq | apply AW.block | apply AW.skip | apply AW.exit | apply AW.ret | apply q0m | apply q0n | apply q0d | apply q0e | refine q0b rfl ?_ | apply q0o | apply q0p | apply And.intro)
  | (with_reducible refine AW.runK hC ?_; intro K hK)
  | ((with_reducible first | refine q0t ?_ | refine q0k ?_); refine siQ ?_; (try simp (disch := omega) only [w64, wu8]))
  | ((first | refine AW.cond rfl (fun h => ?_) fun h => ?_ | refine AW.cond_ub rfl (fun h => ?_) ?_ | refine AW.cond_nb rfl ?_ fun h => ?_) <;> (try replace h := q0a h) <;> try (exfalso; first | omega | exact absurd h (by decide)))
  | (refine AW.loopN 3 rfl (ι := Nat) (fun i => mkS [(0, V.d (.s s)), (1, V.d (.i .i64 a)), (2, V.d (.i .i64 n)), (7, V.d (.i .i64 (qez s a.toNat i))), (8, V.d (.i .i64 (i : Int)))] ([])) (fun i => (i : Int) ≤ n) (fun i => n.toNat - i) (0) ?_ ?_ (fun i hi => ?_) <;> (try dsimp only) <;> (try dsimp only at hi))
  | (refine LoopNext.mk1 3 (i + 1) ?_ ?_ ?_ <;> (try dsimp only))
  | (refine q0h ?_; refine subQ ?_)
  | (subst hK)
  | exact trivial
  all_goals try (intros; assumption)
  all_goals try refine q0v ?_
  all_goals try replace hp := q0a hp
  all_goals try replace hi := q0a hi
  all_goals try (intros; first | trivial | omega)
  all_goals (try (rw [w64 (by omega) (by omega)]; first | done | omega))
  all_goals clear hC
  all_goals first
  | omega
  | rfl
  | (rw [show (a + (i : Int)).toNat = a.toNat + i by omega, qve]; rfl)
  | (rw [show n.toNat = i by omega]; done)
end
noncomputable def cfg195 : Cfg := mkC 13 q1w
theorem qbhl : cfg195.pins = [] ∧ cfg195.P = Tryz.prog ∧ cfg195.N = 13 := ⟨rfl, rfl, rfl⟩
section
attribute [local go_sem] qbhl
attribute [local go_sem] qbe qbg qcg qc2 qb7 qde qdo qei qbs Int.toNat_natCast qdd qd7 qer qcv qch qbn qb2 decI List.length_map nc0 qbf qbm
theorem qbtb (hC : COk cfg195) (n : Int) (hp : 0 ≤ n ∧ n ≤ 18) : Sem Tryz.prog 195 [.d (.i .i64 n)] (.d (.i .i64 (p10 n))) := by
  refine q0f (C := cfg195) (rs := [.tmp 2]) (fun _ => []) Tryz.func195 rfl rfl rfl rfl rfl rfl ?_
  refine inQ ?_
  repeat' first
  | (with_reducible first | apply q0l | apply q0c | apply AW.seq | apply AW.block | apply AW.skip | apply AW.exit | apply AW.ret | apply q0m | apply q0n | apply q0d | apply q0e | refine q0b rfl ?_ | apply q0o | apply q0p | apply And.intro)
  | (with_reducible refine AW.runK hC ?_; intro K hK)
  | ((with_reducible first | refine q0t ?_ | refine q0k ?_); refine siQ ?_; (try simp (disch := omega) only [w64, wu8]))
  | ((first | refine AW.cond rfl (fun h => ?_) fun h => ?_ | refine AW.cond_ub rfl (fun h => ?_) ?_ | refine AW.cond_nb rfl ?_ fun h => ?_) <;> (try replace h := q0a h) <;> try (exfalso; first | omega | exact absurd h (by decide)))
  | (refine AW.loopN 3 rfl (ι := Nat) (fun i => mkS [(0, V.d (.i .i64 n)), (3, V.d (.i .i64 (10 ^ i : Int))), (4, V.d (.i .i64 (i : Int)))] ([])) (fun i => (i : Int) ≤ n) (fun i => n.toNat - i) (0) ?_ ?_ (fun i hi => ?_) <;> (try dsimp only) <;> (try dsimp only at hi))
  | (refine LoopNext.mk1 3 (i + 1) ?_ ?_ ?_ <;> (try dsimp only))
  | (refine q0h ?_; refine subQ ?_)
  | (subst hK)
  | exact trivial
  all_goals try (intros; assumption)
  all_goals try refine q0v ?_
  all_goals try replace hp := q0a hp
  all_goals try replace hi := q0a hi
  all_goals try (intros; first | trivial | omega)
  all_goals (try (rw [w64 (by omega) (by omega)]; first | done | omega))
  all_goals clear hC
  all_goals first
  | omega
  | exact q00h (by omega)
  | exact q43 (by omega) (by omega)
end
noncomputable def cfg194 : Cfg := mkC 5 q1x
theorem qbhm : cfg194.pins = [] ∧ cfg194.P = Tryz.prog ∧ cfg194.N = 5 ∧ cfg194.ti 41 = none ∧ cfg194.T 41 = e41 ∧ cfg194.mv 41 = (fun _ => []) := by and_intros <;> exact rfl
section
attribute [local go_sem] qbhm e41
theorem qbtc (hC : COk cfg194) (k : Int) : Sem Tryz.prog 194 [.d (.i .i64 k)] (.d (.b (decide (1 ≤ k) && decide (k ≤ 3)))) := by
  refine q0f (C := cfg194) (rs := [.tmp 2]) (fun _ => []) Tryz.func194 rfl rfl rfl rfl rfl rfl ?_
  refine inQ ?_
  repeat' first
  | (with_reducible first | apply q0l | apply q0c | apply AW.seq | apply AW.block | apply AW.skip | apply AW.exit | apply AW.ret | apply q0m | apply q0n | apply q0d | apply q0e | refine q0b rfl ?_ | apply q0o | apply q0p | apply And.intro)
  | (with_reducible refine AW.runK hC ?_; intro K hK)
  | ((with_reducible first | refine q0t ?_ | refine q0k ?_); refine siQ ?_; (try simp (disch := omega) only [w64, wu8]))
  | ((first | refine AW.cond rfl (fun h => ?_) fun h => ?_ | refine AW.cond_ub rfl (fun h => ?_) ?_ | refine AW.cond_nb rfl ?_ fun h => ?_) <;> (try replace h := q0a h) <;> try (exfalso; first | omega | exact absurd h (by decide)))
  | (refine q0h ?_; refine subQ ?_)
  | (subst hK)
  | exact trivial
  all_goals try (intros; assumption)
  all_goals try refine q0v ?_
  all_goals try (intros; first | trivial | omega)
  all_goals (try (rw [w64 (by omega) (by omega)]; first | done | omega))
 
end
noncomputable def cfg196 : Cfg := mkC 17 q1y
theorem qbhn : cfg196.pins = [] ∧ cfg196.P = Tryz.prog ∧ cfg196.N = 17 := ⟨rfl, rfl, rfl⟩
section
attribute [local go_sem] qbhn
attribute [local go_sem] qbe qbg qcg qc2 qb7 qde qdo qei qbs Int.toNat_natCast qdd qd7 qer qcv qch qbn qb2 decI List.length_map nc0 qbf qbm
theorem qbtd (hC : COk cfg196) (n : Int) (h : Int) : Sem Tryz.prog 196 [.d (.i .i64 n), .d (.i .i64 h)] (.tup [.d (.i .i64 (if h = 11 ∨ h = 13 then IntKind.i64.wrap (-n) else n)), .d (.b (decide (10 ≤ h)))]) := by
  refine q0f (C := cfg196) (rs := [.tmp 4, .tmp 5]) (fun _ => []) Tryz.func196 rfl rfl rfl rfl rfl rfl ?_
  refine inQ ?_
  repeat' first
  | (with_reducible first | apply q0l | apply q0c | apply AW.seq | apply AW.block | apply AW.skip | apply AW.exit | apply AW.ret | apply q0m | apply q0n | apply q0d | apply q0e | refine q0b rfl ?_ | apply q0o | apply q0p | apply And.intro)
  | (with_reducible refine AW.runK hC ?_; intro K hK)
  | ((with_reducible first | refine q0t ?_ | refine q0k ?_); refine siQ ?_; (try simp (disch := omega) only [w64, wu8]))
  | ((first | refine AW.cond rfl (fun h => ?_) fun h => ?_ | refine AW.cond_ub rfl (fun h => ?_) ?_ | refine AW.cond_nb rfl ?_ fun h => ?_) <;> (try replace h := q0a h) <;> try (exfalso; first | omega | exact absurd h (by decide)))
  | (refine q0h ?_; refine subQ ?_)
  | (subst hK)
  | exact trivial
  all_goals try (intros; assumption)
  all_goals try refine q0v ?_
  all_goals try (intros; first | trivial | omega)
  all_goals (try (rw [w64 (by omega) (by omega)]; first | done | omega))
  all_goals clear hC
  all_goals first
  | omega
  | grind
end
noncomputable def cfg178 : Cfg := mkC 49 q1z
theorem qbho : cfg178.pins = [] ∧ cfg178.P = Tryz.prog ∧ cfg178.N = 49 ∧ cfg178.T 41 = e41 ∧ cfg178.T 76 = e76 ∧ cfg178.T 194 = e194 ∧ cfg178.ti = (fun _ => none) ∧ cfg178.mv = fun _ _ => [] := by and_intros <;> exact rfl
section
attribute [local go_sem] qbho e41 e76 e194
attribute [local go_sem] qbe qbg qcg qc2 qb7 qde qdo qei qbs Int.toNat_natCast qdd qd7 qer qcv qch qbn qb2 decI List.length_map nc0 qbf qbm
theorem qbte (hC : COk cfg178) (t : DType) : Sem Tryz.prog 178 [.d (qbe t)] (.d (.i .i64 (qbi t))) := by
  refine q0f (C := cfg178) (rs := [.tmp 2]) (fun _ => []) Tryz.func178 rfl rfl rfl rfl rfl rfl ?_
  refine inQ ?_
  repeat' first
  | (with_reducible first | apply q0l | apply q0c | apply AW.seq | apply AW.block | apply AW.skip | apply AW.exit | apply AW.ret | apply q0m | apply q0n | apply q0d | apply q0e | refine q0b rfl ?_ | apply q0o | apply q0p | apply And.intro)
  | (with_reducible refine AW.runK hC ?_; intro K hK)
  | ((with_reducible first | refine q0t ?_ | refine q0k ?_); refine siQ ?_; (try simp (disch := omega) only [w64, wu8]))
  | ((first | refine AW.cond rfl (fun h => ?_) fun h => ?_ | refine AW.cond_ub rfl (fun h => ?_) ?_ | refine AW.cond_nb rfl ?_ fun h => ?_) <;> (try replace h := q0a h) <;> try (exfalso; first | omega | exact absurd h (by decide)))
  | (refine q0h ?_; refine subQ ?_)
  | (subst hK)
  | exact trivial
  all_goals try (intros; assumption)
  all_goals try refine q0v ?_
  all_goals try (intros; first | trivial | omega)
  all_goals (try (rw [w64 (by omega) (by omega)]; first | done | omega))
  all_goals clear hC
  all_goals first
  | (simp only [qbi]; grind)
end
noncomputable def cfg181 : Cfg := mkC 7 q10
theorem qbhp : cfg181.pins = [] ∧ cfg181.P = Tryz.prog ∧ cfg181.N = 7 ∧ cfg181.ti 195 = none ∧ cfg181.T 195 = e195 ∧ cfg181.mv 195 = (fun _ => []) := by and_intros <;> exact rfl
section
attribute [local go_sem] qbhp e195
attribute [local go_sem] qbe qbg qcg qc2 qb7 qde qdo qei qbs Int.toNat_natCast qdd qd7 qer qcv qch qbn qb2 decI List.length_map nc0 qbf qbm
theorem qbtf (hC : COk cfg181) (t : DType) (hp : 0 ≤ t.length ∧ t.length ≤ 18) : Sem Tryz.prog 181 [.d (qbe t)] (.d (.i .i64 (p10 t.length - 1))) := by
  refine q0f (C := cfg181) (rs := [.tmp 2]) (fun _ => []) Tryz.func181 rfl rfl rfl rfl rfl rfl ?_
  refine inQ ?_
  repeat' first
  | (with_reducible first | apply q0l | apply q0c | apply AW.seq | apply AW.block | apply AW.skip | apply AW.exit | apply AW.ret | apply q0m | apply q0n | apply q0d | apply q0e | refine q0b rfl ?_ | apply q0o | apply q0p | apply And.intro)
  | (with_reducible refine AW.runK hC ?_; intro K hK)
  | ((with_reducible first | refine q0t ?_ | refine q0k ?_); refine siQ ?_; (try simp (disch := omega) only [w64, wu8]))
  | ((first | refine AW.cond rfl (fun h => ?_) fun h => ?_ | refine AW.cond_ub rfl (fun h => ?_) ?_ | refine AW.cond_nb rfl ?_ fun h => ?_) <;> (try replace h := q0a h) <;> try (exfalso; first | omega | exact absurd h (by decide)))
  | (refine q0h ?_; refine subQ ?_)
  | (subst hK)
  | exact trivial
  all_goals try (intros; assumption)
  all_goals try refine q0v ?_
  all_goals try replace hp := q0a hp
  all_goals try (intros; first | trivial | omega)
  all_goals (try (rw [w64 (by omega) (by omega)]; first | done | omega))
  all_goals clear hC
  all_goals have PW := qu0 t.length
  all_goals first
  | omega
  | (rw [w64 (by omega) (by omega)]; done)
end
noncomputable def cfg182 : Cfg := mkC 51 q11
theorem qbhq : cfg182.pins = [] ∧ cfg182.P = Tryz.prog ∧ cfg182.N = 51 ∧ cfg182.ti 196 = none ∧ cfg182.T 196 = e196 ∧ cfg182.mv 196 = (fun _ => []) := by and_intros <;> exact rfl
section
attribute [local go_sem] qbhq e196
attribute [local go_sem] qbe qbg qcg qc2 qb7 qde qdo qei qbs Int.toNat_natCast qdd qd7 qer qcv qch qbn qb2 decI List.length_map nc0 qbf qbm q1o q1p qwo qsm qto qve
theorem qbtg (hC : COk cfg182) (s : ByteArray) (hp : 0 < s.size ∧ s.size ≤ 1000) : Sem Tryz.prog 182 [.d (.s s)] (.tup [.d (qb7 (qi5 s).1), .d (.i .i64 (qi5 s).2.1), .d (.i .i64 (qi5 s).2.2)]) := by
  refine q0f (C := cfg182) (rs := [.cell 2 212, .tmp 3, .tmp 4]) (fun _ => []) Tryz.func182 rfl rfl rfl rfl rfl rfl ?_
  refine inQ ?_
  repeat' first
  | (with_reducible first | apply q0l | apply q0c | apply AW.seq | apply AW.block | apply AW.skip | apply AW.exit | apply AW.ret | apply q0m | apply q0n | apply q0d | apply q0e | refine q0b rfl ?_ | apply q0o | apply q0p | apply And.intro)
  | (with_reducible refine AW.runK hC ?_; intro K hK)
  | ((with_reducible first | refine q0t ?_ | refine q0k ?_); refine siQ ?_; (try simp (disch := omega) only [w64, wu8]))
  | ((first | refine AW.cond rfl (fun h => ?_) fun h => ?_ | refine AW.cond_ub rfl (fun h => ?_) ?_ | refine AW.cond_nb rfl ?_ fun h => ?_) <;> (try replace h := q0a h) <;> try (exfalso; first | omega | exact absurd h (by decide)))
  | (refine AW.loopN 3 rfl (ι := Nat × Int × Int) (fun p => mkS [(0, V.d (.s s)), (2, V.ptr 32 0), (5, V.d (.i .i64 p.2.1)), (6, V.d (.i .i64 p.2.2)), (7, V.d (.i .i64 (p.1 : Int)))] ([(32, .live (.box 212 [.d (.i .i64 0), .d (.s ⟨#[]⟩)]))])) (fun p => p.1 ≤ s.size ∧ qgt (zT s) s p.1 p.2.1 = decN (zT s) s ∧ (p.1 < s.size → p.2.2 = 15) ∧ (p.1 = s.size → p.2.2 = hiB (chr s (s.size - 1)) ∧ ¬hiB (chr s (s.size - 1)) < 10)) (fun p => s.size - p.1) ((0, 0, 15)) ?_ ?_ (fun p hi => ?_) <;> (try dsimp only) <;> (try dsimp only at hi))
  | (refine LoopNext.mk1 3 ((p.1 + 1, IntKind.i64.wrap (IntKind.i64.wrap (10 * p.2.1) + loB (chr s p.1)), if p.1 = s.size - 1 then hiB (chr s p.1) else p.2.2)) ?_ ?_ ?_ <;> (try dsimp only))
  | (refine q0h ?_; refine subQ ?_)
  | (subst hK)
  | exact trivial
  all_goals try (intros; assumption)
  all_goals try refine q0v ?_
  all_goals try replace hp := q0a hp
  all_goals try replace hi := q0a hi
  all_goals try (intros; first | trivial | omega)
  all_goals (try (rw [w64 (by omega) (by omega)]; first | done | omega))
  all_goals clear hC
  all_goals (try have HH := qvb s p.1)
  all_goals first
  | omega
  | rfl
  | (rw [qbbf hi.2.1 (by omega) (by omega)]; done)
  | (rw [qbbf hi.2.1 (by omega) (by omega)]; rfl)
  | exact qbmw hi.2.1 (by omega) (by omega)
  | (intro e; rw [show s.size - 1 = p.1 by omega]; omega)
  | (rw [q1q hi.2.1 (by omega) (by omega), (hi.2.2.2 (by omega)).1]; done)
  | (rw [q1q hi.2.1 (by omega) (by omega)]; done)
  | (rw [q1q hi.2.1 (by omega) (by omega)]; rfl)
end
noncomputable def cfg183 : Cfg := mkC 79 q12
theorem qbhr : cfg183.pins = [] ∧ cfg183.P = Tryz.prog ∧ cfg183.N = 79 ∧ cfg183.ti 196 = none ∧ cfg183.T 196 = e196 ∧ cfg183.mv 196 = (fun _ => []) := by and_intros <;> exact rfl
section
attribute [local go_sem] qbhr e196
attribute [local go_sem] qbe qbg qcg qc2 qb7 qde qdo qei qbs Int.toNat_natCast qdd qd7 qer qcv qch qbn qb2 decI List.length_map nc0 qbf qbm q1o q1p qwo qsm qto qve
theorem qbth (hC : COk cfg183) (t : DType) (s : ByteArray) (hp : t.kind = 1 ∧ (s.size : Int) = t.length / 2 + 1 ∧ 0 ≤ t.length ∧ t.length ≤ 100) : Sem Tryz.prog 183 [.d (qbe t), .d (.s s)] (.tup [.d (qb7 (qiu t s).1), .d (.i .i64 (qiu t s).2.1), .d (.i .i64 (qiu t s).2.2)]) := by
  refine q0f (C := cfg183) (rs := [.cell 4 212, .tmp 5, .tmp 6]) (fun _ => []) Tryz.func183 rfl rfl rfl rfl rfl rfl ?_
  refine inQ ?_
  repeat' first
  | (with_reducible first | apply q0l | apply q0c | apply AW.seq | apply AW.block | apply AW.skip | apply AW.exit | apply AW.ret | apply q0m | apply q0n | apply q0d | apply q0e | refine q0b rfl ?_ | apply q0o | apply q0p | apply And.intro)
  | (refine AW.atR 5 rfl ?_; have hq : IntKind.i64.wrap ((p.1 : Int).tdiv 2) = ((p.1 / 2 : Nat) : Int) := (by rw [Int.tdiv_eq_ediv_of_nonneg (by omega), w64 (by omega) (by omega)]; omega); have hr : IntKind.i64.wrap ((p.1 : Int).tmod 2) = ((p.1 % 2 : Nat) : Int) := (by rw [Int.tmod_eq_emod_of_nonneg (by omega), w64 (by omega) (by omega)]; omega); have hm : IntKind.i64.wrap (t.length.tmod 2) = t.length % 2 := (by rw [Int.tmod_eq_emod_of_nonneg (by omega), w64 (by omega) (by omega)]))
  | (with_reducible first | (refine AWh.runK hC ?_; intro K hK) | (refine AWh.drawK hC (by kernel_rfl) ?_; intro K hK))
  | (with_reducible refine AW.runK hC ?_; intro K hK)
  | ((with_reducible first | refine q0t ?_ | refine q0k ?_); (first | (simp (maxSteps := 1000000) only [go_sem, ↓reduceIte, reduceCtorEq, Nat.reduceEqDiff, Nat.reduceLT, Nat.reduceLeDiff, Nat.reduceMul, Nat.reduceAdd, Nat.reduceSub, reduceDIte, Nat.reduceBEq, Nat.reduceBNe, hq, hr, hm]) | (refine siQ ?_)); (try simp (disch := omega) only [w64, wu8]))
  | ((first | refine AW.cond rfl (fun h => ?_) fun h => ?_ | refine AW.cond_ub rfl (fun h => ?_) ?_ | refine AW.cond_nb rfl ?_ fun h => ?_) <;> (try replace h := q0a h) <;> try (exfalso; first | omega | exact absurd h (by decide)))
  | (refine AW.loopN 3 rfl (ι := Nat × Int) (fun p => mkS [(1, V.d (.s s)), (2, V.ptr 32 0), (4, V.ptr 64 0), (7, V.d (.i .i64 p.2)), (8, V.d (.i .i64 (p.1 : Int)))] ([(32, .live (.box 108 [.d (.i .i64 t.kind), .d (.i .i64 t.length), .d (.i .i64 t.scale)])), (64, .live (.box 212 [.d (.i .i64 0), .d (.s ⟨#[]⟩)]))])) (fun p => p.1 ≤ 2 * s.size ∧ (p.1 < 2 * s.size → qgt t s p.1 p.2 = decN t s) ∧ (p.1 = 2 * s.size → decN t s = (p.2, 0, 0))) (fun p => 2 * s.size - p.1) ((0, 0)) ?_ ?_ (fun p hi => ?_) <;> (try dsimp only) <;> (try dsimp only at hi))
  | (refine LoopNext.mk1 3 ((p.1 + 1, if p.1 = 2 * s.size - 1 then (if qe2 s p.1 = 11 ∨ qe2 s p.1 = 13 then IntKind.i64.wrap (-p.2) else p.2) else IntKind.i64.wrap (IntKind.i64.wrap (10 * p.2) + qe2 s p.1))) ?_ ?_ ?_ <;> (try dsimp only))
  | (refine q0h ?_; refine subQ ?_)
  | (subst hK)
  | exact trivial
  all_goals try (intros; assumption)
  all_goals try refine q0v ?_
  all_goals try replace hp := q0a hp
  all_goals try replace hi := q0a hi
  all_goals try (intros; first | trivial | omega)
  all_goals (try (rw [w64 (by omega) (by omega)]; first | done | omega))
  all_goals clear hC
  all_goals (try have HH := q5c s p.1)
  all_goals (try have HE : p.1 % 2 = 1 → qe2 s p.1 = loB (chr s (p.1 / 2)) := fun e => by unfold qe2; rw [if_pos e])
  all_goals (try have HO : ¬p.1 % 2 = 1 → qe2 s p.1 = hiB (chr s (p.1 / 2)) := fun e => by unfold qe2; rw [if_neg e])
  all_goals (try have T1 : (p.1 : Int).tmod 2 = ((p.1 % 2 : Nat) : Int) := by rw [Int.tmod_eq_emod_of_nonneg (by omega)]; omega)
  all_goals (try have T2 : t.length.tmod 2 = t.length % 2 := Int.tmod_eq_emod_of_nonneg (by omega))
  all_goals first
  | omega
  | rfl
  | (intro e; exfalso; omega)
  | (intro e; rw [if_pos (by omega)]; exact qbrn hp.1 (hi.2.1 (by omega)) (by omega) (by omega) (by omega))
  | (intro e; rw [if_neg (by omega)]; exact qbmx hp.1 hp.2.1 hp.2.2.1 (hi.2.1 (by omega)) (by omega) (by omega) (by omega))
  | (rw [if_pos (by omega), HE (by omega)]; done)
  | (rw [if_neg (by omega), HE (by omega)]; done)
  | (rw [if_neg (by omega), HO (by omega)]; done)
  | (unfold qiu; rw [hi.2.2 (by omega)]; done)
  | (rw [qbbg (i := p.1) (n := p.2) hp.1 hp.2.1 hp.2.2.1 (hi.2.1 (by omega)) (by omega) (by omega)]; done)
  | (rw [qbbg (i := p.1) (n := p.2) hp.1 hp.2.1 hp.2.2.1 (hi.2.1 (by omega)) (by omega) (by omega)]; rfl)
end
noncomputable def cfg169 : Cfg := mkC 70 q13
theorem qbhs : cfg169.pins = [] ∧ cfg169.P = Tryz.prog ∧ cfg169.N = 70 ∧ cfg169.T 41 = e41 ∧ cfg169.T 178 = e178 ∧ cfg169.T 179 = e179 ∧ cfg169.T 180 = e180 ∧ cfg169.T 181 = e181 ∧ cfg169.T 182 = e182 ∧ cfg169.T 183 = e183 ∧ cfg169.ti = (fun _ => none) ∧ cfg169.mv = fun _ _ => [] := by and_intros <;> exact rfl
section
attribute [local go_sem] qbhs e41 e178 e179 e180 e181 e182 e183
theorem tn2 : Int.toNat 2 = 2 := rfl
theorem tn4 : Int.toNat 4 = 4 := rfl
theorem zs2 : IntKind.i64.wrap (1 * 2 ^ min (8 * (2 : Int)).toNat 64) = 65536 := by decide +kernel
theorem zs4 : IntKind.i64.wrap (1 * 2 ^ min (8 * (4 : Int)).toNat 64) = 4294967296 := by decide +kernel
attribute [local go_sem] qbe qbg qcg qc2 qb7 qde qdo qei qbs Int.toNat_natCast qdd qd7 qer qcv qch qbn qb2 decI List.length_map nc0 qbf qbm q1o q1p qwo qsm qto qve
theorem qbti (hC : COk cfg169) (t : DType) (s : ByteArray) : Sem Tryz.prog 169 [.d (qbe t), .d (.s s)] (.tup [.d (qb7 (qdj t s).1), .d (.i .i64 (qdj t s).2.1), .d (.i .i64 (qdj t s).2.2)]) := by
  refine q0f (C := cfg169) (rs := [.cell 4 212, .tmp 5, .tmp 6]) (fun _ => []) Tryz.func169 rfl rfl rfl rfl rfl rfl ?_
  refine inQ ?_
  repeat' first
  | (with_reducible first | apply q0l | apply q0c | apply AW.seq | apply AW.block | apply AW.skip | apply AW.exit | apply AW.ret | apply q0m | apply q0n | apply q0d | apply q0e | refine q0b rfl ?_ | apply q0o | apply q0p | apply And.intro)
  | (refine AW.atR 12 rfl ?_; have ht := qj4 (t := t) (by assumption); have hz : s.size = 2 ∨ s.size = 4 := (by have e : (s.size : Int) = qex t := (by assumption); have e2 : qex t = 2 + t.length / 9 * 2 := (by unfold qex; rw [if_neg (by omega), if_pos (by omega)]); omega); rcases hz with hz | hz)
  | (with_reducible first | (refine AWh.runK hC ?_; intro K hK) | (refine AWh.drawK hC (by kernel_rfl) ?_; intro K hK))
  | (with_reducible first | (refine AW.runK hC ?_; intro K hK) | (refine AW.drawK hC (by kernel_rfl) ?_; intro K hK))
  | ((with_reducible first | refine q0t ?_ | refine qbz ?_ | refine q0k ?_); (first | (simp (maxSteps := 1000000) only [go_sem, ↓reduceIte, reduceCtorEq, Nat.reduceEqDiff, Nat.reduceLT, Nat.reduceLeDiff, Nat.reduceMul, Nat.reduceAdd, Nat.reduceSub, reduceDIte, Nat.reduceBEq, Nat.reduceBNe, hz]) | (refine siQ ?_)); (try simp (disch := omega) only [w64, wu8]))
  | (with_reducible refine qbj (by kernel_rfl) ?_)
  | ((first | refine AW.cond rfl (fun h => ?_) fun h => ?_ | refine AW.cond_ub rfl (fun h => ?_) ?_ | refine AW.cond_nb rfl ?_ fun h => ?_) <;> (try replace h := q0a h) <;> try (exfalso; first | omega | exact absurd h (by decide)))
  | (refine q0h ?_; refine subQ ?_)
  | (subst hK)
  | exact trivial
  all_goals try (intros; assumption)
  all_goals try refine q0v ?_
  all_goals try (intros; first | trivial | omega)
  all_goals (try (rw [w64 (by omega) (by omega)]; first | done | omega))
  all_goals clear hC
  all_goals (try have ht := qj4 (t := t) (by assumption))
  all_goals (try simp only [Int.toNat_zero, tn2, tn4, zs2, zs4, qbxg, qbxh, qbrr, qbrs, qbrt] at *)
  all_goals (try have B2 := qbxe (b := s) (by assumption))
  all_goals (try have B4 := qbxf (b := s) (by assumption))
  all_goals first
  | omega
  | (rw [qbmy (by assumption)]; first | done | rfl)
  | (rw [qbro (by assumption) (by assumption)]; first | done | rfl)
  | (rw [qbrp (by assumption) (by assumption) (by assumption)]; first | done | rfl)
  | (rw [qbrq (by assumption) (by assumption) (by assumption)]; first | done | rfl)
  | (rw [qbfs (by assumption) (by assumption) (by assumption)]; first | done | rfl)
  | (rw [qvh (n := qez s 0 2 - 65536) (by assumption) (by assumption) (by assumption) (by omega) (by omega)]; first | done | rfl)
  | (rw [qvh (n := qez s 0 2) (by assumption) (by assumption) (by assumption) (by omega) (by omega)]; first | done | rfl)
  | (rw [qvh (n := qez s 0 4 - 4294967296) (by assumption) (by assumption) (by assumption) (by omega) (by omega)]; first | done | rfl)
  | (rw [qvh (n := qez s 0 4) (by assumption) (by assumption) (by assumption) (by omega) (by omega)]; first | done | rfl)
  | (rw [qbmz (n := binN s) (by assumption) (by assumption) (by assumption) rfl (by omega)]; first | done | rfl)
  | (rw [qbbh (by assumption) (by assumption) (by omega)]; first | done | rfl)
  | (have e : (s.size : Int) = qex t := by assumption
     have q := ql0 (t := t) (by assumption)
     omega)
  | (have e : (s.size : Int) = qex t := by assumption
     rw [e]; unfold qex; rw [if_pos (by omega)]; done)
end
noncomputable def cfg193 : Cfg := mkC 22 q14
theorem qbht : cfg193.pins = [] ∧ cfg193.P = Tryz.prog ∧ cfg193.N = 22 := ⟨rfl, rfl, rfl⟩
section
attribute [local go_sem] qbht
attribute [local go_sem] qbe qbg qcg qc2 qb7 qde qdo qei Int.toNat_natCast qdd qd7 qer qcv qch qbn qb2 decI List.length_map nc0 qbf qbm q05 qb5 qc8 qds qbw qb3 qec qe9 q06 qbx qcq qdc qb6 qci qdt qed qbp qc5 qee qfa qb1 qbr qcu qda qcs qeg qdb qct qeh qc9 qcr qef List.length_take qck Int.toNat_zero Nat.sub_zero List.drop_zero
attribute [local go_sem ←] List.map_take List.map_drop
theorem qbtj (hC : COk cfg193) (f : Fmt) (name : ByteArray) (hp : f.fields.length ≤ 1000000) : Sem Tryz.prog 193 [.d (qbw f), .d (.s name)] (.d (.i .i64 (idxI f.fields name))) := by
  refine q0f (C := cfg193) (rs := [.tmp 4]) (fun _ => []) Tryz.func193 rfl rfl rfl rfl rfl rfl ?_
  refine inQ ?_
  repeat' first
  | (with_reducible first | apply q0l | apply q0c | apply AW.seq | apply AW.block | apply AW.skip | apply AW.exit | apply AW.ret | apply q0m | apply q0n | apply q0d | apply q0e | refine q0b rfl ?_ | apply q0o | apply q0p | apply And.intro)
  | (with_reducible refine AW.runK hC ?_; intro K hK)
  | ((with_reducible first | refine q0t ?_ | refine q0k ?_); refine siQ ?_; (try simp (disch := omega) only [w64, wu8]))
  | ((first | refine AW.cond rfl (fun h => ?_) fun h => ?_ | refine AW.cond_ub rfl (fun h => ?_) ?_ | refine AW.cond_nb rfl ?_ fun h => ?_) <;> (try replace h := q0a h) <;> try (exfalso; first | omega | exact absurd h (by decide)))
  | (refine AW.loopN 2 rfl (ι := Nat) (fun i => mkS [(1, V.d (.s name)), (2, V.ptr 32 0), (5, V.d (.i .i64 (i : Int)))] ([(32, .live (.box 74 [.d (.s f.name), .d (.sl 4 (f.fields.map q05))]))])) (fun i => i ≤ f.fields.length ∧ idxF (f.fields.take i) name = none) (fun i => f.fields.length - i) (0) ?_ ?_ (fun i hi => ?_) <;> (try dsimp only) <;> (try dsimp only at hi))
  | (refine LoopNext.mk1 2 (i + 1) ?_ ?_ ?_ <;> (try dsimp only))
  | (refine q0h ?_; refine subQ ?_)
  | (subst hK)
  | exact trivial
  all_goals try (intros; assumption)
  all_goals try refine q0v ?_
  all_goals try replace hp := q0a hp
  all_goals try replace hi := q0a hi
  all_goals try (intros; first | trivial | omega)
  all_goals (try (rw [w64 (by omega) (by omega)]; first | done | omega))
  all_goals clear hC
  all_goals first
  | omega
  | rfl
  | (rw [q1r hi.2 (by omega) (by assumption)]; done)
  | exact qxq hi.2 (by omega) (by assumption)
  | (rw [qbm0 hi.2 (by omega)]; done)
end
end Go.Ev
