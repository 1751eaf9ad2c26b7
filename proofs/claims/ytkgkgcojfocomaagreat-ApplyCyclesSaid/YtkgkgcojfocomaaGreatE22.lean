/- Tools and contracts under the laws of this seat: Dyc123 to Dyc38d. -/
import Derived.Test.YtkgkgcojfocomaaGreatE09
set_option linter.unusedVariables false
set_option linter.unusedSimpArgs false
namespace Go.Ev
open Go.Proofs Ty
set_option maxRecDepth 10000
set_option maxHeartbeats 4000000
attribute [local go_sem] qbe qbg qcg qc2 qb7 qde qdo qei Int.toNat_natCast qdd qd7 qer qcv qch qbn qb2 decI List.length_map nc0 qbf qbm q05 qb5 qc8 qds qbw qb3 qec qe9 q06 qbx qcq qdc qb6 qci qdt qed qbp qc5 qee qfa qb1 qbr qcu qda qcs qeg qdb qct qeh qc9 qcr qef List.length_take qck Int.toNat_zero Nat.sub_zero List.drop_zero q0g q0y qdf qdy q0u q00 qba qbh qcy qcz List.length_set Nat.le_refl
attribute [local go_sem ←] List.map_take List.map_drop
noncomputable def cfg123 : Cfg := mkC 51 q2i
theorem qbh7 : cfg123.pins = [] ∧ cfg123.P = Tryz.prog ∧ cfg123.N = 51 ∧ cfg123.T 138 = e138 ∧ cfg123.T 139 = e139 ∧ cfg123.ti = (fun _ => none) ∧ cfg123.mv = fun _ _ => [] := by and_intros <;> exact rfl
section
attribute [local go_sem] qbh7 e138 e139
theorem qbtx (hC : COk cfg123) (t : Table) (hp : (t.file.format.fields.length ≤ 1000000 ∧ t.file.keys.length ≤ 1000000 ∧ t.records.length ≤ 1000000)) : Sem Tryz.prog 123 [.d (q0g t)] (.tup [.d (.i .i64 (q08 t).1), .d (.i .i64 (q08 t).2)]) := by
  refine q0f (C := cfg123) (rs := [.tmp 2, .tmp 3]) (fun _ => []) Tryz.func123 rfl rfl rfl rfl rfl rfl ?_
  refine inQ ?_
  repeat' first
  | (with_reducible first | apply q0l | apply q0c | apply AW.seq | apply AW.block | apply AW.skip | apply AW.exit | apply AW.ret | apply q0m | apply q0n | apply q0d | apply q0e | refine q0b rfl ?_ | apply q0o | apply q0p | apply And.intro)
  | (with_reducible refine AW.runK hC ?_; intro K hK)
  | ((with_reducible first | refine q0t ?_ | refine q0k ?_); refine siQ ?_; (try simp (disch := omega) only [w64, wu8]))
  | ((first | refine AW.cond rfl (fun h => ?_) fun h => ?_ | refine AW.cond_ub rfl (fun h => ?_) ?_ | refine AW.cond_nb rfl ?_ fun h => ?_) <;> (try replace h := q0a h) <;> try (exfalso; first | omega | exact absurd h (by decide)))
  | (refine AW.loopN 7 rfl (ι := Nat) (fun i => mkS [(1, V.ptr 16 0), (5, V.d (.i .i64 (i : Int)))] ([(16, .live (.box 80 [.d (.s t.file.name), .d (.s t.file.format.name), .d (.sl 4 (t.file.format.fields.map q05)), .d (.sl 2 (t.file.keys.map q06)), .d (.b t.file.unique), .d (.sl 2 (t.records.map qbp))]))])) (fun i => i ≤ t.records.length ∧ ((qcb t.file).2 = 0 ∧ t.records.length ≤ 60) ∧ ∀ j, j < i → recE t j = 0) (fun i => t.records.length - i) (0) ?_ ?_ (fun i hi => ?_) <;> (try dsimp only) <;> (try dsimp only at hi))
  | (refine LoopNext.mk1 7 (i + 1) ?_ ?_ ?_ <;> (try dsimp only))
  | (refine q0h ?_; refine subQ ?_)
  | (subst hK)
  | exact trivial
  all_goals try (intros; assumption)
  all_goals try refine q0v ?_
  all_goals try replace hp := q0a hp
  all_goals try replace hi := q0a hi
  all_goals try (intros; first | trivial | omega)
  all_goals (try (rw [w64 (by omega) (by omega)]; first | done | omega))
  all_goals clear hC
  all_goals first
  | rfl
  | omega
  | (rw [qbf3 (by assumption)]; done)
  | (rw [qbrv (by assumption) (by omega)]; done)
  | exact hi.2.1.1
  | exact hi.2.1.2
  | (rw [qok hi.2.1 hi.2.2 (by omega) (by unfold recE; simp_all)]; unfold recE; simp_all; done)
  | (rw [qok hi.2.1 hi.2.2 (by omega) (by unfold recE; simp_all)]; done)
  | exact qes hi.2.2 (by unfold recE; simp_all)
  | (rw [qrj hi.2.1 hi.2.2 (by omega)]; done)
end
noncomputable def cfg96 : Cfg := mkC 11 q2j
theorem qboz : cfg96.pins = [] ∧ cfg96.P = Tryz.prog ∧ cfg96.N = 11 ∧ cfg96.ti 123 = none ∧ cfg96.T 123 = e123 ∧ cfg96.mv 123 = (fun _ => []) := by and_intros <;> exact rfl
section
attribute [local go_sem] qboz e123
theorem qby6 (hC : COk cfg96) (t : Table) (hp : (t.file.format.fields.length ≤ 1000000 ∧ t.file.keys.length ≤ 1000000 ∧ t.records.length ≤ 1000000)) : Sem Tryz.prog 96 [.d (q0g t)] (.d (.i .i64 (q08 t).2)) := by
  refine q0f (C := cfg96) (rs := [.tmp 2]) (fun _ => []) Tryz.func96 rfl rfl rfl rfl rfl rfl ?_
  refine inQ ?_
  repeat' first
  | (with_reducible first | apply q0l | apply q0c | apply AW.seq | apply AW.block | apply AW.skip | apply AW.exit | apply AW.ret | apply q0m | apply q0n | apply q0d | apply q0e | refine q0b rfl ?_ | apply q0o | apply q0p | apply And.intro)
  | (with_reducible refine AW.runK hC ?_; intro K hK)
  | ((with_reducible first | refine q0t ?_ | refine q0k ?_); refine siQ ?_; (try simp (disch := omega) only [w64, wu8]))
  | ((first | refine AW.cond rfl (fun h => ?_) fun h => ?_ | refine AW.cond_ub rfl (fun h => ?_) ?_ | refine AW.cond_nb rfl ?_ fun h => ?_) <;> (try replace h := q0a h) <;> try (exfalso; first | omega | exact absurd h (by decide)))
  | (refine q0h ?_; refine subQ ?_)
  | (subst hK)
  | exact trivial
  all_goals try (intros; assumption)
  all_goals try refine q0v ?_
  all_goals try replace hp := q0a hp
  all_goals try (intros; first | trivial | omega)
  all_goals (try (rw [w64 (by omega) (by omega)]; first | done | omega))
end
noncomputable def cfg140 : Cfg := mkC 20 q8k
theorem qbh8 : cfg140.pins = [] ∧ cfg140.P = Tryz.prog ∧ cfg140.N = 20 ∧ cfg140.ti 41 = none ∧ cfg140.T 41 = e41 ∧ cfg140.mv 41 = (fun _ => []) := by and_intros <;> exact rfl
section
attribute [local go_sem] qbh8 e41
theorem qbty (hC : COk cfg140) (t : Table) (n : Int) (hp : t.records.length ≤ 1000000) : Sem Tryz.prog 140 [.d (q0g t), .d (.i .i64 n)] (.d (.b (qf4 t n))) := by
  refine q0f (C := cfg140) (rs := [.tmp 4]) (fun _ => []) Tryz.func140 rfl rfl rfl rfl rfl rfl ?_
  refine inQ ?_
  repeat' first
  | (with_reducible first | apply q0l | apply q0c | apply AW.seq | apply AW.block | apply AW.skip | apply AW.exit | apply AW.ret | apply q0m | apply q0n | apply q0d | apply q0e | refine q0b rfl ?_ | apply q0o | apply q0p | apply And.intro)
  | (with_reducible refine AW.runK hC ?_; intro K hK)
  | ((with_reducible first | refine q0t ?_ | refine q0k ?_); refine siQ ?_; (try simp (disch := omega) only [w64, wu8]))
  | ((first | refine AW.cond rfl (fun h => ?_) fun h => ?_ | refine AW.cond_ub rfl (fun h => ?_) ?_ | refine AW.cond_nb rfl ?_ fun h => ?_) <;> (try replace h := q0a h) <;> try (exfalso; first | omega | exact absurd h (by decide)))
  | (refine q0h ?_; refine subQ ?_)
  | (subst hK)
  | exact trivial
  all_goals try (intros; assumption)
  all_goals try refine q0v ?_
  all_goals try replace hp := q0a hp
  all_goals try (intros; first | trivial | omega)
  all_goals (try (rw [w64 (by omega) (by omega)]; first | done | omega))
  all_goals clear hC
  all_goals first
  | omega
  | (intro q; rw [w64 (by omega) (by omega)]; omega)
  | (unfold qf4
     by_cases q : 1 ≤ n ∧ n ≤ (t.records.length : Int)
     · rw [w64 (by omega) (by omega)]
     · have e : (decide (1 ≤ n) && decide (n ≤ (t.records.length : Int))) = false := by simp; omega
       rw [e]; simp)
end
noncomputable def cfg38o : Cfg := mkC 10 q2n
theorem qbh9 : cfg38o.pins = [] ∧ cfg38o.P = Tryz.prog ∧ cfg38o.N = 10 ∧ cfg38o.ti 73 = none ∧ cfg38o.T 73 = e73 ∧ cfg38o.mv 73 = (fun _ => []) := by and_intros <;> exact rfl
section
attribute [local go_sem] qbh9 e73
theorem qbtz (hC : COk cfg38o) (t : Table) (hp : (t.file.format.fields.length ≤ 1000000 ∧ t.file.keys.length ≤ 1000000 ∧ t.records.length ≤ 1000000)) : Sem Tryz.prog 38 [.d (q0g t)] (.agg [.d (.s t.file.name), .d (.s t.file.format.name), .d (.sl 4 (t.file.format.fields.map q05)), .d (.sl 2 (t.file.keys.map q06)), .d (.b t.file.unique), .own 104 2 (t.records.map qbp)]) := by
  refine q0f (C := cfg38o) (rs := [.cell 2 80]) (fun _ => [(5, 104, 2)]) Tryz.func38 rfl rfl rfl rfl rfl rfl ?_
  refine inQ ?_
  repeat' first
  | (with_reducible first | apply q0l | apply q0c | apply AW.seq | apply AW.block | apply AW.skip | apply AW.exit | apply AW.ret | apply q0m | apply q0n | apply q0d | apply q0e | refine q0b rfl ?_ | apply q0o | apply q0p | apply And.intro)
  | (with_reducible first | (refine AW.runK hC ?_; intro K hK) | (refine AW.drawK hC (by kernel_rfl) ?_; intro K hK))
  | ((with_reducible first | refine q0t ?_ | refine qbz ?_ | refine q0k ?_); refine siQ ?_; (try simp (disch := omega) only [w64, wu8]))
  | (with_reducible refine qbj (by kernel_rfl) ?_)
  | ((first | refine AW.cond rfl (fun h => ?_) fun h => ?_ | refine AW.cond_ub rfl (fun h => ?_) ?_ | refine AW.cond_nb rfl ?_ fun h => ?_) <;> (try replace h := q0a h) <;> try (exfalso; first | omega | exact absurd h (by decide)))
  | (refine q0h ?_; refine subQ ?_)
  | (subst hK)
  | exact trivial
  all_goals try (intros; assumption)
  all_goals try refine q0v ?_
  all_goals try replace hp := q0a hp
  all_goals try (intros; first | trivial | omega)
  all_goals (try (rw [w64 (by omega) (by omega)]; first | done | omega))
  all_goals clear hC
  all_goals first | omega | (simp_all [dles]; done) | exact q0q _
end
noncomputable def cfg141 : Cfg := mkC 28 q2o
theorem qbia : cfg141.pins = [] ∧ cfg141.P = Tryz.prog ∧ cfg141.N = 28 ∧ cfg141.ti 38 = none ∧ cfg141.T 38 = e38o ∧ cfg141.mv 38 = (fun _ => []) := by and_intros <;> exact rfl
section
attribute [local go_sem] qbia e38o
theorem qbt0 (hC : COk cfg141) (t : Table) (n : Int) (r : Rec) (hp : 1 ≤ n ∧ n ≤ (t.records.length : Int) + 1 ∧ t.records.length ≤ 1000000 ∧ t.file.format.fields.length ≤ 1000000 ∧ t.file.keys.length ≤ 1000000) : Sem Tryz.prog 141 [.d (q0g t), .d (.i .i64 n), .d (qbp r)] (.d (q0g (qey t n r))) := by
  refine q0f (C := cfg141) (rs := [.cell 6 80]) (fun _ => []) Tryz.func141 rfl rfl rfl rfl rfl rfl ?_
  refine inQ ?_
  repeat' first
  | (with_reducible first | apply q0l | apply q0c | apply AW.seq | apply AW.block | apply AW.skip | apply AW.exit | apply AW.ret | apply q0m | apply q0n | apply q0d | apply q0e | refine q0b rfl ?_ | apply q0o | apply q0p | apply And.intro)
  | (with_reducible refine AW.runK hC ?_; intro K hK)
  | ((with_reducible first | refine q0t ?_ | refine q0k ?_); refine siQ ?_; (try simp (disch := omega) only [w64, wu8]))
  | ((first | refine AW.cond rfl (fun h => ?_) fun h => ?_ | refine AW.cond_ub rfl (fun h => ?_) ?_ | refine AW.cond_nb rfl ?_ fun h => ?_) <;> (try replace h := q0a h) <;> try (exfalso; first | omega | exact absurd h (by decide)))
  | (refine q0h ?_; refine subQ ?_)
  | (subst hK)
  | exact trivial
  all_goals try (intros; assumption)
  all_goals try refine q0v ?_
  all_goals try replace hp := q0a hp
  all_goals try (intros; first | trivial | omega)
  all_goals (try (rw [w64 (by omega) (by omega)]; first | done | omega))
  all_goals clear hC
  all_goals first
  | omega
  | rfl
  | exact q0q _
  | exact qj3 (qxv (by assumption))
  | exact qj3 (qxw (by assumption))
  | (intro d hd; subst hd; exact ⟨rfl, by simp [D.cells, D.one]⟩)
end
noncomputable def cfg124 : Cfg := mkC 97 q2p
theorem qbib : cfg124.pins = [] ∧ cfg124.P = Tryz.prog ∧ cfg124.N = 97 ∧ cfg124.T 41 = e41 ∧ cfg124.T 76 = e76 ∧ cfg124.T 96 = e96 ∧ cfg124.T 139 = e139 ∧ cfg124.T 140 = e140 ∧ cfg124.ti = (fun _ => none) ∧ cfg124.mv = fun _ _ => [] := by and_intros <;> exact rfl
section
attribute [local go_sem] qbib e41 e76 e96 e139 e140
theorem qbt1 (hC : COk cfg124) (t : Table) (c : Change) (hp : (t.file.format.fields.length ≤ 1000000 ∧ t.file.keys.length ≤ 1000000 ∧ t.records.length ≤ 1000000)) : Sem Tryz.prog 124 [.d (q0g t), .d (q0u c)] (.d (.i .i64 (qcx t c))) := by
  refine q0f (C := cfg124) (rs := [.tmp 4]) (fun _ => []) Tryz.func124 rfl rfl rfl rfl rfl rfl ?_
  refine inQ ?_
  repeat' first
  | (with_reducible first | apply q0l | apply q0c | apply AW.seq | apply AW.block | apply AW.skip | apply AW.exit | apply AW.ret | apply q0m | apply q0n | apply q0d | apply q0e | refine q0b rfl ?_ | apply q0o | apply q0p | apply And.intro)
  | (with_reducible first | (refine AW.runK hC ?_; intro K hK) | (refine AW.drawK hC (by kernel_rfl) ?_; intro K hK))
  | ((with_reducible first | refine q0t ?_ | refine qbz ?_ | refine q0k ?_); refine siQ ?_; (try simp (disch := omega) only [w64, wu8]))
  | (with_reducible refine qbj (by kernel_rfl) ?_)
  | ((first | refine AW.cond rfl (fun h => ?_) fun h => ?_ | refine AW.cond_ub rfl (fun h => ?_) ?_ | refine AW.cond_nb rfl ?_ fun h => ?_) <;> (try replace h := q0a h) <;> try (exfalso; first | omega | exact absurd h (by decide)))
  | (refine q0h ?_; refine subQ ?_)
  | (subst hK)
  | exact trivial
  all_goals try (intros; assumption)
  all_goals try refine q0v ?_
  all_goals try replace hp := q0a hp
  all_goals try (intros; first | trivial | omega)
  all_goals (try (rw [w64 (by omega) (by omega)]; first | done | omega))
  all_goals clear hC
  all_goals first
  | omega
  | exact qbxl (by assumption) (by assumption) (by assumption) (by assumption) (by assumption) (by assumption) (by assumption) (by assumption) (by assumption) (by assumption)
  | exact rc_9 (by assumption) (by assumption) (by assumption) (by assumption) (by assumption) (by assumption) (by assumption) (by assumption) (by assumption) (by assumption)
  | exact rc_8 (by assumption) (by assumption) (by assumption) (by assumption) (by assumption) (by assumption) (by assumption) (by assumption) (by assumption)
  | exact rc_7 (by assumption) (by assumption) (by assumption) (by assumption) (by assumption) (by assumption) (by assumption) (by assumption)
  | exact rc_6 (by assumption) (by assumption) (by assumption) (by assumption) (by assumption) (by assumption) (by assumption)
  | exact rc_5 (by assumption) (by assumption) (by assumption) (by assumption) (by assumption) (by assumption)
  | exact rc_4 (by assumption) (by assumption) (by assumption) (by assumption) (by assumption)
  | exact rc_3 (by assumption) (by assumption) (by assumption) (by assumption)
  | exact rc_2 (by assumption) (by assumption) (by assumption)
  | exact rc_1 (by assumption) (by assumption)
  | exact rc_0 (by assumption)
end
noncomputable def cfg125 : Cfg := mkC 15 q2q
theorem qbic : cfg125.pins = [] ∧ cfg125.P = Tryz.prog ∧ cfg125.N = 15 ∧ cfg125.ti 141 = none ∧ cfg125.T 141 = e141 ∧ cfg125.mv 141 = (fun _ => []) := by and_intros <;> exact rfl
section
attribute [local go_sem] qbic e141
theorem qbt2 (hC : COk cfg125) (t : Table) (c : Change) (hp : 1 ≤ c.rrn ∧ c.rrn ≤ (t.records.length : Int) + 1 ∧ t.records.length ≤ 1000000 ∧ t.file.format.fields.length ≤ 1000000 ∧ t.file.keys.length ≤ 1000000) : Sem Tryz.prog 125 [.d (q0g t), .d (q0u c)] (.d (q0g (qey t c.rrn (qfb c)))) := by
  refine q0f (C := cfg125) (rs := [.cell 4 80]) (fun _ => []) Tryz.func125 rfl rfl rfl rfl rfl rfl ?_
  refine inQ ?_
  repeat' first
  | (with_reducible first | apply q0l | apply q0c | apply AW.seq | apply AW.block | apply AW.skip | apply AW.exit | apply AW.ret | apply q0m | apply q0n | apply q0d | apply q0e | refine q0b rfl ?_ | apply q0o | apply q0p | apply And.intro)
  | (with_reducible refine AW.runK hC ?_; intro K hK)
  | ((with_reducible first | refine q0t ?_ | refine q0k ?_); refine siQ ?_; (try simp (disch := omega) only [w64, wu8]))
  | ((first | refine AW.cond rfl (fun h => ?_) fun h => ?_ | refine AW.cond_ub rfl (fun h => ?_) ?_ | refine AW.cond_nb rfl ?_ fun h => ?_) <;> (try replace h := q0a h) <;> try (exfalso; first | omega | exact absurd h (by decide)))
  | (refine q0h ?_; refine subQ ?_)
  | (subst hK)
  | exact trivial
  all_goals try (intros; assumption)
  all_goals try refine q0v ?_
  all_goals try replace hp := q0a hp
  all_goals try (intros; first | trivial | omega)
  all_goals (try (rw [w64 (by omega) (by omega)]; first | done | omega))
  all_goals clear hC
  all_goals first
  | omega
  | exact q0q _
end
noncomputable def cfg97 : Cfg := mkC 17 q2r
theorem qbo0 : cfg97.pins = [] ∧ cfg97.P = Tryz.prog ∧ cfg97.N = 17 ∧ cfg97.T 124 = e124 ∧ cfg97.T 125 = e125 ∧ cfg97.ti = (fun _ => none) ∧ cfg97.mv = fun _ _ => [] := by and_intros <;> exact rfl
section
attribute [local go_sem] qbo0 e124 e125
theorem qby7 (hC : COk cfg97) (t : Table) (c : Change) (hp : (t.file.format.fields.length ≤ 1000000 ∧ t.file.keys.length ≤ 1000000 ∧ t.records.length ≤ 1000000)) : Sem Tryz.prog 97 [.d (q0g t), .d (q0u c)] (.tup [.d (q0g (qgb t c).1), .d (.i .i64 (qgb t c).2)]) := by
  refine q0f (C := cfg97) (rs := [.cell 4 80, .tmp 5]) (fun _ => []) Tryz.func97 rfl rfl rfl rfl rfl rfl ?_
  refine inQ ?_
  repeat' first
  | (with_reducible first | apply q0l | apply q0c | apply AW.seq | apply AW.block | apply AW.skip | apply AW.exit | apply AW.ret | apply q0m | apply q0n | apply q0d | apply q0e | refine q0b rfl ?_ | apply q0o | apply q0p | apply And.intro)
  | (with_reducible refine AW.runK hC ?_; intro K hK)
  | ((with_reducible first | refine q0t ?_ | refine q0k ?_); refine siQ ?_; (try simp (disch := omega) only [w64, wu8]))
  | ((first | refine AW.cond rfl (fun h => ?_) fun h => ?_ | refine AW.cond_ub rfl (fun h => ?_) ?_ | refine AW.cond_nb rfl ?_ fun h => ?_) <;> (try replace h := q0a h) <;> try (exfalso; first | omega | exact absurd h (by decide)))
  | (refine q0h ?_; refine subQ ?_)
  | (subst hK)
  | exact trivial
  all_goals try (intros; assumption)
  all_goals try refine q0v ?_
  all_goals try replace hp := q0a hp
  all_goals try (intros; first | trivial | omega)
  all_goals (try (rw [w64 (by omega) (by omega)]; first | done | omega))
  all_goals clear hC
  all_goals first
  | omega
  | exact (qnb (by assumption)).1
  | exact (qnb (by assumption)).2
  | (rw [qmd (by assumption)]; done)
  | (rw [qmd (by assumption)]; rfl)
  | (rw [qh5 (by assumption)]; done)
  | (rw [qh5 (by assumption)]; rfl)
  | (rw [qh5 (by assumption)]; exact q0q _)
end
noncomputable def cfg45 : Cfg := mkC 18 q8n
theorem qbo1 : cfg45.pins = [] ∧ cfg45.P = Tryz.prog ∧ cfg45.N = 18 := ⟨rfl, rfl, rfl⟩
section
attribute [local go_sem] qbo1
theorem qby8 (hC : COk cfg45) (c : Change) : Sem Tryz.prog 45 [.d (q0u c)] (.d (q0u (revC c))) := by
  refine q0f (C := cfg45) (rs := [.cell 2 48]) (fun _ => []) Tryz.func45 rfl rfl rfl rfl rfl rfl ?_
  refine inQ ?_
  repeat' first
  | (with_reducible first | apply q0l | apply q0c | apply AW.seq | apply AW.block | apply AW.skip | apply AW.exit | apply AW.ret | apply q0m | apply q0n | apply q0d | apply q0e | refine q0b rfl ?_ | apply q0o | apply q0p | apply And.intro)
  | (with_reducible refine AW.runK hC ?_; intro K hK)
  | ((with_reducible first | refine q0t ?_ | refine q0k ?_); refine siQ ?_; (try simp (disch := omega) only [w64, wu8]))
  | ((first | refine AW.cond rfl (fun h => ?_) fun h => ?_ | refine AW.cond_ub rfl (fun h => ?_) ?_ | refine AW.cond_nb rfl ?_ fun h => ?_) <;> (try replace h := q0a h) <;> try (exfalso; first | omega | exact absurd h (by decide)))
  | (refine q0h ?_; refine subQ ?_)
  | (subst hK)
  | exact trivial
  all_goals try (intros; assumption)
  all_goals try refine q0v ?_
  all_goals try (intros; first | trivial | omega)
  all_goals (try (rw [w64 (by omega) (by omega)]; first | done | omega))
  all_goals clear hC
  all_goals first
  | omega
  | (unfold revC qhx; simp_all; done)
  | (unfold revC qhx; grind)
end
noncomputable def cfg77 : Cfg := mkC 21 q8o
theorem qbo2 : cfg77.pins = [] ∧ cfg77.P = Tryz.prog ∧ cfg77.N = 21 := ⟨rfl, rfl, rfl⟩
section
attribute [local go_sem] qbo2
attribute [local go_sem] qc0 qcm
theorem qby9 (hC : COk cfg77) (l : List Table) (n : ByteArray) (hp : l.length ≤ 1000000) : Sem Tryz.prog 77 [.d (.sl 6 (l.map q0g)), .d (.s n)] (.d (.i .i64 (qbq l n))) := by
  refine q0f (C := cfg77) (rs := [.tmp 4]) (fun _ => []) Tryz.func77 rfl rfl rfl rfl rfl rfl ?_
  refine inQ ?_
  repeat' first
  | (with_reducible first | apply q0l | apply q0c | apply AW.seq | apply AW.block | apply AW.skip | apply AW.exit | apply AW.ret | apply q0m | apply q0n | apply q0d | apply q0e | refine q0b rfl ?_ | apply q0o | apply q0p | apply And.intro)
  | (refine AW.atR 4 rfl ?_; have hg : ∀ z, (l.map q0g).getD i z = q0g (l.getD i q0z) := fun z => qgj (by omega) z)
  | (with_reducible first | (refine AWh.runK hC ?_; intro K hK) | (refine AWh.drawK hC (by kernel_rfl) ?_; intro K hK))
  | (with_reducible refine AW.runK hC ?_; intro K hK)
  | ((with_reducible first | refine q0t ?_ | refine q0k ?_); (first | (simp (maxSteps := 1000000) only [go_sem, ↓reduceIte, reduceCtorEq, Nat.reduceEqDiff, Nat.reduceLT, Nat.reduceLeDiff, Nat.reduceMul, Nat.reduceAdd, Nat.reduceSub, reduceDIte, Nat.reduceBEq, Nat.reduceBNe, hg]) | (refine siQ ?_)); (try simp (disch := omega) only [w64, wu8]))
  | ((first | refine AW.cond rfl (fun h => ?_) fun h => ?_ | refine AW.cond_ub rfl (fun h => ?_) ?_ | refine AW.cond_nb rfl ?_ fun h => ?_) <;> (try replace h := q0a h) <;> try (exfalso; first | omega | exact absurd h (by decide)))
  | (refine AW.loopN 2 rfl (ι := Nat) (fun i => mkS [(0, V.d (.sl 6 (l.map q0g))), (1, V.d (.s n)), (5, V.d (.i .i64 (i : Int)))] ([])) (fun i => i ≤ l.length ∧ ∀ j, j < i → qf3 l n j = 0) (fun i => l.length - i) (0) ?_ ?_ (fun i hi => ?_) <;> (try dsimp only) <;> (try dsimp only at hi))
  | (refine LoopNext.mk1 2 (i + 1) ?_ ?_ ?_ <;> (try dsimp only))
  | (refine q0h ?_; refine subQ ?_)
  | (subst hK)
  | exact trivial
  all_goals try (intros; assumption)
  all_goals try refine q0v ?_
  all_goals try replace hp := q0a hp
  all_goals try replace hi := q0a hi
  all_goals try (intros; first | trivial | omega)
  all_goals (try (rw [w64 (by omega) (by omega)]; first | done | omega))
  all_goals clear hC
  all_goals first
  | omega
  | (rw [q1f hi.2 (by omega) (by assumption)]; done)
  | (rw [q1g hi.2 (by omega)]; done)
  | exact qes hi.2 (qba1 (by assumption))
end
noncomputable def cfg74 : Cfg := mkC 35 q8p
theorem qbo3 : cfg74.pins = [] ∧ cfg74.P = Tryz.prog ∧ cfg74.N = 35 ∧ cfg74.T 77 = e77 ∧ cfg74.T 96 = e96 ∧ cfg74.ti = (fun _ => none) ∧ cfg74.mv = fun _ _ => [] := by and_intros <;> exact rfl
section
attribute [local go_sem] qbo3 e77 e96
attribute [local go_sem] qc0 qcm
theorem qbza (hC : COk cfg74) (l : List Table) (hp : okTs l) : Sem Tryz.prog 74 [.d (.sl 6 (l.map q0g))] (.tup [.d (.i .i64 (qki l).1), .d (.i .i64 (qki l).2)]) := by
  refine q0f (C := cfg74) (rs := [.tmp 2, .tmp 3]) (fun _ => []) Tryz.func74 rfl rfl rfl rfl rfl rfl ?_
  refine inQ ?_
  repeat' first
  | (with_reducible first | apply q0l | apply q0c | apply AW.seq | apply AW.block | apply AW.skip | apply AW.exit | apply AW.ret | apply q0m | apply q0n | apply q0d | apply q0e | refine q0b rfl ?_ | apply q0o | apply q0p | apply And.intro)
  | (refine AW.atR 6 rfl ?_; have hB : l.length ≤ 1000000 := hp.1; have hg : ∀ z, (l.map q0g).getD i z = q0g (l.getD i q0z) := fun z => qgj (by omega) z)
  | (with_reducible first | (refine AWh.runK hC ?_; intro K hK) | (refine AWh.drawK hC (by kernel_rfl) ?_; intro K hK))
  | (with_reducible refine AW.runK hC ?_; intro K hK)
  | ((with_reducible first | refine q0t ?_ | refine q0k ?_); (first | (simp (maxSteps := 1000000) only [go_sem, ↓reduceIte, reduceCtorEq, Nat.reduceEqDiff, Nat.reduceLT, Nat.reduceLeDiff, Nat.reduceMul, Nat.reduceAdd, Nat.reduceSub, reduceDIte, Nat.reduceBEq, Nat.reduceBNe, hg]) | (refine siQ ?_)); (try simp (disch := omega) only [w64, wu8]))
  | ((first | refine AW.cond rfl (fun h => ?_) fun h => ?_ | refine AW.cond_ub rfl (fun h => ?_) ?_ | refine AW.cond_nb rfl ?_ fun h => ?_) <;> (try replace h := q0a h) <;> try (exfalso; first | omega | exact absurd h (by decide)))
  | (refine AW.loopN 4 rfl (ι := Nat) (fun i => mkS [(0, V.d (.sl 6 (l.map q0g))), (4, V.d (.i .i64 (i : Int)))] ([])) (fun i => i ≤ l.length ∧ l.length ≤ 8 ∧ ∀ j, j < i → tabE l j = 0) (fun i => l.length - i) (0) ?_ ?_ (fun i hi => ?_) <;> (try dsimp only) <;> (try dsimp only at hi))
  | (refine LoopNext.mk1 4 (i + 1) ?_ ?_ ?_ <;> (try dsimp only))
  | (refine q0h ?_; refine subQ ?_)
  | (subst hK)
  | exact trivial
  all_goals try (intros; assumption)
  all_goals try refine q0v ?_
  all_goals try replace hp := q0a hp
  all_goals try replace hi := q0a hi
  all_goals try (intros; first | trivial | omega)
  all_goals (try (rw [w64 (by omega) (by omega)]; first | done | omega))
  all_goals clear hC
  all_goals first
  | omega
  | exact hp.1
  | exact (hp.2 i).1
  | exact (hp.2 i).2.1
  | exact (hp.2 i).2.2
  | (rw [qbm2 (by assumption)]; done)
  | (rw [qbbo hi.2.1 hi.2.2 (by omega) (by rw [qp5 (by assumption)]; assumption)]; first | done | exact qp5 (by assumption))
  | (rw [qbbo hi.2.1 hi.2.2 (by omega) (by rw [qp6 (by assumption) (by assumption)]; decide)]; first | done | exact qp6 (by assumption) (by assumption))
  | (rw [qbrx hi.2.1 hi.2.2 (by omega)]; done)
  | exact qes hi.2.2 (qwl (by assumption) (by assumption))
end
noncomputable def cfg38d : Cfg := mkC 10 q8q
theorem qbid : cfg38d.pins = [] ∧ cfg38d.P = Tryz.prog ∧ cfg38d.N = 10 ∧ cfg38d.ti 73 = none ∧ cfg38d.T 73 = e73 ∧ cfg38d.mv 73 = (fun _ => []) := by and_intros <;> exact rfl
section
attribute [local go_sem] qbid e73
theorem qbt3 (hC : COk cfg38d) (t : Table) (hp : (t.file.format.fields.length ≤ 1000000 ∧ t.file.keys.length ≤ 1000000 ∧ t.records.length ≤ 1000000)) : Sem Tryz.prog 38 [.d (q0g t)] (.d (q0g t)) := by
  refine q0f (C := cfg38d) (rs := [.cell 2 80]) (fun _ => []) Tryz.func38 rfl rfl rfl rfl rfl rfl ?_
  refine inQ ?_
  repeat' first
  | (with_reducible first | apply q0l | apply q0c | apply AW.seq | apply AW.block | apply AW.skip | apply AW.exit | apply AW.ret | apply q0m | apply q0n | apply q0d | apply q0e | refine q0b rfl ?_ | apply q0o | apply q0p | apply And.intro)
  | (with_reducible first | (refine AW.runK hC ?_; intro K hK) | (refine AW.drawK hC (by kernel_rfl) ?_; intro K hK))
  | ((with_reducible first | refine q0t ?_ | refine qbz ?_ | refine q0k ?_); refine siQ ?_; (try simp (disch := omega) only [w64, wu8]))
  | (with_reducible refine qbj (by kernel_rfl) ?_)
  | ((first | refine AW.cond rfl (fun h => ?_) fun h => ?_ | refine AW.cond_ub rfl (fun h => ?_) ?_ | refine AW.cond_nb rfl ?_ fun h => ?_) <;> (try replace h := q0a h) <;> try (exfalso; first | omega | exact absurd h (by decide)))
  | (refine q0h ?_; refine subQ ?_)
  | (subst hK)
  | exact trivial
  all_goals try (intros; assumption)
  all_goals try refine q0v ?_
  all_goals try replace hp := q0a hp
  all_goals try (intros; first | trivial | omega)
  all_goals (try (rw [w64 (by omega) (by omega)]; first | done | omega))
  all_goals clear hC
  all_goals first | omega | (simp_all [dles]; done) | exact q0q _
end
end Go.Ev
