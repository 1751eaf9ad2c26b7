/- Tools and contracts under the laws of this seat: Dyc123 to Dyc38d. -/
import Derived.Test.YtkgkgcojfocomaaGreatE09
set_option linter.unusedVariables false
set_option linter.unusedSimpArgs false
namespace Go.Ev
open Go.Proofs Ty
set_option maxRecDepth 10000
set_option maxHeartbeats 4000000
set_option linter.unusedSimpArgs false
set_option linter.unusedVariables false
attribute [local go_sem] qbe qbg qcb qcy qb6 qda qdn qef Int.toNat_natCast qc9 qd4 qep qcq qcc qbm qb0 decI List.length_map qbf qbl q03 qb4 qc4 qdr qbt qb1 qd9 qe4 q06 qbv qcl qc8 qb5 qcd qds qea qbo qc0 qeb qe5 qbz qbp qcp qc6 qcn qed qc7 qco qee qc5 qcm qec List.length_take qce Int.toNat_zero Nat.sub_zero List.drop_zero q0g q0x qdb qdw q0u q0z q08 qbh qcs qct List.length_set Nat.le_refl
attribute [local go_sem ←] List.map_take List.map_drop
noncomputable def cfg123 : Cfg := ⟨Tryz.prog, 51, q004, (fun _ _ => []), [], (fun _ => none)⟩
theorem qbf9 : cfg123.pins = [] ∧ cfg123.P = Tryz.prog ∧ cfg123.N = 51 ∧ cfg123.ti 138 = none ∧ cfg123.T 138 = e138 ∧ cfg123.mv 138 = (fun _ => []) ∧ cfg123.ti 139 = none ∧ cfg123.T 139 = e139 ∧ cfg123.mv 139 = (fun _ => []) := ⟨rfl, rfl, rfl, rfl, rfl, rfl, rfl, rfl, rfl⟩
section
attribute [local go_sem] qbf9 e138 e139
theorem qbrq (hC : COk cfg123) (t : Table) (hp : (t.file.format.fields.length ≤ 1000000 ∧ t.file.keys.length ≤ 1000000 ∧ t.records.length ≤ 1000000)) : Sem Tryz.prog 123 [.d (q0g t)] (.tup [.d (.i .i64 (q09 t).1), .d (.i .i64 (q09 t).2)]) := by
  refine q0f (C := cfg123) (rs := [.tmp 2, .tmp 3]) (fun _ => []) Tryz.func123 rfl rfl rfl rfl rfl rfl ?_
  refine inQ ?_
  repeat' first
    | (with_reducible first | apply q0j | apply q0c | apply AW.seq | apply AW.block)
    | (with_reducible refine AW.runK hC ?_; intro K hK)
    | ((with_reducible first | refine q0t ?_ | refine q0i ?_); refine siQ ?_; (try simp (disch := omega) only [w64, wu8]))
    | ((first | (refine AW.cond rfl (fun h => ?_) (fun h => ?_)) | (refine AW.cond_ub rfl (fun h => ?_) ?_) | (refine AW.cond_nb rfl ?_ (fun h => ?_))) <;> (try replace h := q0a h) <;> (try (exfalso; first | omega | exact absurd h (by decide))))
    | (with_reducible first | apply AW.skip | apply AW.exit | apply AW.ret | apply q0k | apply q0l | apply q0d | apply q0e | refine q0b rfl ?_ | apply q0m | apply q0n)
    | (refine AW.loopN 7 rfl (ι := Nat) (fun i => mkS [(1, V.ptr 16 0), (5, V.d (.i .i64 (i : Int)))] ([(16, .live (.box 80 [.d (.s t.file.name), .d (.s t.file.format.name), .d (.sl 4 (t.file.format.fields.map q03)), .d (.sl 2 (t.file.keys.map q06)), .d (.b t.file.unique), .d (.sl 2 (t.records.map qbo))]))])) (fun i => i ≤ t.records.length ∧ ((qch t.file).2 = 0 ∧ t.records.length ≤ 60) ∧ ∀ j, j < i → recE t j = 0) (fun i => t.records.length - i) (0) ?_ ?_ (fun i hi => ?_) <;> (try dsimp only) <;> (try dsimp only at hi))
    | (refine LoopNext.mk1 7 (i + 1) ?_ ?_ ?_ <;> (try dsimp only))
    | (refine q0h ?_; refine subQ ?_)
    | (with_reducible refine And.intro ?_ ?_)
    | (subst hK)
    | exact trivial
  all_goals (try (intros; assumption))
  all_goals (try refine q0v ?_)
  all_goals (try replace hp := q0a hp)
  all_goals (try replace hi := q0a hi)
  all_goals (try (intros; trivial))
  all_goals (try (intros; omega))
  all_goals (try (rw [w64 (by omega) (by omega)]; first | done | omega))
  all_goals clear hC
  all_goals first
    | rfl
    | omega
    | (rw [qbd7 (by assumption)]; done)
    | (rw [qbpo (by assumption) (by omega)]; done)
    | exact hi.2.1.1
    | exact hi.2.1.2
    | (rw [qn0 hi.2.1 hi.2.2 (by omega) (by unfold recE; simp_all)]; unfold recE; simp_all; done)
    | (rw [qn0 hi.2.1 hi.2.2 (by omega) (by unfold recE; simp_all)]; done)
    | exact qe3 hi.2.2 (by unfold recE; simp_all)
    | (rw [qwj hi.2.1 hi.2.2 (by omega)]; done)
end
noncomputable def cfg96 : Cfg := ⟨Tryz.prog, 11, q005, (fun _ _ => []), [], (fun _ => none)⟩
theorem qbmw : cfg96.pins = [] ∧ cfg96.P = Tryz.prog ∧ cfg96.N = 11 ∧ cfg96.ti 123 = none ∧ cfg96.T 123 = e123 ∧ cfg96.mv 123 = (fun _ => []) := ⟨rfl, rfl, rfl, rfl, rfl, rfl⟩
section
attribute [local go_sem] qbmw e123
theorem qbwy (hC : COk cfg96) (t : Table) (hp : (t.file.format.fields.length ≤ 1000000 ∧ t.file.keys.length ≤ 1000000 ∧ t.records.length ≤ 1000000)) : Sem Tryz.prog 96 [.d (q0g t)] (.d (.i .i64 (q09 t).2)) := by
  refine q0f (C := cfg96) (rs := [.tmp 2]) (fun _ => []) Tryz.func96 rfl rfl rfl rfl rfl rfl ?_
  refine inQ ?_
  repeat' first
    | (with_reducible first | apply q0j | apply q0c | apply AW.seq | apply AW.block)
    | (with_reducible refine AW.runK hC ?_; intro K hK)
    | ((with_reducible first | refine q0t ?_ | refine q0i ?_); refine siQ ?_; (try simp (disch := omega) only [w64, wu8]))
    | ((first | (refine AW.cond rfl (fun h => ?_) (fun h => ?_)) | (refine AW.cond_ub rfl (fun h => ?_) ?_) | (refine AW.cond_nb rfl ?_ (fun h => ?_))) <;> (try replace h := q0a h) <;> (try (exfalso; first | omega | exact absurd h (by decide))))
    | (with_reducible first | apply AW.skip | apply AW.exit | apply AW.ret | apply q0k | apply q0l | apply q0d | apply q0e | refine q0b rfl ?_ | apply q0m | apply q0n)
    | (refine q0h ?_; refine subQ ?_)
    | (with_reducible refine And.intro ?_ ?_)
    | (subst hK)
    | exact trivial
  all_goals (try (intros; assumption))
  all_goals (try refine q0v ?_)
  all_goals (try replace hp := q0a hp)
  all_goals (try (intros; trivial))
  all_goals (try (intros; omega))
  all_goals (try (rw [w64 (by omega) (by omega)]; first | done | omega))
end
noncomputable def cfg140 : Cfg := ⟨Tryz.prog, 20, q6x, (fun _ _ => []), [], (fun _ => none)⟩
theorem qbga : cfg140.pins = [] ∧ cfg140.P = Tryz.prog ∧ cfg140.N = 20 ∧ cfg140.ti 41 = none ∧ cfg140.T 41 = e41 ∧ cfg140.mv 41 = (fun _ => []) := ⟨rfl, rfl, rfl, rfl, rfl, rfl⟩
section
attribute [local go_sem] qbga e41
theorem qbrr (hC : COk cfg140) (t : Table) (n : Int) (hp : t.records.length ≤ 1000000) : Sem Tryz.prog 140 [.d (q0g t), .d (.i .i64 n)] (.d (.b (qfx t n))) := by
  refine q0f (C := cfg140) (rs := [.tmp 4]) (fun _ => []) Tryz.func140 rfl rfl rfl rfl rfl rfl ?_
  refine inQ ?_
  repeat' first
    | (with_reducible first | apply q0j | apply q0c | apply AW.seq | apply AW.block)
    | (with_reducible refine AW.runK hC ?_; intro K hK)
    | ((with_reducible first | refine q0t ?_ | refine q0i ?_); refine siQ ?_; (try simp (disch := omega) only [w64, wu8]))
    | ((first | (refine AW.cond rfl (fun h => ?_) (fun h => ?_)) | (refine AW.cond_ub rfl (fun h => ?_) ?_) | (refine AW.cond_nb rfl ?_ (fun h => ?_))) <;> (try replace h := q0a h) <;> (try (exfalso; first | omega | exact absurd h (by decide))))
    | (with_reducible first | apply AW.skip | apply AW.exit | apply AW.ret | apply q0k | apply q0l | apply q0d | apply q0e | refine q0b rfl ?_ | apply q0m | apply q0n)
    | (refine q0h ?_; refine subQ ?_)
    | (with_reducible refine And.intro ?_ ?_)
    | (subst hK)
    | exact trivial
  all_goals (try (intros; assumption))
  all_goals (try refine q0v ?_)
  all_goals (try replace hp := q0a hp)
  all_goals (try (intros; trivial))
  all_goals (try (intros; omega))
  all_goals (try (rw [w64 (by omega) (by omega)]; first | done | omega))
  all_goals clear hC
  all_goals first
    | omega
    | (intro q; rw [w64 (by omega) (by omega)]; omega)
    | (unfold qfx
       by_cases q : 1 ≤ n ∧ n ≤ (t.records.length : Int)
       · rw [w64 (by omega) (by omega)]
       · have e : (decide (1 ≤ n) && decide (n ≤ (t.records.length : Int))) = false := by simp; omega
         rw [e]; simp)
end
noncomputable def cfg38o : Cfg := ⟨Tryz.prog, 10, q009, (fun _ _ => []), [], (fun _ => none)⟩
theorem qbgb : cfg38o.pins = [] ∧ cfg38o.P = Tryz.prog ∧ cfg38o.N = 10 ∧ cfg38o.ti 73 = none ∧ cfg38o.T 73 = e73 ∧ cfg38o.mv 73 = (fun _ => []) := ⟨rfl, rfl, rfl, rfl, rfl, rfl⟩
section
attribute [local go_sem] qbgb e73
theorem qbrs (hC : COk cfg38o) (t : Table) (hp : (t.file.format.fields.length ≤ 1000000 ∧ t.file.keys.length ≤ 1000000 ∧ t.records.length ≤ 1000000)) : Sem Tryz.prog 38 [.d (q0g t)] (.agg [.d (.s t.file.name), .d (.s t.file.format.name), .d (.sl 4 (t.file.format.fields.map q03)), .d (.sl 2 (t.file.keys.map q06)), .d (.b t.file.unique), .own 104 2 (t.records.map qbo)]) := by
  refine q0f (C := cfg38o) (rs := [.cell 2 80]) (fun _ => [(5, 104, 2)]) Tryz.func38 rfl rfl rfl rfl rfl rfl ?_
  refine inQ ?_
  repeat' first
    | (with_reducible first | apply q0j | apply q0c | apply AW.seq | apply AW.block)
    | (with_reducible first | (refine AW.runK hC ?_; intro K hK) | (refine AW.drawK hC (by kernel_rfl) ?_; intro K hK))
    | ((with_reducible first | refine q0t ?_ | refine qb2 ?_ | refine q0i ?_); refine siQ ?_; (try simp (disch := omega) only [w64, wu8]))
    | (with_reducible refine qbn (by kernel_rfl) ?_)
    | ((first | (refine AW.cond rfl (fun h => ?_) (fun h => ?_)) | (refine AW.cond_ub rfl (fun h => ?_) ?_) | (refine AW.cond_nb rfl ?_ (fun h => ?_))) <;> (try replace h := q0a h) <;> (try (exfalso; first | omega | exact absurd h (by decide))))
    | (with_reducible first | apply AW.skip | apply AW.exit | apply AW.ret | apply q0k | apply q0l | apply q0d | apply q0e | refine q0b rfl ?_ | apply q0m | apply q0n)
    | (refine q0h ?_; refine subQ ?_)
    | (with_reducible refine And.intro ?_ ?_)
    | (subst hK)
    | exact trivial
  all_goals (try (intros; assumption))
  all_goals (try refine q0v ?_)
  all_goals (try replace hp := q0a hp)
  all_goals (try (intros; trivial))
  all_goals (try (intros; omega))
  all_goals (try (rw [w64 (by omega) (by omega)]; first | done | omega))
  all_goals clear hC
  all_goals first | omega | (simp_all [dles]; done) | exact q0p _
end
noncomputable def cfg141 : Cfg := ⟨Tryz.prog, 28, q1a, (fun _ _ => []), [], (fun _ => none)⟩
theorem qbgc : cfg141.pins = [] ∧ cfg141.P = Tryz.prog ∧ cfg141.N = 28 ∧ cfg141.ti 38 = none ∧ cfg141.T 38 = e38o ∧ cfg141.mv 38 = (fun _ => []) := ⟨rfl, rfl, rfl, rfl, rfl, rfl⟩
section
attribute [local go_sem] qbgc e38o
theorem qbrt (hC : COk cfg141) (t : Table) (n : Int) (r : Rec) (hp : 1 ≤ n ∧ n ≤ (t.records.length : Int) + 1 ∧ t.records.length ≤ 1000000 ∧ t.file.format.fields.length ≤ 1000000 ∧ t.file.keys.length ≤ 1000000) : Sem Tryz.prog 141 [.d (q0g t), .d (.i .i64 n), .d (qbo r)] (.d (q0g (qhl t n r))) := by
  refine q0f (C := cfg141) (rs := [.cell 6 80]) (fun _ => []) Tryz.func141 rfl rfl rfl rfl rfl rfl ?_
  refine inQ ?_
  repeat' first
    | (with_reducible first | apply q0j | apply q0c | apply AW.seq | apply AW.block)
    | (with_reducible refine AW.runK hC ?_; intro K hK)
    | ((with_reducible first | refine q0t ?_ | refine q0i ?_); refine siQ ?_; (try simp (disch := omega) only [w64, wu8]))
    | ((first | (refine AW.cond rfl (fun h => ?_) (fun h => ?_)) | (refine AW.cond_ub rfl (fun h => ?_) ?_) | (refine AW.cond_nb rfl ?_ (fun h => ?_))) <;> (try replace h := q0a h) <;> (try (exfalso; first | omega | exact absurd h (by decide))))
    | (with_reducible first | apply AW.skip | apply AW.exit | apply AW.ret | apply q0k | apply q0l | apply q0d | apply q0e | refine q0b rfl ?_ | apply q0m | apply q0n)
    | (refine q0h ?_; refine subQ ?_)
    | (with_reducible refine And.intro ?_ ?_)
    | (subst hK)
    | exact trivial
  all_goals (try (intros; assumption))
  all_goals (try refine q0v ?_)
  all_goals (try replace hp := q0a hp)
  all_goals (try (intros; trivial))
  all_goals (try (intros; omega))
  all_goals (try (rw [w64 (by omega) (by omega)]; first | done | omega))
  all_goals clear hC
  all_goals first
    | omega
    | rfl
    | exact q0p _
    | exact qjt (qwp (by assumption))
    | exact qjt (qwq (by assumption))
    | (intro d hd; subst hd; exact ⟨rfl, by simp [D.cells, D.one]⟩)
end
noncomputable def cfg124 : Cfg := ⟨Tryz.prog, 97, q1b, (fun _ _ => []), [], (fun _ => none)⟩
theorem qbgd : cfg124.pins = [] ∧ cfg124.P = Tryz.prog ∧ cfg124.N = 97 ∧ cfg124.ti 41 = none ∧ cfg124.T 41 = e41 ∧ cfg124.mv 41 = (fun _ => []) ∧ cfg124.ti 76 = none ∧ cfg124.T 76 = e76 ∧ cfg124.mv 76 = (fun _ => []) ∧ cfg124.ti 96 = none ∧ cfg124.T 96 = e96 ∧ cfg124.mv 96 = (fun _ => []) ∧ cfg124.ti 139 = none ∧ cfg124.T 139 = e139 ∧ cfg124.mv 139 = (fun _ => []) ∧ cfg124.ti 140 = none ∧ cfg124.T 140 = e140 ∧ cfg124.mv 140 = (fun _ => []) := ⟨rfl, rfl, rfl, rfl, rfl, rfl, rfl, rfl, rfl, rfl, rfl, rfl, rfl, rfl, rfl, rfl, rfl, rfl⟩
section
attribute [local go_sem] qbgd e41 e76 e96 e139 e140
theorem qbru (hC : COk cfg124) (t : Table) (c : Change) (hp : (t.file.format.fields.length ≤ 1000000 ∧ t.file.keys.length ≤ 1000000 ∧ t.records.length ≤ 1000000)) : Sem Tryz.prog 124 [.d (q0g t), .d (q0u c)] (.d (.i .i64 (qc1 t c))) := by
  refine q0f (C := cfg124) (rs := [.tmp 4]) (fun _ => []) Tryz.func124 rfl rfl rfl rfl rfl rfl ?_
  refine inQ ?_
  repeat' first
    | (with_reducible first | apply q0j | apply q0c | apply AW.seq | apply AW.block)
    | (with_reducible first | (refine AW.runK hC ?_; intro K hK) | (refine AW.drawK hC (by kernel_rfl) ?_; intro K hK))
    | ((with_reducible first | refine q0t ?_ | refine qb2 ?_ | refine q0i ?_); refine siQ ?_; (try simp (disch := omega) only [w64, wu8]))
    | (with_reducible refine qbn (by kernel_rfl) ?_)
    | ((first | (refine AW.cond rfl (fun h => ?_) (fun h => ?_)) | (refine AW.cond_ub rfl (fun h => ?_) ?_) | (refine AW.cond_nb rfl ?_ (fun h => ?_))) <;> (try replace h := q0a h) <;> (try (exfalso; first | omega | exact absurd h (by decide))))
    | (with_reducible first | apply AW.skip | apply AW.exit | apply AW.ret | apply q0k | apply q0l | apply q0d | apply q0e | refine q0b rfl ?_ | apply q0m | apply q0n)
    | (refine q0h ?_; refine subQ ?_)
    | (with_reducible refine And.intro ?_ ?_)
    | (subst hK)
    | exact trivial
  all_goals (try (intros; assumption))
  all_goals (try refine q0v ?_)
  all_goals (try replace hp := q0a hp)
  all_goals (try (intros; trivial))
  all_goals (try (intros; omega))
  all_goals (try (rw [w64 (by omega) (by omega)]; first | done | omega))
  all_goals clear hC
  all_goals first
    | omega
    | exact qbvd (by assumption) (by assumption) (by assumption) (by assumption) (by assumption) (by assumption) (by assumption) (by assumption) (by assumption) (by assumption)
    | exact rc_9 (by assumption) (by assumption) (by assumption) (by assumption) (by assumption) (by assumption) (by assumption) (by assumption) (by assumption) (by assumption)
    | exact rc_8 (by assumption) (by assumption) (by assumption) (by assumption) (by assumption) (by assumption) (by assumption) (by assumption) (by assumption)
    | exact rc_7 (by assumption) (by assumption) (by assumption) (by assumption) (by assumption) (by assumption) (by assumption) (by assumption)
    | exact rc_6 (by assumption) (by assumption) (by assumption) (by assumption) (by assumption) (by assumption) (by assumption)
    | exact rc_5 (by assumption) (by assumption) (by assumption) (by assumption) (by assumption) (by assumption)
    | exact rc_4 (by assumption) (by assumption) (by assumption) (by assumption) (by assumption)
    | exact rc_3 (by assumption) (by assumption) (by assumption) (by assumption)
    | exact rc_2 (by assumption) (by assumption) (by assumption)
    | exact rc_1 (by assumption) (by assumption)
    | exact rc_0 (by assumption)
end
noncomputable def cfg125 : Cfg := ⟨Tryz.prog, 15, q1c, (fun _ _ => []), [], (fun _ => none)⟩
theorem qbge : cfg125.pins = [] ∧ cfg125.P = Tryz.prog ∧ cfg125.N = 15 ∧ cfg125.ti 141 = none ∧ cfg125.T 141 = e141 ∧ cfg125.mv 141 = (fun _ => []) := ⟨rfl, rfl, rfl, rfl, rfl, rfl⟩
section
attribute [local go_sem] qbge e141
theorem qbrv (hC : COk cfg125) (t : Table) (c : Change) (hp : 1 ≤ c.rrn ∧ c.rrn ≤ (t.records.length : Int) + 1 ∧ t.records.length ≤ 1000000 ∧ t.file.format.fields.length ≤ 1000000 ∧ t.file.keys.length ≤ 1000000) : Sem Tryz.prog 125 [.d (q0g t), .d (q0u c)] (.d (q0g (qhl t c.rrn (qn1 c)))) := by
  refine q0f (C := cfg125) (rs := [.cell 4 80]) (fun _ => []) Tryz.func125 rfl rfl rfl rfl rfl rfl ?_
  refine inQ ?_
  repeat' first
    | (with_reducible first | apply q0j | apply q0c | apply AW.seq | apply AW.block)
    | (with_reducible refine AW.runK hC ?_; intro K hK)
    | ((with_reducible first | refine q0t ?_ | refine q0i ?_); refine siQ ?_; (try simp (disch := omega) only [w64, wu8]))
    | ((first | (refine AW.cond rfl (fun h => ?_) (fun h => ?_)) | (refine AW.cond_ub rfl (fun h => ?_) ?_) | (refine AW.cond_nb rfl ?_ (fun h => ?_))) <;> (try replace h := q0a h) <;> (try (exfalso; first | omega | exact absurd h (by decide))))
    | (with_reducible first | apply AW.skip | apply AW.exit | apply AW.ret | apply q0k | apply q0l | apply q0d | apply q0e | refine q0b rfl ?_ | apply q0m | apply q0n)
    | (refine q0h ?_; refine subQ ?_)
    | (with_reducible refine And.intro ?_ ?_)
    | (subst hK)
    | exact trivial
  all_goals (try (intros; assumption))
  all_goals (try refine q0v ?_)
  all_goals (try replace hp := q0a hp)
  all_goals (try (intros; trivial))
  all_goals (try (intros; omega))
  all_goals (try (rw [w64 (by omega) (by omega)]; first | done | omega))
  all_goals clear hC
  all_goals first
    | omega
    | exact q0p _
end
noncomputable def cfg97 : Cfg := ⟨Tryz.prog, 17, q1d, (fun _ _ => []), [], (fun _ => none)⟩
theorem qbmx : cfg97.pins = [] ∧ cfg97.P = Tryz.prog ∧ cfg97.N = 17 ∧ cfg97.ti 124 = none ∧ cfg97.T 124 = e124 ∧ cfg97.mv 124 = (fun _ => []) ∧ cfg97.ti 125 = none ∧ cfg97.T 125 = e125 ∧ cfg97.mv 125 = (fun _ => []) := ⟨rfl, rfl, rfl, rfl, rfl, rfl, rfl, rfl, rfl⟩
section
attribute [local go_sem] qbmx e124 e125
theorem qbwz (hC : COk cfg97) (t : Table) (c : Change) (hp : (t.file.format.fields.length ≤ 1000000 ∧ t.file.keys.length ≤ 1000000 ∧ t.records.length ≤ 1000000)) : Sem Tryz.prog 97 [.d (q0g t), .d (q0u c)] (.tup [.d (q0g (qf4 t c).1), .d (.i .i64 (qf4 t c).2)]) := by
  refine q0f (C := cfg97) (rs := [.cell 4 80, .tmp 5]) (fun _ => []) Tryz.func97 rfl rfl rfl rfl rfl rfl ?_
  refine inQ ?_
  repeat' first
    | (with_reducible first | apply q0j | apply q0c | apply AW.seq | apply AW.block)
    | (with_reducible refine AW.runK hC ?_; intro K hK)
    | ((with_reducible first | refine q0t ?_ | refine q0i ?_); refine siQ ?_; (try simp (disch := omega) only [w64, wu8]))
    | ((first | (refine AW.cond rfl (fun h => ?_) (fun h => ?_)) | (refine AW.cond_ub rfl (fun h => ?_) ?_) | (refine AW.cond_nb rfl ?_ (fun h => ?_))) <;> (try replace h := q0a h) <;> (try (exfalso; first | omega | exact absurd h (by decide))))
    | (with_reducible first | apply AW.skip | apply AW.exit | apply AW.ret | apply q0k | apply q0l | apply q0d | apply q0e | refine q0b rfl ?_ | apply q0m | apply q0n)
    | (refine q0h ?_; refine subQ ?_)
    | (with_reducible refine And.intro ?_ ?_)
    | (subst hK)
    | exact trivial
  all_goals (try (intros; assumption))
  all_goals (try refine q0v ?_)
  all_goals (try replace hp := q0a hp)
  all_goals (try (intros; trivial))
  all_goals (try (intros; omega))
  all_goals (try (rw [w64 (by omega) (by omega)]; first | done | omega))
  all_goals clear hC
  all_goals first
    | omega
    | exact (qmr (by assumption)).1
    | exact (qmr (by assumption)).2
    | (rw [qly (by assumption)]; done)
    | (rw [qly (by assumption)]; rfl)
    | (rw [qhx (by assumption)]; done)
    | (rw [qhx (by assumption)]; rfl)
    | (rw [qhx (by assumption)]; exact q0p _)
end
noncomputable def cfg45 : Cfg := ⟨Tryz.prog, 18, q60, (fun _ _ => []), [], (fun _ => none)⟩
theorem qbmy : cfg45.pins = [] ∧ cfg45.P = Tryz.prog ∧ cfg45.N = 18 := ⟨rfl, rfl, rfl⟩
section
attribute [local go_sem] qbmy
theorem qbw0 (hC : COk cfg45) (c : Change) : Sem Tryz.prog 45 [.d (q0u c)] (.d (q0u (revC c))) := by
  refine q0f (C := cfg45) (rs := [.cell 2 48]) (fun _ => []) Tryz.func45 rfl rfl rfl rfl rfl rfl ?_
  refine inQ ?_
  repeat' first
    | (with_reducible first | apply q0j | apply q0c | apply AW.seq | apply AW.block)
    | (with_reducible refine AW.runK hC ?_; intro K hK)
    | ((with_reducible first | refine q0t ?_ | refine q0i ?_); refine siQ ?_; (try simp (disch := omega) only [w64, wu8]))
    | ((first | (refine AW.cond rfl (fun h => ?_) (fun h => ?_)) | (refine AW.cond_ub rfl (fun h => ?_) ?_) | (refine AW.cond_nb rfl ?_ (fun h => ?_))) <;> (try replace h := q0a h) <;> (try (exfalso; first | omega | exact absurd h (by decide))))
    | (with_reducible first | apply AW.skip | apply AW.exit | apply AW.ret | apply q0k | apply q0l | apply q0d | apply q0e | refine q0b rfl ?_ | apply q0m | apply q0n)
    | (refine q0h ?_; refine subQ ?_)
    | (with_reducible refine And.intro ?_ ?_)
    | (subst hK)
    | exact trivial
  all_goals (try (intros; assumption))
  all_goals (try refine q0v ?_)
  all_goals (try (intros; trivial))
  all_goals (try (intros; omega))
  all_goals (try (rw [w64 (by omega) (by omega)]; first | done | omega))
  all_goals clear hC
  all_goals first
    | omega
    | (unfold revC qll; simp_all; done)
    | (unfold revC qll; grind)
end
noncomputable def cfg77 : Cfg := ⟨Tryz.prog, 21, q61, (fun _ _ => []), [], (fun _ => none)⟩
theorem qbmz : cfg77.pins = [] ∧ cfg77.P = Tryz.prog ∧ cfg77.N = 21 := ⟨rfl, rfl, rfl⟩
section
attribute [local go_sem] qbmz
attribute [local go_sem] qcv qcg
theorem qbw1 (hC : COk cfg77) (l : List Table) (n : ByteArray) (hp : l.length ≤ 1000000) : Sem Tryz.prog 77 [.d (.sl 6 (l.map q0g)), .d (.s n)] (.d (.i .i64 (qcw l n))) := by
  refine q0f (C := cfg77) (rs := [.tmp 4]) (fun _ => []) Tryz.func77 rfl rfl rfl rfl rfl rfl ?_
  refine inQ ?_
  repeat' first
    | (with_reducible first | apply q0j | apply q0c | apply AW.seq | apply AW.block)
    | (refine AW.atR 4 rfl ?_; have hg : ∀ z, (l.map q0g).getD i z = q0g (l.getD i q05) := fun z => qgc (by omega) z)
    | (with_reducible first | (refine AWh.runK hC ?_; intro K hK) | (refine AWh.drawK hC (by kernel_rfl) ?_; intro K hK))
    | (with_reducible refine AW.runK hC ?_; intro K hK)
    | ((with_reducible first | refine q0t ?_ | refine q0i ?_); (first | (simp (maxSteps := 1000000) only [go_sem, ↓reduceIte, reduceCtorEq, Nat.reduceEqDiff, Nat.reduceLT, Nat.reduceLeDiff, Nat.reduceMul, Nat.reduceAdd, Nat.reduceSub, reduceDIte, Nat.reduceBEq, Nat.reduceBNe, hg]) | (refine siQ ?_)); (try simp (disch := omega) only [w64, wu8]))
    | ((first | (refine AW.cond rfl (fun h => ?_) (fun h => ?_)) | (refine AW.cond_ub rfl (fun h => ?_) ?_) | (refine AW.cond_nb rfl ?_ (fun h => ?_))) <;> (try replace h := q0a h) <;> (try (exfalso; first | omega | exact absurd h (by decide))))
    | (with_reducible first | apply AW.skip | apply AW.exit | apply AW.ret | apply q0k | apply q0l | apply q0d | apply q0e | refine q0b rfl ?_ | apply q0m | apply q0n)
    | (refine AW.loopN 2 rfl (ι := Nat) (fun i => mkS [(0, V.d (.sl 6 (l.map q0g))), (1, V.d (.s n)), (5, V.d (.i .i64 (i : Int)))] ([])) (fun i => i ≤ l.length ∧ ∀ j, j < i → qhq l n j = 0) (fun i => l.length - i) (0) ?_ ?_ (fun i hi => ?_) <;> (try dsimp only) <;> (try dsimp only at hi))
    | (refine LoopNext.mk1 2 (i + 1) ?_ ?_ ?_ <;> (try dsimp only))
    | (refine q0h ?_; refine subQ ?_)
    | (with_reducible refine And.intro ?_ ?_)
    | (subst hK)
    | exact trivial
  all_goals (try (intros; assumption))
  all_goals (try refine q0v ?_)
  all_goals (try replace hp := q0a hp)
  all_goals (try replace hi := q0a hi)
  all_goals (try (intros; trivial))
  all_goals (try (intros; omega))
  all_goals (try (rw [w64 (by omega) (by omega)]; first | done | omega))
  all_goals clear hC
  all_goals first
    | omega
    | (rw [qz3 hi.2 (by omega) (by assumption)]; done)
    | (rw [qz4 hi.2 (by omega)]; done)
    | exact qe3 hi.2 (q9a (by assumption))
end
noncomputable def cfg74 : Cfg := ⟨Tryz.prog, 35, q62, (fun _ _ => []), [], (fun _ => none)⟩
theorem qbm0 : cfg74.pins = [] ∧ cfg74.P = Tryz.prog ∧ cfg74.N = 35 ∧ cfg74.ti 77 = none ∧ cfg74.T 77 = e77 ∧ cfg74.mv 77 = (fun _ => []) ∧ cfg74.ti 96 = none ∧ cfg74.T 96 = e96 ∧ cfg74.mv 96 = (fun _ => []) := ⟨rfl, rfl, rfl, rfl, rfl, rfl, rfl, rfl, rfl⟩
section
attribute [local go_sem] qbm0 e77 e96
attribute [local go_sem] qcv qcg
theorem qbw2 (hC : COk cfg74) (l : List Table) (hp : okTs l) : Sem Tryz.prog 74 [.d (.sl 6 (l.map q0g))] (.tup [.d (.i .i64 (qj8 l).1), .d (.i .i64 (qj8 l).2)]) := by
  refine q0f (C := cfg74) (rs := [.tmp 2, .tmp 3]) (fun _ => []) Tryz.func74 rfl rfl rfl rfl rfl rfl ?_
  refine inQ ?_
  repeat' first
    | (with_reducible first | apply q0j | apply q0c | apply AW.seq | apply AW.block)
    | (refine AW.atR 6 rfl ?_; have hB : l.length ≤ 1000000 := hp.1; have hg : ∀ z, (l.map q0g).getD i z = q0g (l.getD i q05) := fun z => qgc (by omega) z)
    | (with_reducible first | (refine AWh.runK hC ?_; intro K hK) | (refine AWh.drawK hC (by kernel_rfl) ?_; intro K hK))
    | (with_reducible refine AW.runK hC ?_; intro K hK)
    | ((with_reducible first | refine q0t ?_ | refine q0i ?_); (first | (simp (maxSteps := 1000000) only [go_sem, ↓reduceIte, reduceCtorEq, Nat.reduceEqDiff, Nat.reduceLT, Nat.reduceLeDiff, Nat.reduceMul, Nat.reduceAdd, Nat.reduceSub, reduceDIte, Nat.reduceBEq, Nat.reduceBNe, hg]) | (refine siQ ?_)); (try simp (disch := omega) only [w64, wu8]))
    | ((first | (refine AW.cond rfl (fun h => ?_) (fun h => ?_)) | (refine AW.cond_ub rfl (fun h => ?_) ?_) | (refine AW.cond_nb rfl ?_ (fun h => ?_))) <;> (try replace h := q0a h) <;> (try (exfalso; first | omega | exact absurd h (by decide))))
    | (with_reducible first | apply AW.skip | apply AW.exit | apply AW.ret | apply q0k | apply q0l | apply q0d | apply q0e | refine q0b rfl ?_ | apply q0m | apply q0n)
    | (refine AW.loopN 4 rfl (ι := Nat) (fun i => mkS [(0, V.d (.sl 6 (l.map q0g))), (4, V.d (.i .i64 (i : Int)))] ([])) (fun i => i ≤ l.length ∧ l.length ≤ 8 ∧ ∀ j, j < i → tabE l j = 0) (fun i => l.length - i) (0) ?_ ?_ (fun i hi => ?_) <;> (try dsimp only) <;> (try dsimp only at hi))
    | (refine LoopNext.mk1 4 (i + 1) ?_ ?_ ?_ <;> (try dsimp only))
    | (refine q0h ?_; refine subQ ?_)
    | (with_reducible refine And.intro ?_ ?_)
    | (subst hK)
    | exact trivial
  all_goals (try (intros; assumption))
  all_goals (try refine q0v ?_)
  all_goals (try replace hp := q0a hp)
  all_goals (try replace hi := q0a hi)
  all_goals (try (intros; trivial))
  all_goals (try (intros; omega))
  all_goals (try (rw [w64 (by omega) (by omega)]; first | done | omega))
  all_goals clear hC
  all_goals first
    | omega
    | exact hp.1
    | exact (hp.2 i).1
    | exact (hp.2 i).2.1
    | exact (hp.2 i).2.2
    | (rw [qbk2 (by assumption)]; done)
    | (rw [q9x hi.2.1 hi.2.2 (by omega) (by rw [qpm (by assumption)]; assumption)]; first | done | exact qpm (by assumption))
    | (rw [q9x hi.2.1 hi.2.2 (by omega) (by rw [qpn (by assumption) (by assumption)]; decide)]; first | done | exact qpn (by assumption) (by assumption))
    | (rw [qbpq hi.2.1 hi.2.2 (by omega)]; done)
    | exact qe3 hi.2.2 (q3n (by assumption) (by assumption))
end
noncomputable def cfg38d : Cfg := ⟨Tryz.prog, 10, q63, (fun _ _ => []), [], (fun _ => none)⟩
theorem qbgf : cfg38d.pins = [] ∧ cfg38d.P = Tryz.prog ∧ cfg38d.N = 10 ∧ cfg38d.ti 73 = none ∧ cfg38d.T 73 = e73 ∧ cfg38d.mv 73 = (fun _ => []) := ⟨rfl, rfl, rfl, rfl, rfl, rfl⟩
section
attribute [local go_sem] qbgf e73
theorem qbrw (hC : COk cfg38d) (t : Table) (hp : (t.file.format.fields.length ≤ 1000000 ∧ t.file.keys.length ≤ 1000000 ∧ t.records.length ≤ 1000000)) : Sem Tryz.prog 38 [.d (q0g t)] (.d (q0g t)) := by
  refine q0f (C := cfg38d) (rs := [.cell 2 80]) (fun _ => []) Tryz.func38 rfl rfl rfl rfl rfl rfl ?_
  refine inQ ?_
  repeat' first
    | (with_reducible first | apply q0j | apply q0c | apply AW.seq | apply AW.block)
    | (with_reducible first | (refine AW.runK hC ?_; intro K hK) | (refine AW.drawK hC (by kernel_rfl) ?_; intro K hK))
    | ((with_reducible first | refine q0t ?_ | refine qb2 ?_ | refine q0i ?_); refine siQ ?_; (try simp (disch := omega) only [w64, wu8]))
    | (with_reducible refine qbn (by kernel_rfl) ?_)
    | ((first | (refine AW.cond rfl (fun h => ?_) (fun h => ?_)) | (refine AW.cond_ub rfl (fun h => ?_) ?_) | (refine AW.cond_nb rfl ?_ (fun h => ?_))) <;> (try replace h := q0a h) <;> (try (exfalso; first | omega | exact absurd h (by decide))))
    | (with_reducible first | apply AW.skip | apply AW.exit | apply AW.ret | apply q0k | apply q0l | apply q0d | apply q0e | refine q0b rfl ?_ | apply q0m | apply q0n)
    | (refine q0h ?_; refine subQ ?_)
    | (with_reducible refine And.intro ?_ ?_)
    | (subst hK)
    | exact trivial
  all_goals (try (intros; assumption))
  all_goals (try refine q0v ?_)
  all_goals (try replace hp := q0a hp)
  all_goals (try (intros; trivial))
  all_goals (try (intros; omega))
  all_goals (try (rw [w64 (by omega) (by omega)]; first | done | omega))
  all_goals clear hC
  all_goals first | omega | (simp_all [dles]; done) | exact q0p _
end
end Go.Ev
