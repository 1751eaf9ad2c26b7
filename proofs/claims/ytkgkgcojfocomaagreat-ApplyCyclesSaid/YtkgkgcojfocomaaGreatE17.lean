/- Tools and contracts under the laws of this seat: Dyc165 to Dyc70. -/
import Derived.Test.YtkgkgcojfocomaaGreatE05
set_option linter.unusedVariables false
set_option linter.unusedSimpArgs false
namespace Go.Ev
open Go.Proofs Ty
set_option maxRecDepth 10000
set_option maxHeartbeats 4000000
attribute [local go_sem] qbe qbg qcg qc2 qb7 qde qdo qei Int.toNat_natCast qdd qd7 qer qcv qch qbn qb2 decI List.length_map nc0 qbf qbm q05 qb5 qc8 qds qbw qb3 qec qe9 q06 qbx qcq qdc qb6 qci qdt qed qbp qc5 qee qfa qb1 qbr qcu qda qcs qeg qdb qct qeh qc9 qcr qef List.length_take qck Int.toNat_zero Nat.sub_zero List.drop_zero
attribute [local go_sem ←] List.map_take List.map_drop
noncomputable def cfg165 : Cfg := mkC 47 q006
theorem qbhc : cfg165.pins = [] ∧ cfg165.P = Tryz.prog ∧ cfg165.N = 47 ∧ cfg165.T 163 = e163 ∧ cfg165.T 174 = e174 ∧ cfg165.ti = (fun _ => none) ∧ cfg165.mv = fun _ _ => [] := by and_intros <;> exact rfl
section
attribute [local go_sem] qbhc e163 e174
theorem qbs1 (hC : COk cfg165) (f : Fmt) (b : ByteArray) (hp : f.fields.length ≤ 1000 ∧ (b.size : Int) = qfe f) : Sem Tryz.prog 165 [.d (qbw f), .d (.s b)] (.tup [.d (.sl 2 ((qg6 f b).1.map qb7)), .d (.i .i64 (qg6 f b).2.1), .d (.i .i64 (qg6 f b).2.2)]) := by
  refine q0f (C := cfg165) (rs := [.tmp 4, .tmp 5, .tmp 6]) (fun _ => []) Tryz.func165 rfl rfl rfl rfl rfl rfl ?_
  refine inQ ?_
  repeat' first
  | (with_reducible first | apply q0l | apply q0c | apply AW.seq | apply AW.block | apply AW.skip | apply AW.exit | apply AW.ret | apply q0m | apply q0n | apply q0d | apply q0e | refine q0b rfl ?_ | apply q0o | apply q0p | apply And.intro)
  | (with_reducible first | (refine AW.runK hC ?_; intro K hK) | (refine AW.drawK hC (by kernel_rfl) ?_; intro K hK))
  | ((with_reducible first | refine q0t ?_ | refine qbz ?_ | refine q0k ?_); refine siQ ?_; (try simp (disch := omega) only [w64, wu8]))
  | (with_reducible refine qbj (by kernel_rfl) ?_)
  | ((first | refine AW.cond rfl (fun h => ?_) fun h => ?_ | refine AW.cond_ub rfl (fun h => ?_) ?_ | refine AW.cond_nb rfl ?_ fun h => ?_) <;> (try replace h := q0a h) <;> try (exfalso; first | omega | exact absurd h (by decide)))
  | (refine AW.loopN 3 rfl (ι := Nat) (fun i => mkS [(1, V.d (.s (b.extract (qcc f.fields i).toNat b.size))), (7, V.row 112 2 0 (qkd f b i).length), (15, V.d (.sl 4 (f.fields.map q05))), (16, V.d (.i .i64 (f.fields.length : Int))), (17, V.d (.i .i64 (i : Int)))] ([(112, .live (.row 212 2 false ((qkd f b i).map qb7)))])) (fun i => i ≤ f.fields.length ∧ ∀ j, j < i → qkf f b j = 0) (fun i => f.fields.length - i) (0) ?_ ?_ (fun i hi => ?_) <;> (try dsimp only) <;> (try dsimp only at hi))
  | (refine LoopNext.mk1 3 (i + 1) ?_ ?_ ?_ <;> (try dsimp only))
  | (refine q0h ?_; refine subQ ?_)
  | (subst hK)
  | exact trivial
  all_goals try (intros; assumption)
  all_goals try refine q0v ?_
  all_goals try replace hp := q0a hp
  all_goals try replace hi := q0a hi
  all_goals try (intros; first | trivial | omega)
  all_goals (try (rw [w64 (by omega) (by omega)]; first | done | omega))
  all_goals (try have O1 := qgp f.fields i)
  all_goals (try have W1 := qiw (f.fields.getD i q04))
  all_goals (try have VL := qu2 f b i)
  all_goals (try have PI := qba0 (f := f) (b := b) (i := i) hp.2 (by omega))
  all_goals (try have PE := qbfd (f := f) (b := b) (i := i) hp.2 (by omega))
  all_goals clear hC
  all_goals (try simp only [PE] at *)
  all_goals first
  | rfl
  | omega
  | exact qbmq b
  | exact PI
  | (rw [qwi hi.2 (by omega) (by assumption)]; done)
  | (rw [qwi hi.2 (by omega) (by assumption)]; rfl)
  | exact qes hi.2 (by assumption)
  | exact q47 hp.2 (by omega)
  | (rw [q47 hp.2 (by omega)]; exact q0q _)
  | (rw [qkd, List.length_append]; rfl)
  | (rw [qkd, List.map_append]; exact q0q _)
  | (rw [qwj hi.2 (by omega)]; done)
  | (rw [qwj hi.2 (by omega), show f.fields.length = i by omega]; exact q0q _)
  | (intro d hd; first | (subst hd; exact ⟨rfl, by simp [D.cells, D.one]⟩) | (rcases hd with rfl | rfl <;> exact ⟨rfl, by simp [D.cells, D.one]⟩) | (rcases hd with rfl | rfl | rfl <;> exact ⟨rfl, by simp [D.cells, D.one]⟩) | (rcases hd with rfl | rfl | rfl | rfl <;> exact ⟨rfl, by simp [D.cells, D.one]⟩))
end
noncomputable def cfg155 : Cfg := mkC 24 q007
theorem qbhd : cfg155.pins = [] ∧ cfg155.P = Tryz.prog ∧ cfg155.N = 24 ∧ cfg155.T 153 = e153 ∧ cfg155.T 164 = e164 ∧ cfg155.T 165 = e165 ∧ cfg155.ti = (fun _ => none) ∧ cfg155.mv = fun _ _ => [] := by and_intros <;> exact rfl
section
attribute [local go_sem] qbhd e153 e164 e165
theorem qbs2 (hC : COk cfg155) (f : Fmt) (b : ByteArray) (hp : f.fields.length ≤ 1000000) : Sem Tryz.prog 155 [.d (qbw f), .d (.s b)] (.tup [.d (.sl 2 ((qc3 f b).1.map qb7)), .d (.i .i64 (qc3 f b).2.1), .d (.i .i64 (qc3 f b).2.2)]) := by
  refine q0f (C := cfg155) (rs := [.tmp 4, .tmp 5, .tmp 6]) (fun _ => []) Tryz.func155 rfl rfl rfl rfl rfl rfl ?_
  refine inQ ?_
  repeat' first
  | (with_reducible first | apply q0l | apply q0c | apply AW.seq | apply AW.block | apply AW.skip | apply AW.exit | apply AW.ret | apply q0m | apply q0n | apply q0d | apply q0e | refine q0b rfl ?_ | apply q0o | apply q0p | apply And.intro)
  | (with_reducible refine AW.runK hC ?_; intro K hK)
  | ((with_reducible first | refine q0t ?_ | refine q0k ?_); refine siQ ?_; (try simp (disch := omega) only [w64, wu8]))
  | ((first | refine AW.cond rfl (fun h => ?_) fun h => ?_ | refine AW.cond_ub rfl (fun h => ?_) ?_ | refine AW.cond_nb rfl ?_ fun h => ?_) <;> (try replace h := q0a h) <;> try (exfalso; first | omega | exact absurd h (by decide)))
  | (refine q0h ?_; refine subQ ?_)
  | (subst hK)
  | exact trivial
  all_goals try (intros; assumption)
  all_goals try refine q0v ?_
  all_goals try replace hp := q0a hp
  all_goals try (intros; first | trivial | omega)
  all_goals (try (rw [w64 (by omega) (by omega)]; first | done | omega))
  all_goals clear hC
  all_goals (try have FO := qu1 (f := f) (by assumption))
  all_goals first
  | omega
  | (rw [qsf (by assumption)]; done)
  | (rw [qsf (by assumption)]; rfl)
  | (rw [qsg (by assumption) (by assumption)]; done)
  | (rw [qsg (by assumption) (by assumption)]; rfl)
  | (rw [qsh (by assumption) (by assumption)]; done)
  | (rw [qsh (by assumption) (by assumption)]; exact q0q _)
  | assumption
end
noncomputable def cfg137 : Cfg := mkC 18 q008
theorem qbhe : cfg137.pins = [] ∧ cfg137.P = Tryz.prog ∧ cfg137.N = 18 ∧ cfg137.ti 155 = none ∧ cfg137.T 155 = e155 ∧ cfg137.mv 155 = (fun _ => []) := by and_intros <;> exact rfl
section
attribute [local go_sem] qbhe e155
theorem qbs3 (hC : COk cfg137) (f : Fmt) (b : ByteArray) (hp : f.fields.length ≤ 1000000) : Sem Tryz.prog 137 [.d (qbw f), .d (.s b)] (.tup [.d (.i .i64 (qc3 f b).2.1), .d (.i .i64 (qc3 f b).2.2)]) := by
  refine q0f (C := cfg137) (rs := [.tmp 4, .tmp 5]) (fun _ => []) Tryz.func137 rfl rfl rfl rfl rfl rfl ?_
  refine inQ ?_
  repeat' first
  | (with_reducible first | apply q0l | apply q0c | apply AW.seq | apply AW.block | apply AW.skip | apply AW.exit | apply AW.ret | apply q0m | apply q0n | apply q0d | apply q0e | refine q0b rfl ?_ | apply q0o | apply q0p | apply And.intro)
  | (with_reducible refine AW.runK hC ?_; intro K hK)
  | ((with_reducible first | refine q0t ?_ | refine q0k ?_); refine siQ ?_; (try simp (disch := omega) only [w64, wu8]))
  | ((first | refine AW.cond rfl (fun h => ?_) fun h => ?_ | refine AW.cond_ub rfl (fun h => ?_) ?_ | refine AW.cond_nb rfl ?_ fun h => ?_) <;> (try replace h := q0a h) <;> try (exfalso; first | omega | exact absurd h (by decide)))
  | (refine q0h ?_; refine subQ ?_)
  | (subst hK)
  | exact trivial
  all_goals try (intros; assumption)
  all_goals try refine q0v ?_
  all_goals try replace hp := q0a hp
  all_goals try (intros; first | trivial | omega)
  all_goals (try (rw [w64 (by omega) (by omega)]; first | done | omega))
end
noncomputable def cfg120 : Cfg := mkC 14 q009
theorem qbhf : cfg120.pins = [] ∧ cfg120.P = Tryz.prog ∧ cfg120.N = 14 ∧ cfg120.ti 137 = none ∧ cfg120.T 137 = e137 ∧ cfg120.mv 137 = (fun _ => []) := by and_intros <;> exact rfl
section
attribute [local go_sem] qbhf e137
theorem qbs4 (hC : COk cfg120) (f : Fmt) (b : ByteArray) (hp : f.fields.length ≤ 1000000) : Sem Tryz.prog 120 [.d (qbw f), .d (.s b)] (.d (.i .i64 (qc3 f b).2.2)) := by
  refine q0f (C := cfg120) (rs := [.tmp 4]) (fun _ => []) Tryz.func120 rfl rfl rfl rfl rfl rfl ?_
  refine inQ ?_
  repeat' first
  | (with_reducible first | apply q0l | apply q0c | apply AW.seq | apply AW.block | apply AW.skip | apply AW.exit | apply AW.ret | apply q0m | apply q0n | apply q0d | apply q0e | refine q0b rfl ?_ | apply q0o | apply q0p | apply And.intro)
  | (with_reducible refine AW.runK hC ?_; intro K hK)
  | ((with_reducible first | refine q0t ?_ | refine q0k ?_); refine siQ ?_; (try simp (disch := omega) only [w64, wu8]))
  | ((first | refine AW.cond rfl (fun h => ?_) fun h => ?_ | refine AW.cond_ub rfl (fun h => ?_) ?_ | refine AW.cond_nb rfl ?_ fun h => ?_) <;> (try replace h := q0a h) <;> try (exfalso; first | omega | exact absurd h (by decide)))
  | (refine q0h ?_; refine subQ ?_)
  | (subst hK)
  | exact trivial
  all_goals try (intros; assumption)
  all_goals try refine q0v ?_
  all_goals try replace hp := q0a hp
  all_goals try (intros; first | trivial | omega)
  all_goals (try (rw [w64 (by omega) (by omega)]; first | done | omega))
end
noncomputable def cfg90 : Cfg := mkC 47 q1a
theorem qbn3 : cfg90.pins = [] ∧ cfg90.P = Tryz.prog ∧ cfg90.N = 47 ∧ cfg90.T 117 = e117 ∧ cfg90.T 118 = e118 ∧ cfg90.T 119 = e119 ∧ cfg90.T 120 = e120 ∧ cfg90.ti = (fun _ => none) ∧ cfg90.mv = fun _ _ => [] := by and_intros <;> exact rfl
section
attribute [local go_sem] qbn3 e117 e118 e119 e120
attribute [local go_sem] q0g q0y qdf qdy q0u q00 qba qbh qcy qcz
theorem qbya (hC : COk cfg90) (t : Table) (hp : (t.file.format.fields.length ≤ 1000000 ∧ t.file.keys.length ≤ 1000000 ∧ t.records.length ≤ 1000000)) : Sem Tryz.prog 90 [.d (q0g t)] (.tup [.d (.i .i64 (q08 t).1), .d (.i .i64 (q08 t).2)]) := by
  refine q0f (C := cfg90) (rs := [.tmp 2, .tmp 3]) (fun _ => []) Tryz.func90 rfl rfl rfl rfl rfl rfl ?_
  refine inQ ?_
  repeat' first
  | (with_reducible first | apply q0l | apply q0c | apply AW.seq | apply AW.block | apply AW.skip | apply AW.exit | apply AW.ret | apply q0m | apply q0n | apply q0d | apply q0e | refine q0b rfl ?_ | apply q0o | apply q0p | apply And.intro)
  | (with_reducible first | (refine AW.runK hC ?_; intro K hK) | (refine AW.drawK hC (by kernel_rfl) ?_; intro K hK))
  | ((with_reducible first | refine q0t ?_ | refine qbz ?_ | refine q0k ?_); refine siQ ?_; (try simp (disch := omega) only [w64, wu8]))
  | (with_reducible refine qbj (by kernel_rfl) ?_)
  | ((first | refine AW.cond rfl (fun h => ?_) fun h => ?_ | refine AW.cond_ub rfl (fun h => ?_) ?_ | refine AW.cond_nb rfl ?_ fun h => ?_) <;> (try replace h := q0a h) <;> try (exfalso; first | omega | exact absurd h (by decide)))
  | (refine AW.loopN 5 rfl (ι := Nat) (fun i => mkS [(1, V.ptr 16 0), (22, V.d (.sl 2 (t.records.map qbp))), (23, V.d (.i .i64 (t.records.length : Int))), (24, V.d (.i .i64 (i : Int)))] ([(16, .live (.box 80 [.d (.s t.file.name), .d (.s t.file.format.name), .d (.sl 4 (t.file.format.fields.map q05)), .d (.sl 2 (t.file.keys.map q06)), .d (.b t.file.unique), .d (.sl 2 (t.records.map qbp))]))])) (fun i => i ≤ t.records.length ∧ ((qcb t.file).2 = 0 ∧ t.records.length ≤ 60) ∧ ∀ j, j < i → recE t j = 0) (fun i => t.records.length - i) (0) ?_ ?_ (fun i hi => ?_) <;> (try dsimp only) <;> (try dsimp only at hi))
  | (refine LoopNext.mk1 5 (i + 1) ?_ ?_ ?_ <;> (try dsimp only))
  | (refine q0h ?_; refine subQ ?_)
  | (subst hK)
  | exact trivial
  all_goals try (intros; assumption)
  all_goals try refine q0v ?_
  all_goals try replace hp := q0a hp
  all_goals try replace hi := q0a hi
  all_goals try (intros; first | trivial | omega)
  all_goals (try (rw [w64 (by omega) (by omega)]; first | done | omega))
  all_goals clear hC
  all_goals (try simp only [qbe9] at *)
  all_goals first
  | rfl
  | omega
  | (rw [q00y (by assumption)]; done)
  | (rw [q00y (by assumption)]; rfl)
  | exact (q00z (by assumption)).1
  | exact (q00z (by assumption)).2
  | exact hi.2.1.1
  | exact hi.2.1.2
  | (rw [qok hi.2.1 hi.2.2 (by omega) (by unfold recE; simp_all)]; unfold recE; simp_all; done)
  | (rw [qok hi.2.1 hi.2.2 (by omega) (by unfold recE; simp_all)]; done)
  | exact qes hi.2.2 (by unfold recE; simp_all)
  | (rw [qrj hi.2.1 hi.2.2 (by omega)]; done)
  | (intro d hd; first | (subst hd; exact ⟨rfl, by simp [D.cells, D.one]⟩) | (rcases hd with rfl | rfl <;> exact ⟨rfl, by simp [D.cells, D.one]⟩) | (rcases hd with rfl | rfl | rfl <;> exact ⟨rfl, by simp [D.cells, D.one]⟩) | (rcases hd with rfl | rfl | rfl | rfl <;> exact ⟨rfl, by simp [D.cells, D.one]⟩))
end
noncomputable def cfg121 : Cfg := mkC 11 q7e
theorem qbhg : cfg121.pins = [] ∧ cfg121.P = Tryz.prog ∧ cfg121.N = 11 ∧ cfg121.ti 90 = none ∧ cfg121.T 90 = e90 ∧ cfg121.mv 90 = (fun _ => []) := by and_intros <;> exact rfl
section
attribute [local go_sem] qbhg e90
attribute [local go_sem] q0g q0y qdf qdy q0u q00 qba qbh qcy qcz
theorem qbs5 (hC : COk cfg121) (t : Table) (hp : (t.file.format.fields.length ≤ 1000000 ∧ t.file.keys.length ≤ 1000000 ∧ t.records.length ≤ 1000000)) : Sem Tryz.prog 121 [.d (q0g t)] (.d (.i .i64 (q08 t).2)) := by
  refine q0f (C := cfg121) (rs := [.tmp 2]) (fun _ => []) Tryz.func121 rfl rfl rfl rfl rfl rfl ?_
  refine inQ ?_
  repeat' first
  | (with_reducible first | apply q0l | apply q0c | apply AW.seq | apply AW.block | apply AW.skip | apply AW.exit | apply AW.ret | apply q0m | apply q0n | apply q0d | apply q0e | refine q0b rfl ?_ | apply q0o | apply q0p | apply And.intro)
  | (with_reducible refine AW.runK hC ?_; intro K hK)
  | ((with_reducible first | refine q0t ?_ | refine q0k ?_); refine siQ ?_; (try simp (disch := omega) only [w64, wu8]))
  | ((first | refine AW.cond rfl (fun h => ?_) fun h => ?_ | refine AW.cond_ub rfl (fun h => ?_) ?_ | refine AW.cond_nb rfl ?_ fun h => ?_) <;> (try replace h := q0a h) <;> try (exfalso; first | omega | exact absurd h (by decide)))
  | (refine q0h ?_; refine subQ ?_)
  | (subst hK)
  | exact trivial
  all_goals try (intros; assumption)
  all_goals try refine q0v ?_
  all_goals try replace hp := q0a hp
  all_goals try (intros; first | trivial | omega)
  all_goals (try (rw [w64 (by omega) (by omega)]; first | done | omega))
end
noncomputable def cfg66 : Cfg := mkC 8 q1b
theorem qbn4 : cfg66.pins = [] ∧ cfg66.P = Tryz.prog ∧ cfg66.N = 8 := ⟨rfl, rfl, rfl⟩
section
attribute [local go_sem] qbn4
attribute [local go_sem] q0g q0y qdf qdy q0u q00 qba qbh qcy qcz
theorem qbyb (hC : COk cfg66) (l : List Field) (hp : l.length ≤ 1000000) : Sem Tryz.prog 66 [.d (.sl 4 (l.map q05))] (.own 110 4 (l.map q05)) := by
  refine q0f (C := cfg66) (rs := [.tmp 2]) (fun _ => [(0, 110, 4)]) Tryz.func66 rfl rfl rfl rfl rfl rfl ?_
  refine inQ ?_
  repeat' first
  | (with_reducible first | apply q0l | apply q0c | apply AW.seq | apply AW.block | apply AW.skip | apply AW.exit | apply AW.ret | apply q0m | apply q0n | apply q0d | apply q0e | refine q0b rfl ?_ | apply q0o | apply q0p | apply And.intro)
  | (with_reducible refine AW.runK hC ?_; intro K hK)
  | ((with_reducible first | refine q0t ?_ | refine q0k ?_); refine siQ ?_; (try simp (disch := omega) only [w64, wu8]))
  | ((first | refine AW.cond rfl (fun h => ?_) fun h => ?_ | refine AW.cond_ub rfl (fun h => ?_) ?_ | refine AW.cond_nb rfl ?_ fun h => ?_) <;> (try replace h := q0a h) <;> try (exfalso; first | omega | exact absurd h (by decide)))
  | (refine q0h ?_; refine subQ ?_)
  | (subst hK)
  | exact trivial
  all_goals try (intros; assumption)
  all_goals try refine q0v ?_
  all_goals try replace hp := q0a hp
  all_goals try (intros; first | trivial | omega)
  all_goals (try (rw [w64 (by omega) (by omega)]; first | done | omega))
  all_goals first | omega | (simp_all [dles]; done)
end
noncomputable def cfg67 : Cfg := mkC 8 q7f
theorem qbn5 : cfg67.pins = [] ∧ cfg67.P = Tryz.prog ∧ cfg67.N = 8 := ⟨rfl, rfl, rfl⟩
section
attribute [local go_sem] qbn5
attribute [local go_sem] q0g q0y qdf qdy q0u q00 qba qbh qcy qcz
theorem qbyc (hC : COk cfg67) (l : List KField) (hp : l.length ≤ 1000000) : Sem Tryz.prog 67 [.d (.sl 2 (l.map q06))] (.own 113 2 (l.map q06)) := by
  refine q0f (C := cfg67) (rs := [.tmp 2]) (fun _ => [(0, 113, 2)]) Tryz.func67 rfl rfl rfl rfl rfl rfl ?_
  refine inQ ?_
  repeat' first
  | (with_reducible first | apply q0l | apply q0c | apply AW.seq | apply AW.block | apply AW.skip | apply AW.exit | apply AW.ret | apply q0m | apply q0n | apply q0d | apply q0e | refine q0b rfl ?_ | apply q0o | apply q0p | apply And.intro)
  | (with_reducible refine AW.runK hC ?_; intro K hK)
  | ((with_reducible first | refine q0t ?_ | refine q0k ?_); refine siQ ?_; (try simp (disch := omega) only [w64, wu8]))
  | ((first | refine AW.cond rfl (fun h => ?_) fun h => ?_ | refine AW.cond_ub rfl (fun h => ?_) ?_ | refine AW.cond_nb rfl ?_ fun h => ?_) <;> (try replace h := q0a h) <;> try (exfalso; first | omega | exact absurd h (by decide)))
  | (refine q0h ?_; refine subQ ?_)
  | (subst hK)
  | exact trivial
  all_goals try (intros; assumption)
  all_goals try refine q0v ?_
  all_goals try replace hp := q0a hp
  all_goals try (intros; first | trivial | omega)
  all_goals (try (rw [w64 (by omega) (by omega)]; first | done | omega))
  all_goals first | omega | (simp_all [dles]; done)
end
noncomputable def cfg68 : Cfg := mkC 8 q7g
theorem qbn6 : cfg68.pins = [] ∧ cfg68.P = Tryz.prog ∧ cfg68.N = 8 := ⟨rfl, rfl, rfl⟩
section
attribute [local go_sem] qbn6
attribute [local go_sem] q0g q0y qdf qdy q0u q00 qba qbh qcy qcz
theorem qbyd (hC : COk cfg68) (l : List Rec) (hp : l.length ≤ 1000000) : Sem Tryz.prog 68 [.d (.sl 2 (l.map qbp))] (.own 104 2 (l.map qbp)) := by
  refine q0f (C := cfg68) (rs := [.tmp 2]) (fun _ => [(0, 104, 2)]) Tryz.func68 rfl rfl rfl rfl rfl rfl ?_
  refine inQ ?_
  repeat' first
  | (with_reducible first | apply q0l | apply q0c | apply AW.seq | apply AW.block | apply AW.skip | apply AW.exit | apply AW.ret | apply q0m | apply q0n | apply q0d | apply q0e | refine q0b rfl ?_ | apply q0o | apply q0p | apply And.intro)
  | (with_reducible refine AW.runK hC ?_; intro K hK)
  | ((with_reducible first | refine q0t ?_ | refine q0k ?_); refine siQ ?_; (try simp (disch := omega) only [w64, wu8]))
  | ((first | refine AW.cond rfl (fun h => ?_) fun h => ?_ | refine AW.cond_ub rfl (fun h => ?_) ?_ | refine AW.cond_nb rfl ?_ fun h => ?_) <;> (try replace h := q0a h) <;> try (exfalso; first | omega | exact absurd h (by decide)))
  | (refine q0h ?_; refine subQ ?_)
  | (subst hK)
  | exact trivial
  all_goals try (intros; assumption)
  all_goals try refine q0v ?_
  all_goals try replace hp := q0a hp
  all_goals try (intros; first | trivial | omega)
  all_goals (try (rw [w64 (by omega) (by omega)]; first | done | omega))
  all_goals first | omega | (simp_all [dles]; done)
end
noncomputable def cfg122 : Cfg := mkC 50 q7h
theorem qbhh : cfg122.pins = [] ∧ cfg122.P = Tryz.prog ∧ cfg122.N = 50 ∧ cfg122.T 117 = e117 ∧ cfg122.T 119 = e119 ∧ cfg122.ti = (fun _ => none) ∧ cfg122.mv = fun _ _ => [] := by and_intros <;> exact rfl
section
attribute [local go_sem] qbhh e117 e119
attribute [local go_sem] q0g q0y qdf qdy q0u q00 qba qbh qcy qcz
theorem qbs6 (hC : COk cfg122) (t : Table) (c : Change) (hp : 1 ≤ c.rrn ∧ c.rrn ≤ (t.records.length : Int) + 1 ∧ t.records.length ≤ 1000000) : Sem Tryz.prog 122 [.d (q0g t), .d (q0u c)] (.d (.i .i64 (qg7 t c))) := by
  refine q0f (C := cfg122) (rs := [.tmp 4]) (fun _ => []) Tryz.func122 rfl rfl rfl rfl rfl rfl ?_
  refine inQ ?_
  repeat' first
  | (with_reducible first | apply q0l | apply q0c | apply AW.seq | apply AW.block | apply AW.skip | apply AW.exit | apply AW.ret | apply q0m | apply q0n | apply q0d | apply q0e | refine q0b rfl ?_ | apply q0o | apply q0p | apply And.intro)
  | (with_reducible first | (refine AW.runK hC ?_; intro K hK) | (refine AW.drawK hC (by kernel_rfl) ?_; intro K hK))
  | ((with_reducible first | refine q0t ?_ | refine qbz ?_ | refine q0k ?_); refine siQ ?_; (try simp (disch := omega) only [w64, wu8]))
  | (with_reducible refine qbj (by kernel_rfl) ?_)
  | ((first | refine AW.cond rfl (fun h => ?_) fun h => ?_ | refine AW.cond_ub rfl (fun h => ?_) ?_ | refine AW.cond_nb rfl ?_ fun h => ?_) <;> (try replace h := q0a h) <;> try (exfalso; first | omega | exact absurd h (by decide)))
  | (refine q0h ?_; refine subQ ?_)
  | (subst hK)
  | exact trivial
  all_goals try (intros; assumption)
  all_goals try refine q0v ?_
  all_goals try replace hp := q0a hp
  all_goals try (intros; first | trivial | omega)
  all_goals (try (rw [w64 (by omega) (by omega)]; first | done | omega))
  all_goals clear hC
  all_goals first
  | omega
  | (intro d hd; first | (subst hd; exact ⟨rfl, by simp [D.cells, D.one]⟩) | (rcases hd with rfl | rfl <;> exact ⟨rfl, by simp [D.cells, D.one]⟩) | (rcases hd with rfl | rfl | rfl <;> exact ⟨rfl, by simp [D.cells, D.one]⟩) | (rcases hd with rfl | rfl | rfl | rfl <;> exact ⟨rfl, by simp [D.cells, D.one]⟩))
  | (unfold qg7 qiq qmc; simp_all; done)
end
noncomputable def cfg93 : Cfg := mkC 87 q1e
theorem qbn7 : cfg93.pins = [] ∧ cfg93.P = Tryz.prog ∧ cfg93.N = 87 ∧ cfg93.T 117 = e117 ∧ cfg93.T 119 = e119 ∧ cfg93.T 120 = e120 ∧ cfg93.T 121 = e121 ∧ cfg93.T 122 = e122 ∧ cfg93.ti = (fun _ => none) ∧ cfg93.mv = fun _ _ => [] := by and_intros <;> exact rfl
section
attribute [local go_sem] qbn7 e117 e119 e120 e121 e122
attribute [local go_sem] q0g q0y qdf qdy q0u q00 qba qbh qcy qcz List.length_set Nat.le_refl
theorem qbye (hC : COk cfg93) (t : Table) (c : Change) (hp : (t.file.format.fields.length ≤ 1000000 ∧ t.file.keys.length ≤ 1000000 ∧ t.records.length ≤ 1000000)) : Sem Tryz.prog 93 [.d (q0g t), .d (q0u c)] (.d (.i .i64 (qcx t c))) := by
  refine q0f (C := cfg93) (rs := [.tmp 4]) (fun _ => []) Tryz.func93 rfl rfl rfl rfl rfl rfl ?_
  refine inQ ?_
  repeat' first
  | (with_reducible first | apply q0l | apply q0c | apply AW.seq | apply AW.block | apply AW.skip | apply AW.exit | apply AW.ret | apply q0m | apply q0n | apply q0d | apply q0e | refine q0b rfl ?_ | apply q0o | apply q0p | apply And.intro)
  | (with_reducible first | (refine AW.runK hC ?_; intro K hK) | (refine AW.drawK hC (by kernel_rfl) ?_; intro K hK))
  | ((with_reducible first | refine q0t ?_ | refine qbz ?_ | refine q0k ?_); refine siQ ?_; (try simp (disch := omega) only [w64, wu8]))
  | (with_reducible refine qbj (by kernel_rfl) ?_)
  | ((first | refine AW.cond rfl (fun h => ?_) fun h => ?_ | refine AW.cond_ub rfl (fun h => ?_) ?_ | refine AW.cond_nb rfl ?_ fun h => ?_) <;> (try replace h := q0a h) <;> try (exfalso; first | omega | exact absurd h (by decide)))
  | (refine q0h ?_; refine subQ ?_)
  | (subst hK)
  | exact trivial
  all_goals try (intros; assumption)
  all_goals try refine q0v ?_
  all_goals try replace hp := q0a hp
  all_goals try (intros; first | trivial | omega)
  all_goals (try (rw [w64 (by omega) (by omega)]; first | done | omega))
  all_goals clear hC
  all_goals (try simp only [qbfe t c (by assumption)] at *)
  all_goals (try simp only [qbff t c (by assumption)] at *)
  all_goals first
  | omega
  | (intro d hd; rcases hd with rfl | rfl | rfl | rfl | rfl <;> exact ⟨rfl, by simp [D.cells, D.one]⟩)
  | exact qjb (by assumption)
  | exact (qp4 (by assumption)).1
  | exact (qp4 (by assumption)).2
  | exact q1c (by assumption) (by assumption)
  | exact q1d (by assumption) (by assumption)
end
noncomputable def cfg94 : Cfg := mkC 29 q7i
theorem qbn8 : cfg94.pins = [] ∧ cfg94.P = Tryz.prog ∧ cfg94.N = 29 ∧ cfg94.ti 68 = none ∧ cfg94.T 68 = e68 ∧ cfg94.mv 68 = (fun _ => []) := by and_intros <;> exact rfl
section
attribute [local go_sem] qbn8 e68
attribute [local go_sem] q0g q0y qdf qdy q0u q00 qba qbh qcy qcz List.length_set Nat.le_refl
theorem qbyf (hC : COk cfg94) (t : Table) (n : Int) (r : Rec) (hp : 1 ≤ n ∧ n ≤ (t.records.length : Int) + 1 ∧ t.records.length ≤ 1000000) : Sem Tryz.prog 94 [.d (q0g t), .d (.i .i64 n), .d (qbp r)] (.d (q0g (qey t n r))) := by
  refine q0f (C := cfg94) (rs := [.cell 6 80]) (fun _ => []) Tryz.func94 rfl rfl rfl rfl rfl rfl ?_
  refine inQ ?_
  repeat' first
  | (with_reducible first | apply q0l | apply q0c | apply AW.seq | apply AW.block | apply AW.skip | apply AW.exit | apply AW.ret | apply q0m | apply q0n | apply q0d | apply q0e | refine q0b rfl ?_ | apply q0o | apply q0p | apply And.intro)
  | (with_reducible refine AW.runK hC ?_; intro K hK)
  | ((with_reducible first | refine q0t ?_ | refine q0k ?_); refine siQ ?_; (try simp (disch := omega) only [w64, wu8]))
  | ((first | refine AW.cond rfl (fun h => ?_) fun h => ?_ | refine AW.cond_ub rfl (fun h => ?_) ?_ | refine AW.cond_nb rfl ?_ fun h => ?_) <;> (try replace h := q0a h) <;> try (exfalso; first | omega | exact absurd h (by decide)))
  | (refine q0h ?_; refine subQ ?_)
  | (subst hK)
  | exact trivial
  all_goals try (intros; assumption)
  all_goals try refine q0v ?_
  all_goals try replace hp := q0a hp
  all_goals try (intros; first | trivial | omega)
  all_goals (try (rw [w64 (by omega) (by omega)]; first | done | omega))
  all_goals clear hC
  all_goals first
  | omega
  | rfl
  | exact q0q _
  | exact qj3 (qxv (by assumption))
  | exact qj3 (qxw (by assumption))
  | (intro d hd; first | (subst hd; exact ⟨rfl, by simp [D.cells, D.one]⟩) | (rcases hd with rfl | rfl <;> exact ⟨rfl, by simp [D.cells, D.one]⟩) | (rcases hd with rfl | rfl | rfl <;> exact ⟨rfl, by simp [D.cells, D.one]⟩) | (rcases hd with rfl | rfl | rfl | rfl <;> exact ⟨rfl, by simp [D.cells, D.one]⟩))
end
noncomputable def cfg70 : Cfg := mkC 24 q7j
theorem qbn9 : cfg70.pins = [] ∧ cfg70.P = Tryz.prog ∧ cfg70.N = 24 ∧ cfg70.T 93 = e93 ∧ cfg70.T 94 = e94 ∧ cfg70.ti = (fun _ => none) ∧ cfg70.mv = fun _ _ => [] := by and_intros <;> exact rfl
section
attribute [local go_sem] qbn9 e93 e94
attribute [local go_sem] q0g q0y qdf qdy q0u q00 qba qbh qcy qcz List.length_set Nat.le_refl
theorem qbyg (hC : COk cfg70) (t : Table) (c : Change) (hp : (t.file.format.fields.length ≤ 1000000 ∧ t.file.keys.length ≤ 1000000 ∧ t.records.length ≤ 1000000)) : Sem Tryz.prog 70 [.d (q0g t), .d (q0u c)] (.tup [.d (q0g (qgb t c).1), .d (.i .i64 (qgb t c).2)]) := by
  refine q0f (C := cfg70) (rs := [.cell 4 80, .tmp 5]) (fun _ => []) Tryz.func70 rfl rfl rfl rfl rfl rfl ?_
  refine inQ ?_
  repeat' first
  | (with_reducible first | apply q0l | apply q0c | apply AW.seq | apply AW.block | apply AW.skip | apply AW.exit | apply AW.ret | apply q0m | apply q0n | apply q0d | apply q0e | refine q0b rfl ?_ | apply q0o | apply q0p | apply And.intro)
  | (with_reducible refine AW.runK hC ?_; intro K hK)
  | ((with_reducible first | refine q0t ?_ | refine q0k ?_); refine siQ ?_; (try simp (disch := omega) only [w64, wu8]))
  | ((first | refine AW.cond rfl (fun h => ?_) fun h => ?_ | refine AW.cond_ub rfl (fun h => ?_) ?_ | refine AW.cond_nb rfl ?_ fun h => ?_) <;> (try replace h := q0a h) <;> try (exfalso; first | omega | exact absurd h (by decide)))
  | (refine q0h ?_; refine subQ ?_)
  | (subst hK)
  | exact trivial
  all_goals try (intros; assumption)
  all_goals try refine q0v ?_
  all_goals try replace hp := q0a hp
  all_goals try (intros; first | trivial | omega)
  all_goals (try (rw [w64 (by omega) (by omega)]; first | done | omega))
  all_goals clear hC
  all_goals first
  | omega
  | exact (qnb (by assumption)).1
  | exact (qnb (by assumption)).2
  | (rw [qmd (by assumption)]; done)
  | (rw [qmd (by assumption)]; rfl)
  | (rw [qh5 (by assumption)]; done)
  | (rw [qh5 (by assumption)]; rfl)
  | (rw [qh5 (by assumption)]; exact q0q _)
end
end Go.Ev
