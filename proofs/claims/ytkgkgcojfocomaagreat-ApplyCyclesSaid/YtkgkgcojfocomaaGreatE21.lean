/- Tools and contracts under the laws of this seat: Dyc177 to Dyc139. -/
import Derived.Test.YtkgkgcojfocomaaGreatE09
set_option linter.unusedVariables false
set_option linter.unusedSimpArgs false
namespace Go.Ev
open Go.Proofs Ty
set_option maxRecDepth 10000
set_option maxHeartbeats 4000000
attribute [local go_sem] qbe qbg qcg qc2 qb7 qde qdo qei Int.toNat_natCast qdd qd7 qer qcv qch qbn qb2 decI List.length_map nc0 qbf qbm q05 qb5 qc8 qds qbw qb3 qec qe9 q06 qbx qcq qdc qb6 qci qdt qed qbp qc5 qee qfa qb1 qbr qcu qda qcs qeg qdb qct qeh qc9 qcr qef List.length_take qck Int.toNat_zero Nat.sub_zero List.drop_zero
attribute [local go_sem ←] List.map_take List.map_drop
noncomputable def cfg177 : Cfg := mkC 22 q15
theorem qbhu : cfg177.pins = [] ∧ cfg177.P = Tryz.prog ∧ cfg177.N = 22 ∧ cfg177.ti 179 = none ∧ cfg177.T 179 = e179 ∧ cfg177.mv 179 = (fun _ => []) := by and_intros <;> exact rfl
section
attribute [local go_sem] qbhu e179
theorem qbtk (hC : COk cfg177) (f : Fmt) (hp : f.fields.length ≤ 1000000 ∧ (∀ j, j < f.fields.length → qbi (f.fields.getD j q04).type_ = 0)) : Sem Tryz.prog 177 [.d (qbw f)] (.d (.i .i64 (qfe f))) := by
  refine q0f (C := cfg177) (rs := [.tmp 2]) (fun _ => []) Tryz.func177 rfl rfl rfl rfl rfl rfl ?_
  refine inQ ?_
  repeat' first
  | (with_reducible first | apply q0l | apply q0c | apply AW.seq | apply AW.block | apply AW.skip | apply AW.exit | apply AW.ret | apply q0m | apply q0n | apply q0d | apply q0e | refine q0b rfl ?_ | apply q0o | apply q0p | apply And.intro)
  | (with_reducible refine AW.runK hC ?_; intro K hK)
  | ((with_reducible first | refine q0t ?_ | refine q0k ?_); refine siQ ?_; (try simp (disch := omega) only [w64, wu8]))
  | ((first | refine AW.cond rfl (fun h => ?_) fun h => ?_ | refine AW.cond_ub rfl (fun h => ?_) ?_ | refine AW.cond_nb rfl ?_ fun h => ?_) <;> (try replace h := q0a h) <;> try (exfalso; first | omega | exact absurd h (by decide)))
  | (refine AW.loopN 3 rfl (ι := Nat) (fun i => mkS [(1, V.ptr 16 0), (3, V.d (.i .i64 (qcc f.fields i))), (4, V.d (.i .i64 (i : Int)))] ([(16, .live (.box 74 [.d (.s f.name), .d (.sl 4 (f.fields.map q05))]))])) (fun i => i ≤ f.fields.length) (fun i => f.fields.length - i) (0) ?_ ?_ (fun i hi => ?_) <;> (try dsimp only) <;> (try dsimp only at hi))
  | (refine LoopNext.mk1 3 (i + 1) ?_ ?_ ?_ <;> (try dsimp only))
  | (refine q0h ?_; refine subQ ?_)
  | (subst hK)
  | exact trivial
  all_goals try (intros; assumption)
  all_goals try refine q0v ?_
  all_goals try replace hp := q0a hp
  all_goals try replace hi := q0a hi
  all_goals try (intros; first | trivial | omega)
  all_goals (try (rw [w64 (by omega) (by omega)]; first | done | omega))
  all_goals (try have O1 := qgp f.fields i)
  all_goals (try have S1 := ql0 (hp.2 i (by omega)))
  all_goals clear hC
  all_goals first
  | omega
  | rfl
  | exact hp.2 i (by omega)
  | (rw [q1t hp.2 (by omega), w64 (by omega) (by omega)]; done)
  | (rw [qfe, show f.fields.length = i by omega]; done)
end
noncomputable def cfg192 : Cfg := mkC 66 q16
theorem qbhv : cfg192.pins = [] ∧ cfg192.P = Tryz.prog ∧ cfg192.N = 66 ∧ cfg192.T 51 = e51 ∧ cfg192.T 76 = e76 ∧ cfg192.T 177 = e177 ∧ cfg192.T 178 = e178 ∧ cfg192.T 193 = e193 ∧ cfg192.ti = (fun _ => none) ∧ cfg192.mv = fun _ _ => [] := by and_intros <;> exact rfl
section
attribute [local go_sem] qbhv e51 e76 e177 e178 e193
theorem qbtl (hC : COk cfg192) (f : Fmt) (hp : f.fields.length ≤ 1000000) : Sem Tryz.prog 192 [.d (qbw f)] (.tup [.d (.i .i64 (qg2 f.fields).1), .d (.i .i64 (qg2 f.fields).2)]) := by
  refine q0f (C := cfg192) (rs := [.tmp 2, .tmp 3]) (fun _ => []) Tryz.func192 rfl rfl rfl rfl rfl rfl ?_
  refine inQ ?_
  repeat' first
  | (with_reducible first | apply q0l | apply q0c | apply AW.seq | apply AW.block | apply AW.skip | apply AW.exit | apply AW.ret | apply q0m | apply q0n | apply q0d | apply q0e | refine q0b rfl ?_ | apply q0o | apply q0p | apply And.intro)
  | (refine AW.atR 17 rfl ?_; by_cases hs : 200 < qfe f)
  | (with_reducible first | (refine AWh.runK hC ?_; intro K hK) | (refine AWh.drawK hC (by kernel_rfl) ?_; intro K hK))
  | (with_reducible first | (refine AW.runK hC ?_; intro K hK) | (refine AW.drawK hC (by kernel_rfl) ?_; intro K hK))
  | ((with_reducible first | refine q0t ?_ | refine qbz ?_ | refine q0k ?_); (first | (simp (maxSteps := 1000000) only [go_sem, ↓reduceIte, reduceCtorEq, Nat.reduceEqDiff, Nat.reduceLT, Nat.reduceLeDiff, Nat.reduceMul, Nat.reduceAdd, Nat.reduceSub, reduceDIte, Nat.reduceBEq, Nat.reduceBNe, hs]) | (refine siQ ?_)); (try simp (disch := omega) only [w64, wu8]))
  | (with_reducible refine qbj (by kernel_rfl) ?_)
  | ((first | refine AW.cond rfl (fun h => ?_) fun h => ?_ | refine AW.cond_ub rfl (fun h => ?_) ?_ | refine AW.cond_nb rfl ?_ fun h => ?_) <;> (try replace h := q0a h) <;> try (exfalso; first | omega | exact absurd h (by decide)))
  | (refine AW.loopN 6 rfl (ι := Nat) (fun i => mkS [(1, V.ptr 16 0), (4, V.d (.i .i64 (i : Int)))] ([(16, .live (.box 74 [.d (.s f.name), .d (.sl 4 (f.fields.map q05))]))])) (fun i => i ≤ f.fields.length ∧ (1 ≤ f.fields.length ∧ f.fields.length ≤ 20) ∧ ∀ j, j < i → qej f.fields j = 0) (fun i => f.fields.length - i) (0) ?_ ?_ (fun i hi => ?_) <;> (try dsimp only) <;> (try dsimp only at hi))
  | (refine LoopNext.mk1 6 (i + 1) ?_ ?_ ?_ <;> (try dsimp only))
  | (refine q0h ?_; refine subQ ?_)
  | (subst hK)
  | exact trivial
  all_goals try (intros; assumption)
  all_goals try refine q0v ?_
  all_goals try replace hp := q0a hp
  all_goals try replace hi := q0a hi
  all_goals try (intros; first | trivial | omega)
  all_goals (try (rw [w64 (by omega) (by omega)]; first | done | omega))
  all_goals (try have O1 := qgp f.fields f.fields.length)
  all_goals clear hC
  all_goals (try have N0 : ¬qbb (f.fields.getD i q04).name = false := by rw [show qbb (f.fields.getD i q04).name = true by assumption]; decide)
  all_goals first
  | omega
  | rfl
  | (rw [qbfv (by omega)]; done)
  | (rw [qbbk (by omega)]; done)
  | exact qbfw hi.2.2 (by omega)
  | (rw [qng hi.2.1 hi.2.2 (by omega) (by rw [q5d (by assumption)]; decide)]; first | done | exact q5d (by assumption))
  | (rw [qng hi.2.1 hi.2.2 (by omega) (by rw [qbbi (by omega) N0 (by assumption)]; decide)]; first | done | exact qbbi (by omega) N0 (by assumption))
  | (rw [qng hi.2.1 hi.2.2 (by omega) (by rw [q5e (by omega) N0 (by assumption) (by assumption)]; assumption)]; first | done | exact q5e (by omega) N0 (by assumption) (by assumption))
  | (rw [qng hi.2.1 hi.2.2 (by omega) (by rw [qbbj (by omega) N0 (by assumption) (by assumption) (by assumption)]; decide)]; first | done | exact qbbj (by omega) N0 (by assumption) (by assumption) (by assumption))
  | exact qes hi.2.2 (qbxi (by omega) N0 (by assumption) (by assumption) (by assumption))
  | (rw [qnh hi.2.1 hi.2.2 (by omega)]; done)
  | (rw [qnh hi.2.1 hi.2.2 (by omega)]; unfold qfe; by_cases q : 200 < qcc f.fields f.fields.length <;> simp [q]; done)
  | (rw [qnh hi.2.1 hi.2.2 (by omega), if_pos (by assumption)]; rfl)
  | (rw [qnh hi.2.1 hi.2.2 (by omega), if_neg (by unfold qfe at hs; omega)]; rfl)
end
noncomputable def cfg175 : Cfg := mkC 12 q17
theorem qbhw : cfg175.pins = [] ∧ cfg175.P = Tryz.prog ∧ cfg175.N = 12 ∧ cfg175.T 51 = e51 ∧ cfg175.T 192 = e192 ∧ cfg175.ti = (fun _ => none) ∧ cfg175.mv = fun _ _ => [] := by and_intros <;> exact rfl
section
attribute [local go_sem] qbhw e51 e192
theorem qbtm (hC : COk cfg175) (f : Fmt) (hp : f.fields.length ≤ 1000000) : Sem Tryz.prog 175 [.d (qbw f)] (.tup [.d (.i .i64 (qca f).1), .d (.i .i64 (qca f).2)]) := by
  refine q0f (C := cfg175) (rs := [.tmp 2, .tmp 3]) (fun _ => []) Tryz.func175 rfl rfl rfl rfl rfl rfl ?_
  refine inQ ?_
  repeat' first
  | (with_reducible first | apply q0l | apply q0c | apply AW.seq | apply AW.block | apply AW.skip | apply AW.exit | apply AW.ret | apply q0m | apply q0n | apply q0d | apply q0e | refine q0b rfl ?_ | apply q0o | apply q0p | apply And.intro)
  | (with_reducible refine AW.runK hC ?_; intro K hK)
  | ((with_reducible first | refine q0t ?_ | refine q0k ?_); refine siQ ?_; (try simp (disch := omega) only [w64, wu8]))
  | ((first | refine AW.cond rfl (fun h => ?_) fun h => ?_ | refine AW.cond_ub rfl (fun h => ?_) ?_ | refine AW.cond_nb rfl ?_ fun h => ?_) <;> (try replace h := q0a h) <;> try (exfalso; first | omega | exact absurd h (by decide)))
  | (refine q0h ?_; refine subQ ?_)
  | (subst hK)
  | exact trivial
  all_goals try (intros; assumption)
  all_goals try refine q0v ?_
  all_goals try replace hp := q0a hp
  all_goals try (intros; first | trivial | omega)
  all_goals (try (rw [w64 (by omega) (by omega)]; first | done | omega))
  all_goals clear hC
  all_goals first
  | omega
  | rfl
  | (rw [qbfu (by assumption)]; done)
  | (rw [q8j (by simp_all)]; done)
end
noncomputable def cfg176 : Cfg := mkC 47 q18
theorem qbhx : cfg176.pins = [] ∧ cfg176.P = Tryz.prog ∧ cfg176.N = 47 ∧ cfg176.ti 193 = none ∧ cfg176.T 193 = e193 ∧ cfg176.mv 193 = (fun _ => []) := by and_intros <;> exact rfl
section
attribute [local go_sem] qbhx e193
theorem qbtn (hC : COk cfg176) (f : File) (hp : f.format.fields.length ≤ 1000000 ∧ f.keys.length ≤ 1000000) : Sem Tryz.prog 176 [.d (qb6 f)] (.tup [.d (.i .i64 (qkh f).1), .d (.i .i64 (qkh f).2)]) := by
  refine q0f (C := cfg176) (rs := [.tmp 2, .tmp 3]) (fun _ => []) Tryz.func176 rfl rfl rfl rfl rfl rfl ?_
  refine inQ ?_
  repeat' first
  | (with_reducible first | apply q0l | apply q0c | apply AW.seq | apply AW.block | apply AW.skip | apply AW.exit | apply AW.ret | apply q0m | apply q0n | apply q0d | apply q0e | refine q0b rfl ?_ | apply q0o | apply q0p | apply And.intro)
  | (with_reducible first | (refine AW.runK hC ?_; intro K hK) | (refine AW.drawK hC (by kernel_rfl) ?_; intro K hK))
  | ((with_reducible first | refine q0t ?_ | refine qbz ?_ | refine q0k ?_); refine siQ ?_; (try simp (disch := omega) only [w64, wu8]))
  | (with_reducible refine qbj (by kernel_rfl) ?_)
  | ((first | refine AW.cond rfl (fun h => ?_) fun h => ?_ | refine AW.cond_ub rfl (fun h => ?_) ?_ | refine AW.cond_nb rfl ?_ fun h => ?_) <;> (try replace h := q0a h) <;> try (exfalso; first | omega | exact absurd h (by decide)))
  | (refine AW.loopN 4 rfl (ι := Nat) (fun i => mkS [(1, V.ptr 16 0), (4, V.d (.i .i64 (i : Int)))] ([(16, .live (.box 77 [.d (.s f.name), .d (.s f.format.name), .d (.sl 4 (f.format.fields.map q05)), .d (.sl 2 (f.keys.map q06)), .d (.b f.unique)]))])) (fun i => i ≤ f.keys.length ∧ f.keys.length ≤ 4 ∧ ∀ j, j < i → keyE f j = 0) (fun i => f.keys.length - i) (0) ?_ ?_ (fun i hi => ?_) <;> (try dsimp only) <;> (try dsimp only at hi))
  | (refine LoopNext.mk1 4 (i + 1) ?_ ?_ ?_ <;> (try dsimp only))
  | (refine AW.loopN 9 rfl (ι := Nat) (fun k => mkS [(1, V.ptr 16 0), (4, V.d (.i .i64 (i : Int))), (5, V.d (.i .i64 (k : Int)))] ([(16, .live (.box 77 [.d (.s f.name), .d (.s f.format.name), .d (.sl 4 (f.format.fields.map q05)), .d (.sl 2 (f.keys.map q06)), .d (.b f.unique)]))])) (fun k => k ≤ i ∧ ∀ j, j < k → qpe f i j = 0) (fun k => i - k) (0) ?_ ?_ (fun k hk => ?_) <;> (try dsimp only) <;> (try dsimp only at hk))
  | (refine LoopNext.mk1 9 (k + 1) ?_ ?_ ?_ <;> (try dsimp only))
  | (refine q0h ?_; refine subQ ?_)
  | (subst hK)
  | exact trivial
  all_goals try (intros; assumption)
  all_goals try refine q0v ?_
  all_goals try replace hp := q0a hp
  all_goals try replace hi := q0a hi
  all_goals try replace hk := q0a hk
  all_goals try (intros; first | trivial | omega)
  all_goals (try (rw [w64 (by omega) (by omega)]; first | done | omega))
  all_goals clear hC
  all_goals first
  | omega
  | rfl
  | (rw [qbru (by omega)]; done)
  | (rw [q1u hi.2.1 hi.2.2 (by omega) (by rw [q5f (by assumption)]; decide)]; first | done | exact q5f (by assumption))
  | (rw [q1u hi.2.1 hi.2.2 (by omega) (by rw [qbbn (by assumption) (k := k) (by omega) (by omega) (by assumption)]; decide)]; first | done | exact qbbn (by assumption) (k := k) (by omega) (by omega) (by assumption))
  | exact qes hk.2 (qbxj (by assumption))
  | exact qes hi.2.2 (qbxk (by assumption) hk.2 (by omega))
  | (rw [qbfy hi.2.1 hi.2.2 (by omega)]; done)
end
noncomputable def cfg166 : Cfg := mkC 23 q19
theorem qbhy : cfg166.pins = [] ∧ cfg166.P = Tryz.prog ∧ cfg166.N = 23 ∧ cfg166.T 51 = e51 ∧ cfg166.T 175 = e175 ∧ cfg166.T 176 = e176 ∧ cfg166.ti = (fun _ => none) ∧ cfg166.mv = fun _ _ => [] := by and_intros <;> exact rfl
section
attribute [local go_sem] qbhy e51 e175 e176
theorem qbto (hC : COk cfg166) (f : File) (hp : f.format.fields.length ≤ 1000000 ∧ f.keys.length ≤ 1000000) : Sem Tryz.prog 166 [.d (qb6 f)] (.tup [.d (.i .i64 (qcb f).1), .d (.i .i64 (qcb f).2)]) := by
  refine q0f (C := cfg166) (rs := [.tmp 2, .tmp 3]) (fun _ => []) Tryz.func166 rfl rfl rfl rfl rfl rfl ?_
  refine inQ ?_
  repeat' first
  | (with_reducible first | apply q0l | apply q0c | apply AW.seq | apply AW.block | apply AW.skip | apply AW.exit | apply AW.ret | apply q0m | apply q0n | apply q0d | apply q0e | refine q0b rfl ?_ | apply q0o | apply q0p | apply And.intro)
  | (with_reducible refine AW.runK hC ?_; intro K hK)
  | ((with_reducible first | refine q0t ?_ | refine q0k ?_); refine siQ ?_; (try simp (disch := omega) only [w64, wu8]))
  | ((first | refine AW.cond rfl (fun h => ?_) fun h => ?_ | refine AW.cond_ub rfl (fun h => ?_) ?_ | refine AW.cond_nb rfl ?_ fun h => ?_) <;> (try replace h := q0a h) <;> try (exfalso; first | omega | exact absurd h (by decide)))
  | (refine q0h ?_; refine subQ ?_)
  | (subst hK)
  | exact trivial
  all_goals try (intros; assumption)
  all_goals try refine q0v ?_
  all_goals try replace hp := q0a hp
  all_goals try (intros; first | trivial | omega)
  all_goals (try (rw [w64 (by omega) (by omega)]; first | done | omega))
  all_goals clear hC
  all_goals first
  | omega
  | rfl
  | (rw [qbbl (by assumption)]; done)
  | (have h0 : qbb f.name = true := by assumption
     rw [qbfx (by rw [h0]; decide) (by assumption)]; done)
  | (have h0 : qbb f.name = true := by assumption
     rw [qbbm (by rw [h0]; decide) (by assumption)]; done)
end
noncomputable def cfg156 : Cfg := mkC 11 q2a
theorem qbhz : cfg156.pins = [] ∧ cfg156.P = Tryz.prog ∧ cfg156.N = 11 ∧ cfg156.ti 166 = none ∧ cfg156.T 166 = e166 ∧ cfg156.mv 166 = (fun _ => []) := by and_intros <;> exact rfl
section
attribute [local go_sem] qbhz e166
theorem qbtp (hC : COk cfg156) (f : File) (hp : f.format.fields.length ≤ 1000000 ∧ f.keys.length ≤ 1000000) : Sem Tryz.prog 156 [.d (qb6 f)] (.d (.i .i64 (qcb f).2)) := by
  refine q0f (C := cfg156) (rs := [.tmp 2]) (fun _ => []) Tryz.func156 rfl rfl rfl rfl rfl rfl ?_
  refine inQ ?_
  repeat' first
  | (with_reducible first | apply q0l | apply q0c | apply AW.seq | apply AW.block | apply AW.skip | apply AW.exit | apply AW.ret | apply q0m | apply q0n | apply q0d | apply q0e | refine q0b rfl ?_ | apply q0o | apply q0p | apply And.intro)
  | (with_reducible refine AW.runK hC ?_; intro K hK)
  | ((with_reducible first | refine q0t ?_ | refine q0k ?_); refine siQ ?_; (try simp (disch := omega) only [w64, wu8]))
  | ((first | refine AW.cond rfl (fun h => ?_) fun h => ?_ | refine AW.cond_ub rfl (fun h => ?_) ?_ | refine AW.cond_nb rfl ?_ fun h => ?_) <;> (try replace h := q0a h) <;> try (exfalso; first | omega | exact absurd h (by decide)))
  | (refine q0h ?_; refine subQ ?_)
  | (subst hK)
  | exact trivial
  all_goals try (intros; assumption)
  all_goals try refine q0v ?_
  all_goals try replace hp := q0a hp
  all_goals try (intros; first | trivial | omega)
  all_goals (try (rw [w64 (by omega) (by omega)]; first | done | omega))
end
noncomputable def cfg138 : Cfg := mkC 5 q2b
theorem qbh0 : cfg138.pins = [] ∧ cfg138.P = Tryz.prog ∧ cfg138.N = 5 ∧ cfg138.ti 156 = none ∧ cfg138.T 156 = e156 ∧ cfg138.mv 156 = (fun _ => []) := by and_intros <;> exact rfl
section
attribute [local go_sem] qbh0 e156
theorem qbtq (hC : COk cfg138) (f : File) (hp : f.format.fields.length ≤ 1000000 ∧ f.keys.length ≤ 1000000) : Sem Tryz.prog 138 [.d (qb6 f)] (.d (.i .i64 (qcb f).2)) := by
  refine q0f (C := cfg138) (rs := [.tmp 2]) (fun _ => []) Tryz.func138 rfl rfl rfl rfl rfl rfl ?_
  refine inQ ?_
  repeat' first
  | (with_reducible first | apply q0l | apply q0c | apply AW.seq | apply AW.block | apply AW.skip | apply AW.exit | apply AW.ret | apply q0m | apply q0n | apply q0d | apply q0e | refine q0b rfl ?_ | apply q0o | apply q0p | apply And.intro)
  | (with_reducible refine AW.runK hC ?_; intro K hK)
  | ((with_reducible first | refine q0t ?_ | refine q0k ?_); refine siQ ?_; (try simp (disch := omega) only [w64, wu8]))
  | ((first | refine AW.cond rfl (fun h => ?_) fun h => ?_ | refine AW.cond_ub rfl (fun h => ?_) ?_ | refine AW.cond_nb rfl ?_ fun h => ?_) <;> (try replace h := q0a h) <;> try (exfalso; first | omega | exact absurd h (by decide)))
  | (refine q0h ?_; refine subQ ?_)
  | (subst hK)
  | exact trivial
  all_goals try (intros; assumption)
  all_goals try refine q0v ?_
  all_goals try replace hp := q0a hp
  all_goals try (intros; first | trivial | omega)
  all_goals (try (rw [w64 (by omega) (by omega)]; first | done | omega))
end
noncomputable def cfg167 : Cfg := mkC 11 q2c
theorem qbh1 : cfg167.pins = [] ∧ cfg167.P = Tryz.prog ∧ cfg167.N = 11 ∧ cfg167.ti 175 = none ∧ cfg167.T 175 = e175 ∧ cfg167.mv 175 = (fun _ => []) := by and_intros <;> exact rfl
section
attribute [local go_sem] qbh1 e175
theorem qbtr (hC : COk cfg167) (f : Fmt) (hp : f.fields.length ≤ 1000000) : Sem Tryz.prog 167 [.d (qbw f)] (.d (.i .i64 (qca f).2)) := by
  refine q0f (C := cfg167) (rs := [.tmp 2]) (fun _ => []) Tryz.func167 rfl rfl rfl rfl rfl rfl ?_
  refine inQ ?_
  repeat' first
  | (with_reducible first | apply q0l | apply q0c | apply AW.seq | apply AW.block | apply AW.skip | apply AW.exit | apply AW.ret | apply q0m | apply q0n | apply q0d | apply q0e | refine q0b rfl ?_ | apply q0o | apply q0p | apply And.intro)
  | (with_reducible refine AW.runK hC ?_; intro K hK)
  | ((with_reducible first | refine q0t ?_ | refine q0k ?_); refine siQ ?_; (try simp (disch := omega) only [w64, wu8]))
  | ((first | refine AW.cond rfl (fun h => ?_) fun h => ?_ | refine AW.cond_ub rfl (fun h => ?_) ?_ | refine AW.cond_nb rfl ?_ fun h => ?_) <;> (try replace h := q0a h) <;> try (exfalso; first | omega | exact absurd h (by decide)))
  | (refine q0h ?_; refine subQ ?_)
  | (subst hK)
  | exact trivial
  all_goals try (intros; assumption)
  all_goals try refine q0v ?_
  all_goals try replace hp := q0a hp
  all_goals try (intros; first | trivial | omega)
  all_goals (try (rw [w64 (by omega) (by omega)]; first | done | omega))
end
noncomputable def cfg168 : Cfg := mkC 5 q2d
theorem qbh2 : cfg168.pins = [] ∧ cfg168.P = Tryz.prog ∧ cfg168.N = 5 ∧ cfg168.ti 177 = none ∧ cfg168.T 177 = e177 ∧ cfg168.mv 177 = (fun _ => []) := by and_intros <;> exact rfl
section
attribute [local go_sem] qbh2 e177
theorem qbts (hC : COk cfg168) (f : Fmt) (hp : f.fields.length ≤ 1000000 ∧ (∀ j, j < f.fields.length → qbi (f.fields.getD j q04).type_ = 0)) : Sem Tryz.prog 168 [.d (qbw f)] (.d (.i .i64 (qfe f))) := by
  refine q0f (C := cfg168) (rs := [.tmp 2]) (fun _ => []) Tryz.func168 rfl rfl rfl rfl rfl rfl ?_
  refine inQ ?_
  repeat' first
  | (with_reducible first | apply q0l | apply q0c | apply AW.seq | apply AW.block | apply AW.skip | apply AW.exit | apply AW.ret | apply q0m | apply q0n | apply q0d | apply q0e | refine q0b rfl ?_ | apply q0o | apply q0p | apply And.intro)
  | (with_reducible refine AW.runK hC ?_; intro K hK)
  | ((with_reducible first | refine q0t ?_ | refine q0k ?_); refine siQ ?_; (try simp (disch := omega) only [w64, wu8]))
  | ((first | refine AW.cond rfl (fun h => ?_) fun h => ?_ | refine AW.cond_ub rfl (fun h => ?_) ?_ | refine AW.cond_nb rfl ?_ fun h => ?_) <;> (try replace h := q0a h) <;> try (exfalso; first | omega | exact absurd h (by decide)))
  | (refine q0h ?_; refine subQ ?_)
  | (subst hK)
  | exact trivial
  all_goals try (intros; assumption)
  all_goals try refine q0v ?_
  all_goals try replace hp := q0a hp
  all_goals try (intros; first | trivial | omega)
  all_goals (try (rw [w64 (by omega) (by omega)]; first | done | omega))
  all_goals first | exact hp.2 | omega
end
noncomputable def cfg184 : Cfg := mkC 22 q2e
theorem qbh3 : cfg184.pins = [] ∧ cfg184.P = Tryz.prog ∧ cfg184.N = 22 ∧ cfg184.ti 179 = none ∧ cfg184.T 179 = e179 ∧ cfg184.mv 179 = (fun _ => []) := by and_intros <;> exact rfl
section
attribute [local go_sem] qbh3 e179
theorem qbtt (hC : COk cfg184) (f : Fmt) (a : Int) (hp : f.fields.length ≤ 1000000 ∧ (∀ j, j < f.fields.length → qbi (f.fields.getD j q04).type_ = 0) ∧ 0 ≤ a ∧ a ≤ (f.fields.length : Int)) : Sem Tryz.prog 184 [.d (qbw f), .d (.i .i64 a)] (.d (.i .i64 (qcc f.fields a.toNat))) := by
  refine q0f (C := cfg184) (rs := [.tmp 4]) (fun _ => []) Tryz.func184 rfl rfl rfl rfl rfl rfl ?_
  refine inQ ?_
  repeat' first
  | (with_reducible first | apply q0l | apply q0c | apply AW.seq | apply AW.block | apply AW.skip | apply AW.exit | apply AW.ret | apply q0m | apply q0n | apply q0d | apply q0e | refine q0b rfl ?_ | apply q0o | apply q0p | apply And.intro)
  | (with_reducible refine AW.runK hC ?_; intro K hK)
  | ((with_reducible first | refine q0t ?_ | refine q0k ?_); refine siQ ?_; (try simp (disch := omega) only [w64, wu8]))
  | ((first | refine AW.cond rfl (fun h => ?_) fun h => ?_ | refine AW.cond_ub rfl (fun h => ?_) ?_ | refine AW.cond_nb rfl ?_ fun h => ?_) <;> (try replace h := q0a h) <;> try (exfalso; first | omega | exact absurd h (by decide)))
  | (refine AW.loopN 3 rfl (ι := Nat) (fun i => mkS [(1, V.d (.i .i64 a)), (2, V.ptr 32 0), (5, V.d (.i .i64 (qcc f.fields i))), (6, V.d (.i .i64 (i : Int)))] ([(32, .live (.box 74 [.d (.s f.name), .d (.sl 4 (f.fields.map q05))]))])) (fun i => (i : Int) ≤ a) (fun i => a.toNat - i) (0) ?_ ?_ (fun i hi => ?_) <;> (try dsimp only) <;> (try dsimp only at hi))
  | (refine LoopNext.mk1 3 (i + 1) ?_ ?_ ?_ <;> (try dsimp only))
  | (refine q0h ?_; refine subQ ?_)
  | (subst hK)
  | exact trivial
  all_goals try (intros; assumption)
  all_goals try refine q0v ?_
  all_goals try replace hp := q0a hp
  all_goals try replace hi := q0a hi
  all_goals try (intros; first | trivial | omega)
  all_goals (try (rw [w64 (by omega) (by omega)]; first | done | omega))
  all_goals (try have O1 := qgp f.fields i)
  all_goals (try have S1 := ql0 (hp.2.1 i (by omega)))
  all_goals clear hC
  all_goals first
  | omega
  | rfl
  | exact hp.2.1 i (by omega)
  | (rw [q1t hp.2.1 (by omega), w64 (by omega) (by omega)]; done)
  | (rw [show a.toNat = i by omega]; done)
end
noncomputable def cfg170 : Cfg := mkC 23 q2f
theorem qbh4 : cfg170.pins = [] ∧ cfg170.P = Tryz.prog ∧ cfg170.N = 23 ∧ cfg170.T 179 = e179 ∧ cfg170.T 184 = e184 ∧ cfg170.ti = (fun _ => none) ∧ cfg170.mv = fun _ _ => [] := by and_intros <;> exact rfl
section
attribute [local go_sem] qbh4 e179 e184
theorem qbtu (hC : COk cfg170) (f : Fmt) (s : ByteArray) (a : Int) (hp : f.fields.length ≤ 1000000 ∧ (∀ j, j < f.fields.length → qbi (f.fields.getD j q04).type_ = 0) ∧ 0 ≤ a ∧ a < (f.fields.length : Int) ∧ (s.size : Int) = qfe f) : Sem Tryz.prog 170 [.d (qbw f), .d (.s s), .d (.i .i64 a)] (.d (.s (qp3 f s a.toNat))) := by
  refine q0f (C := cfg170) (rs := [.tmp 6]) (fun _ => []) Tryz.func170 rfl rfl rfl rfl rfl rfl ?_
  refine inQ ?_
  repeat' first
  | (with_reducible first | apply q0l | apply q0c | apply AW.seq | apply AW.block | apply AW.skip | apply AW.exit | apply AW.ret | apply q0m | apply q0n | apply q0d | apply q0e | refine q0b rfl ?_ | apply q0o | apply q0p | apply And.intro)
  | (refine AW.atR 2 rfl ?_; have ht := hp.2.1 a.toNat (by omega); have hf := qbf0 hp.2.2.2.2 (show a.toNat < f.fields.length by omega) ht; have ho := qgp f.fields a.toNat; have hz := ql0 ht; have hw : IntKind.i64.wrap (qcc f.fields a.toNat + qex (f.fields.getD a.toNat q04).type_) = qcc f.fields a.toNat + qex (f.fields.getD a.toNat q04).type_ := (w64 (by omega) (by omega)); have he := qbfz (b := s) ht)
  | (with_reducible first | (refine AWh.runK hC ?_; intro K hK) | (refine AWh.drawK hC (by kernel_rfl) ?_; intro K hK))
  | (with_reducible refine AW.runK hC ?_; intro K hK)
  | ((with_reducible first | refine q0t ?_ | refine q0k ?_); (first | (simp (maxSteps := 1000000) only [go_sem, ↓reduceIte, reduceCtorEq, Nat.reduceEqDiff, Nat.reduceLT, Nat.reduceLeDiff, Nat.reduceMul, Nat.reduceAdd, Nat.reduceSub, reduceDIte, Nat.reduceBEq, Nat.reduceBNe, hw, he]) | (refine siQ ?_)); (try simp (disch := omega) only [w64, wu8]))
  | ((first | refine AW.cond rfl (fun h => ?_) fun h => ?_ | refine AW.cond_ub rfl (fun h => ?_) ?_ | refine AW.cond_nb rfl ?_ fun h => ?_) <;> (try replace h := q0a h) <;> try (exfalso; first | omega | exact absurd h (by decide)))
  | (refine q0h ?_; refine subQ ?_)
  | (subst hK)
  | exact trivial
  all_goals try (intros; assumption)
  all_goals try refine q0v ?_
  all_goals try replace hp := q0a hp
  all_goals try (intros; first | trivial | omega)
  all_goals (try (rw [w64 (by omega) (by omega)]; first | done | omega))
  all_goals clear hC
  all_goals first
  | omega
  | rfl
  | assumption
  | exact hp.2.1
end
noncomputable def cfg157 : Cfg := mkC 47 q2g
theorem qbh5 : cfg157.pins = [] ∧ cfg157.P = Tryz.prog ∧ cfg157.N = 47 ∧ cfg157.T 167 = e167 ∧ cfg157.T 168 = e168 ∧ cfg157.T 169 = e169 ∧ cfg157.T 170 = e170 ∧ cfg157.ti = (fun _ => none) ∧ cfg157.mv = fun _ _ => [] := by and_intros <;> exact rfl
section
attribute [local go_sem] qbh5 e167 e168 e169 e170
theorem qbtv (hC : COk cfg157) (f : Fmt) (s : ByteArray) (hp : f.fields.length ≤ 1000000) : Sem Tryz.prog 157 [.d (qbw f), .d (.s s)] (.tup [.d (.i .i64 (qc3 f s).2.1), .d (.i .i64 (qc3 f s).2.2)]) := by
  refine q0f (C := cfg157) (rs := [.tmp 4, .tmp 5]) (fun _ => []) Tryz.func157 rfl rfl rfl rfl rfl rfl ?_
  refine inQ ?_
  repeat' first
  | (with_reducible first | apply q0l | apply q0c | apply AW.seq | apply AW.block | apply AW.skip | apply AW.exit | apply AW.ret | apply q0m | apply q0n | apply q0d | apply q0e | refine q0b rfl ?_ | apply q0o | apply q0p | apply And.intro)
  | (with_reducible first | (refine AW.runK hC ?_; intro K hK) | (refine AW.drawK hC (by kernel_rfl) ?_; intro K hK))
  | ((with_reducible first | refine q0t ?_ | refine qbz ?_ | refine q0k ?_); refine siQ ?_; (try simp (disch := omega) only [w64, wu8]))
  | (with_reducible refine qbj (by kernel_rfl) ?_)
  | ((first | refine AW.cond rfl (fun h => ?_) fun h => ?_ | refine AW.cond_ub rfl (fun h => ?_) ?_ | refine AW.cond_nb rfl ?_ fun h => ?_) <;> (try replace h := q0a h) <;> try (exfalso; first | omega | exact absurd h (by decide)))
  | (refine AW.loopN 7 rfl (ι := Nat) (fun i => mkS [(1, V.d (.s s)), (2, V.ptr 32 0), (7, V.d (.i .i64 (i : Int)))] ([(32, .live (.box 74 [.d (.s f.name), .d (.sl 4 (f.fields.map q05))]))])) (fun i => i ≤ f.fields.length ∧ ((qca f).2 = 0 ∧ (s.size : Int) = qfe f) ∧ ∀ j, j < i → qkf f s j = 0) (fun i => f.fields.length - i) (0) ?_ ?_ (fun i hi => ?_) <;> (try dsimp only) <;> (try dsimp only at hi))
  | (refine LoopNext.mk1 7 (i + 1) ?_ ?_ ?_ <;> (try dsimp only))
  | (refine q0h ?_; refine subQ ?_)
  | (subst hK)
  | exact trivial
  all_goals try (intros; assumption)
  all_goals try refine q0v ?_
  all_goals try replace hp := q0a hp
  all_goals try replace hi := q0a hi
  all_goals try (intros; first | trivial | omega)
  all_goals (try (rw [w64 (by omega) (by omega)]; first | done | omega))
  all_goals clear hC
  all_goals first
  | omega
  | rfl
  | exact qyb (by assumption)
  | exact qyb hi.2.1.1
  | exact hi.2.1.2
  | (rw [qsf (by assumption)]; done)
  | (rw [qsg (by assumption) (by assumption)]; done)
  | (rw [qbf1 hi.2.1.1 hi.2.1.2 hi.2.2 (by omega) (by assumption)]; first | done | rfl)
  | exact qes hi.2.2 (by assumption)
  | (rw [qbf2 hi.2.1.1 hi.2.1.2 hi.2.2 (by omega)]; done)
end
noncomputable def cfg139 : Cfg := mkC 14 q2h
theorem qbh6 : cfg139.pins = [] ∧ cfg139.P = Tryz.prog ∧ cfg139.N = 14 ∧ cfg139.ti 157 = none ∧ cfg139.T 157 = e157 ∧ cfg139.mv 157 = (fun _ => []) := by and_intros <;> exact rfl
section
attribute [local go_sem] qbh6 e157
theorem qbtw (hC : COk cfg139) (f : Fmt) (s : ByteArray) (hp : f.fields.length ≤ 1000000) : Sem Tryz.prog 139 [.d (qbw f), .d (.s s)] (.d (.i .i64 (qc3 f s).2.2)) := by
  refine q0f (C := cfg139) (rs := [.tmp 4]) (fun _ => []) Tryz.func139 rfl rfl rfl rfl rfl rfl ?_
  refine inQ ?_
  repeat' first
  | (with_reducible first | apply q0l | apply q0c | apply AW.seq | apply AW.block | apply AW.skip | apply AW.exit | apply AW.ret | apply q0m | apply q0n | apply q0d | apply q0e | refine q0b rfl ?_ | apply q0o | apply q0p | apply And.intro)
  | (with_reducible refine AW.runK hC ?_; intro K hK)
  | ((with_reducible first | refine q0t ?_ | refine q0k ?_); refine siQ ?_; (try simp (disch := omega) only [w64, wu8]))
  | ((first | refine AW.cond rfl (fun h => ?_) fun h => ?_ | refine AW.cond_ub rfl (fun h => ?_) ?_ | refine AW.cond_nb rfl ?_ fun h => ?_) <;> (try replace h := q0a h) <;> try (exfalso; first | omega | exact absurd h (by decide)))
  | (refine q0h ?_; refine subQ ?_)
  | (subst hK)
  | exact trivial
  all_goals try (intros; assumption)
  all_goals try refine q0v ?_
  all_goals try replace hp := q0a hp
  all_goals try (intros; first | trivial | omega)
  all_goals (try (rw [w64 (by omega) (by omega)]; first | done | omega))
end
end Go.Ev
