/- Tools and contracts under the laws of this seat: Dyc15 to Dyc32. -/
import Derived.Test.YtkgkgcojfocomaaGreatE09
set_option linter.unusedVariables false
set_option linter.unusedSimpArgs false
namespace Go.Ev
open Go.Proofs Ty
set_option maxRecDepth 10000
set_option maxHeartbeats 4000000
attribute [local go_sem] qbe qbg qcg qc2 qb7 qde qdo qei Int.toNat_natCast qdd qd7 qer qcv qch qbn qb2 decI List.length_map nc0 qbf qbm q05 qb5 qc8 qds qbw qb3 qec qe9 q06 qbx qcq qdc qb6 qci qdt qed qbp qc5 qee qfa qb1 qbr qcu qda qcs qeg qdb qct qeh qc9 qcr qef List.length_take qck Int.toNat_zero Nat.sub_zero List.drop_zero q0g q0y qdf qdy q0u q00 qba qbh qcy qcz List.length_set Nat.le_refl
attribute [local go_sem ←] List.map_take List.map_drop
noncomputable def cfg15 : Cfg := mkC 53 q7z
theorem qbom : cfg15.pins = [] ∧ cfg15.P = Tryz.prog ∧ cfg15.N = 53 ∧ cfg15.T 34 = e34 ∧ cfg15.T 35 = e35 ∧ cfg15.T 36 = e36 ∧ cfg15.T 44 = e44 ∧ cfg15.ti = (fun _ => none) ∧ cfg15.mv = fun _ _ => [] := by and_intros <;> exact rfl
section
attribute [local go_sem] qbom e34 e35 e36 e44
attribute [local go_sem] qc0 qcm q0r q0w qb4 qcl qcn qdu qdz qnn qpc
theorem qbyt (hC : COk cfg15) (ts : List Table) (l : List Entry) (n : Int) (hp : okTs ts ∧ l.length ≤ 1000000) : Sem Tryz.prog 15 [.d (.sl 6 (ts.map q0g)), .d (.sl 8 (l.map q0r)), .d (.i .i64 n)] (.tup [.d (.sl 6 ((qfk ts l n).1.map q0g)), .d (.i .i64 (qfk ts l n).2.1), .d (.i .i64 (qfk ts l n).2.2)]) := by
  refine q0f (C := cfg15) (rs := [.tmp 6, .tmp 7, .tmp 8]) (fun _ => []) Tryz.func15 rfl rfl rfl rfl rfl rfl ?_
  refine inQ ?_
  repeat' first
  | (with_reducible first | apply q0l | apply q0c | apply AW.seq | apply AW.block | apply AW.skip | apply AW.exit | apply AW.ret | apply q0m | apply q0n | apply q0d | apply q0e | refine q0b rfl ?_ | apply q0o | apply q0p | apply And.intro)
  | (refine AW.atR 6 rfl ?_; have hq := (qfj (ts := ts) (l := l) (by assumption)).2; have h0 := qk6 hq (j := 0) (by omega); have h1 := qk6 hq (j := l.length - 1) (by omega); have hj : ((l.length : Int) - 1).toNat = l.length - 1 := (by omega))
  | (with_reducible first | (refine AWh.runK hC ?_; intro K hK) | (refine AWh.drawK hC (by kernel_rfl) ?_; intro K hK))
  | (with_reducible first | (refine AW.runK hC ?_; intro K hK) | (refine AW.drawK hC (by kernel_rfl) ?_; intro K hK))
  | ((with_reducible first | refine q0t ?_ | refine qbz ?_ | refine q0k ?_); (first | (simp (maxSteps := 1000000) only [go_sem, ↓reduceIte, reduceCtorEq, Nat.reduceEqDiff, Nat.reduceLT, Nat.reduceLeDiff, Nat.reduceMul, Nat.reduceAdd, Nat.reduceSub, reduceDIte, Nat.reduceBEq, Nat.reduceBNe, hj]) | (refine siQ ?_)); (try simp (disch := omega) only [w64, wu8]))
  | (with_reducible refine qbj (by kernel_rfl) ?_)
  | ((first | refine AW.cond rfl (fun h => ?_) fun h => ?_ | refine AW.cond_ub rfl (fun h => ?_) ?_ | refine AW.cond_nb rfl ?_ fun h => ?_) <;> (try replace h := q0a h) <;> try (exfalso; first | omega | exact absurd h (by decide)))
  | (refine q0h ?_; refine subQ ?_)
  | (subst hK)
  | exact trivial
  all_goals try (intros; assumption)
  all_goals try refine q0v ?_
  all_goals try replace hp := q0a hp
  all_goals try replace hj := q0a hj
  all_goals try (intros; first | trivial | omega)
  all_goals (try (rw [w64 (by omega) (by omega)]; first | done | omega))
  all_goals clear hC
  all_goals (try have ES := qx2 (l := l) (by omega))
  all_goals (try have EN := qx3 (l := l) (by omega))
  all_goals first
  | omega
  | exact hp.1
  | exact hp.2
  | exact hp.1.1
  | (rw [qnd (by assumption)]; done)
  | (rw [qnd (by assumption)]; rfl)
  | (rw [qnd (by assumption)]; exact q0q _)
  | (rw [qne (by assumption) (by omega)]; done)
  | (rw [qne (by assumption) (by omega)]; rfl)
  | (rw [qne (by assumption) (by omega)]; exact q0q _)
  | (rw [qrn (by assumption) (by omega)]; done)
  | (rw [qrn (by assumption) (by omega)]; exact q0q _)
  | (have := qme ⟨true, n⟩ false l; omega)
  | (have := qme ⟨false, n⟩ true l; omega)
end
noncomputable def cfg95 : Cfg := mkC 9 q70
theorem qbon : cfg95.pins = [] ∧ cfg95.P = Tryz.prog ∧ cfg95.N = 9 := ⟨rfl, rfl, rfl⟩
section
attribute [local go_sem] qbon
theorem qbyu (hC : COk cfg95) (f : Fmt) (hp : f.fields.length ≤ 1000000) : Sem Tryz.prog 95 [.d (qbw f)] (.d (qbw f)) := by
  refine q0f (C := cfg95) (rs := [.cell 2 74]) (fun _ => []) Tryz.func95 rfl rfl rfl rfl rfl rfl ?_
  refine inQ ?_
  repeat' first
  | (with_reducible first | apply q0l | apply q0c | apply AW.seq | apply AW.block | apply AW.skip | apply AW.exit | apply AW.ret | apply q0m | apply q0n | apply q0d | apply q0e | refine q0b rfl ?_ | apply q0o | apply q0p | apply And.intro)
  | (with_reducible first | (refine AW.runK hC ?_; intro K hK) | (refine AW.drawK hC (by kernel_rfl) ?_; intro K hK))
  | ((with_reducible first | refine q0t ?_ | refine qbz ?_ | refine q0k ?_); refine siQ ?_; (try simp (disch := omega) only [w64, wu8]))
  | (with_reducible refine qbj (by kernel_rfl) ?_)
  | ((first | refine AW.cond rfl (fun h => ?_) fun h => ?_ | refine AW.cond_ub rfl (fun h => ?_) ?_ | refine AW.cond_nb rfl ?_ fun h => ?_) <;> (try replace h := q0a h) <;> try (exfalso; first | omega | exact absurd h (by decide)))
  | (refine q0h ?_; refine subQ ?_)
  | (subst hK)
  | exact trivial
  all_goals try (intros; assumption)
  all_goals try refine q0v ?_
  all_goals try replace hp := q0a hp
  all_goals try (intros; first | trivial | omega)
  all_goals (try (rw [w64 (by omega) (by omega)]; first | done | omega))
  all_goals clear hC
  all_goals first | omega | (simp_all [dles]; done) | exact q0q _
end
noncomputable def cfg73 : Cfg := mkC 14 q71
theorem qboo : cfg73.pins = [] ∧ cfg73.P = Tryz.prog ∧ cfg73.N = 14 ∧ cfg73.ti 95 = none ∧ cfg73.T 95 = e95 ∧ cfg73.mv 95 = (fun _ => []) := by and_intros <;> exact rfl
section
attribute [local go_sem] qboo e95
theorem qbyv (hC : COk cfg73) (f : File) (hp : f.format.fields.length ≤ 1000000 ∧ f.keys.length ≤ 1000000) : Sem Tryz.prog 73 [.d (qb6 f)] (.d (qb6 f)) := by
  refine q0f (C := cfg73) (rs := [.cell 2 77]) (fun _ => []) Tryz.func73 rfl rfl rfl rfl rfl rfl ?_
  refine inQ ?_
  repeat' first
  | (with_reducible first | apply q0l | apply q0c | apply AW.seq | apply AW.block | apply AW.skip | apply AW.exit | apply AW.ret | apply q0m | apply q0n | apply q0d | apply q0e | refine q0b rfl ?_ | apply q0o | apply q0p | apply And.intro)
  | (with_reducible first | (refine AW.runK hC ?_; intro K hK) | (refine AW.drawK hC (by kernel_rfl) ?_; intro K hK))
  | ((with_reducible first | refine q0t ?_ | refine qbz ?_ | refine q0k ?_); refine siQ ?_; (try simp (disch := omega) only [w64, wu8]))
  | (with_reducible refine qbj (by kernel_rfl) ?_)
  | ((first | refine AW.cond rfl (fun h => ?_) fun h => ?_ | refine AW.cond_ub rfl (fun h => ?_) ?_ | refine AW.cond_nb rfl ?_ fun h => ?_) <;> (try replace h := q0a h) <;> try (exfalso; first | omega | exact absurd h (by decide)))
  | (refine q0h ?_; refine subQ ?_)
  | (subst hK)
  | exact trivial
  all_goals try (intros; assumption)
  all_goals try refine q0v ?_
  all_goals try replace hp := q0a hp
  all_goals try (intros; first | trivial | omega)
  all_goals (try (rw [w64 (by omega) (by omega)]; first | done | omega))
  all_goals clear hC
  all_goals first | omega | (simp_all [dles]; done) | exact q0q _
end
noncomputable def cfg38 : Cfg := mkC 10 q72
theorem qbop : cfg38.pins = [] ∧ cfg38.P = Tryz.prog ∧ cfg38.N = 10 ∧ cfg38.ti 73 = none ∧ cfg38.T 73 = e73 ∧ cfg38.mv 73 = (fun _ => []) := by and_intros <;> exact rfl
section
attribute [local go_sem] qbop e73
theorem qbyw (hC : COk cfg38) (t : Table) (hp : (t.file.format.fields.length ≤ 1000000 ∧ t.file.keys.length ≤ 1000000 ∧ t.records.length ≤ 1000000)) : Sem Tryz.prog 38 [.d (q0g t)] (.d (q0g t)) := by
  refine q0f (C := cfg38) (rs := [.cell 2 80]) (fun _ => []) Tryz.func38 rfl rfl rfl rfl rfl rfl ?_
  refine inQ ?_
  repeat' first
  | (with_reducible first | apply q0l | apply q0c | apply AW.seq | apply AW.block | apply AW.skip | apply AW.exit | apply AW.ret | apply q0m | apply q0n | apply q0d | apply q0e | refine q0b rfl ?_ | apply q0o | apply q0p | apply And.intro)
  | (with_reducible first | (refine AW.runK hC ?_; intro K hK) | (refine AW.drawK hC (by kernel_rfl) ?_; intro K hK))
  | ((with_reducible first | refine q0t ?_ | refine qbz ?_ | refine q0k ?_); refine siQ ?_; (try simp (disch := omega) only [w64, wu8]))
  | (with_reducible refine qbj (by kernel_rfl) ?_)
  | ((first | refine AW.cond rfl (fun h => ?_) fun h => ?_ | refine AW.cond_ub rfl (fun h => ?_) ?_ | refine AW.cond_nb rfl ?_ fun h => ?_) <;> (try replace h := q0a h) <;> try (exfalso; first | omega | exact absurd h (by decide)))
  | (refine q0h ?_; refine subQ ?_)
  | (subst hK)
  | exact trivial
  all_goals try (intros; assumption)
  all_goals try refine q0v ?_
  all_goals try replace hp := q0a hp
  all_goals try (intros; first | trivial | omega)
  all_goals (try (rw [w64 (by omega) (by omega)]; first | done | omega))
  all_goals clear hC
  all_goals first | omega | (simp_all [dles]; done) | exact q0q _
end
noncomputable def cfg11 : Cfg := mkC 20 q73
theorem qboq : cfg11.pins = [] ∧ cfg11.P = Tryz.prog ∧ cfg11.N = 20 ∧ cfg11.ti 38 = none ∧ cfg11.T 38 = e38 ∧ cfg11.mv 38 = (fun _ => []) := by and_intros <;> exact rfl
section
attribute [local go_sem] qboq e38
attribute [local go_sem] qc0 qcm List.take_length
theorem qbyx (hC : COk cfg11) (ts : List Table) (hp : okTs ts) : Sem Tryz.prog 11 [.d (.sl 6 (ts.map q0g))] (.own 80 6 (ts.map q0g)) := by
  have hB : ts.length ≤ 1000000 := hp.1
  refine q0f (C := cfg11) (rs := [.tmp 2]) (fun _ => [(0, 80, 6)]) Tryz.func11 rfl rfl rfl rfl rfl rfl ?_
  refine inQ ?_
  repeat' first
  | (with_reducible first | apply q0l | apply q0c | apply AW.seq | apply AW.block | apply AW.skip | apply AW.exit | apply AW.ret | apply q0m | apply q0n | apply q0d | apply q0e | refine q0b rfl ?_ | apply q0o | apply q0p | apply And.intro)
  | (refine AW.atR 5 rfl ?_; have hg : ∀ z, (ts.map q0g).getD i z = q0g (ts.getD i q0z) := fun z => qgj (by omega) z)
  | (with_reducible first | (refine AWh.runK hC ?_; intro K hK) | (refine AWh.drawK hC (by kernel_rfl) ?_; intro K hK))
  | (with_reducible refine AW.runK hC ?_; intro K hK)
  | ((with_reducible first | refine q0t ?_ | refine q0k ?_); (first | (simp (maxSteps := 1000000) only [go_sem, ↓reduceIte, reduceCtorEq, Nat.reduceEqDiff, Nat.reduceLT, Nat.reduceLeDiff, Nat.reduceMul, Nat.reduceAdd, Nat.reduceSub, reduceDIte, Nat.reduceBEq, Nat.reduceBNe, hg]) | (refine siQ ?_)); (try simp (disch := omega) only [w64, wu8]))
  | ((first | refine AW.cond rfl (fun h => ?_) fun h => ?_ | refine AW.cond_ub rfl (fun h => ?_) ?_ | refine AW.cond_nb rfl ?_ fun h => ?_) <;> (try replace h := q0a h) <;> try (exfalso; first | omega | exact absurd h (by decide)))
  | (refine AW.loopN 3 rfl (ι := Nat) (fun i => mkS [(0, V.d (.sl 6 (ts.map q0g))), (3, V.row 48 6 0 (ts.take i).length), (4, V.d (.i .i64 (i : Int)))] ([(48, .live (.row 80 6 false ((ts.take i).map q0g)))])) (fun i => i ≤ ts.length) (fun i => ts.length - i) (0) ?_ ?_ (fun i hi => ?_) <;> (try dsimp only) <;> (try dsimp only at hi))
  | (refine LoopNext.mk1 3 (i + 1) ?_ ?_ ?_ <;> (try dsimp only))
  | (refine q0h ?_; refine subQ ?_)
  | (subst hK)
  | exact trivial
  all_goals try (intros; assumption)
  all_goals try refine q0v ?_
  all_goals try replace hp := q0a hp
  all_goals try replace hi := q0a hi
  all_goals try (intros; first | trivial | omega)
  all_goals (try (rw [w64 (by omega) (by omega)]; first | done | omega))
  all_goals clear hC
  all_goals first
  | omega
  | exact (hp.2 i).1
  | exact (hp.2 i).2.1
  | exact (hp.2 i).2.2
  | (intro d hd; subst hd; exact ⟨rfl, by simp [D.cells, D.one]⟩)
  | (rw [qdw q0z (by omega), List.map_append]; exact q0q _)
  | (rw [List.take_of_length_le (by omega)]; exact q0q _)
  | (rw [List.take_take, List.take_of_length_le (by omega)]; exact q0q _)
end
noncomputable def cfg99 : Cfg := mkC 26 q74
theorem qbor : cfg99.pins = [] ∧ cfg99.P = Tryz.prog ∧ cfg99.N = 26 := ⟨rfl, rfl, rfl⟩
section
attribute [local go_sem] qbor
theorem qbyy (hC : COk cfg99) (a : List Rec) (b : List Rec) (hp : a.length ≤ 1000000) : Sem Tryz.prog 99 [.d (.sl 2 (a.map qbp)), .d (.sl 2 (b.map qbp))] (.d (.b (decide (a = b)))) := by
  refine q0f (C := cfg99) (rs := [.tmp 4]) (fun _ => []) Tryz.func99 rfl rfl rfl rfl rfl rfl ?_
  refine inQ ?_
  repeat' first
  | (with_reducible first | apply q0l | apply q0c | apply AW.seq | apply AW.block | apply AW.skip | apply AW.exit | apply AW.ret | apply q0m | apply q0n | apply q0d | apply q0e | refine q0b rfl ?_ | apply q0o | apply q0p | apply And.intro)
  | (with_reducible first | (refine AW.runK hC ?_; intro K hK) | (refine AW.drawK hC (by kernel_rfl) ?_; intro K hK))
  | ((with_reducible first | refine q0t ?_ | refine qbz ?_ | refine q0k ?_); refine siQ ?_; (try simp (disch := omega) only [w64, wu8]))
  | (with_reducible refine qbj (by kernel_rfl) ?_)
  | ((first | refine AW.cond rfl (fun h => ?_) fun h => ?_ | refine AW.cond_ub rfl (fun h => ?_) ?_ | refine AW.cond_nb rfl ?_ fun h => ?_) <;> (try replace h := q0a h) <;> try (exfalso; first | omega | exact absurd h (by decide)))
  | (refine AW.loopN 4 rfl (ι := Nat) (fun i => mkS [(0, V.d (.sl 2 (a.map qbp))), (1, V.d (.sl 2 (b.map qbp))), (5, V.d (.i .i64 (i : Int)))] ([])) (fun i => i ≤ a.length ∧ a.length = b.length ∧ a.take i = b.take i) (fun i => a.length - i) (0) ?_ ?_ (fun i hi => ?_) <;> (try dsimp only) <;> (try dsimp only at hi))
  | (refine LoopNext.mk1 4 (i + 1) ?_ ?_ ?_ <;> (try dsimp only))
  | (refine q0h ?_; refine subQ ?_)
  | (subst hK)
  | exact trivial
  all_goals try (intros; assumption)
  all_goals try refine q0v ?_
  all_goals try replace hp := q0a hp
  all_goals try replace hi := q0a hi
  all_goals try (intros; first | trivial | omega)
  all_goals (try (rw [w64 (by omega) (by omega)]; first | done | omega))
  all_goals clear hC
  all_goals first
  | rfl
  | omega
  | (intro e; subst e; exact h rfl)
  | (intro e; subst e; simp at h; done)
  | (intro e; rw [e] at h; simp at h; done)
  | exact qce hi.2.2 (by omega) (by omega)
  | exact qgw hi.2.2 (by omega) (by omega) (by assumption)
  | (simp only [decide_eq_true_eq]; exact qce hi.2.2 (by omega) (by omega))
  | exact h.1
  | exact h.1.1.1
  | exact h.1.1.2
  | exact h.1.2
  | exact hi.2.1.1
  | exact hi.2.1.2.1
  | exact hi.2.1.2.2.1
  | exact qro hi.2.1.1 (qce hi.2.2 (by omega) (by omega))
  | exact qpd hi.2.1.1 hi.2.1.2.1 hi.2.1.2.2.1 (qce hi.2.2 (by omega) (by omega))
  | exact hp.1
  | exact hp.2.1
  | exact fun _ => hp.2.2
  | exact qmv a b
end
noncomputable def cfg126 : Cfg := mkC 38 q75
theorem qbhi : cfg126.pins = [] ∧ cfg126.P = Tryz.prog ∧ cfg126.N = 38 := ⟨rfl, rfl, rfl⟩
section
attribute [local go_sem] qbhi
theorem qbs7 (hC : COk cfg126) (a : Fmt) (b : Fmt) (hp : a.fields.length ≤ 1000000) : Sem Tryz.prog 126 [.d (qbw a), .d (qbw b)] (.d (.b (decide (a = b)))) := by
  refine q0f (C := cfg126) (rs := [.tmp 4]) (fun _ => []) Tryz.func126 rfl rfl rfl rfl rfl rfl ?_
  refine inQ ?_
  repeat' first
  | (with_reducible first | apply q0l | apply q0c | apply AW.seq | apply AW.block | apply AW.skip | apply AW.exit | apply AW.ret | apply q0m | apply q0n | apply q0d | apply q0e | refine q0b rfl ?_ | apply q0o | apply q0p | apply And.intro)
  | (with_reducible first | (refine AW.runK hC ?_; intro K hK) | (refine AW.drawK hC (by kernel_rfl) ?_; intro K hK))
  | ((with_reducible first | refine q0t ?_ | refine qbz ?_ | refine q0k ?_); refine siQ ?_; (try simp (disch := omega) only [w64, wu8]))
  | (with_reducible refine qbj (by kernel_rfl) ?_)
  | ((first | refine AW.cond rfl (fun h => ?_) fun h => ?_ | refine AW.cond_ub rfl (fun h => ?_) ?_ | refine AW.cond_nb rfl ?_ fun h => ?_) <;> (try replace h := q0a h) <;> try (exfalso; first | omega | exact absurd h (by decide)))
  | (refine AW.loopN 4 rfl (ι := Nat) (fun i => mkS [(2, V.ptr 32 0), (3, V.ptr 48 0), (5, V.d (.i .i64 (i : Int)))] ([(32, .live (.box 74 [.d (.s a.name), .d (.sl 4 (a.fields.map q05))])), (48, .live (.box 74 [.d (.s b.name), .d (.sl 4 (b.fields.map q05))]))])) (fun i => i ≤ a.fields.length ∧ (a.name = b.name ∧ a.fields.length = b.fields.length) ∧ a.fields.take i = b.fields.take i) (fun i => a.fields.length - i) (0) ?_ ?_ (fun i hi => ?_) <;> (try dsimp only) <;> (try dsimp only at hi))
  | (refine LoopNext.mk1 4 (i + 1) ?_ ?_ ?_ <;> (try dsimp only))
  | (refine q0h ?_; refine subQ ?_)
  | (subst hK)
  | exact trivial
  all_goals try (intros; assumption)
  all_goals try refine q0v ?_
  all_goals try replace hp := q0a hp
  all_goals try replace hi := q0a hi
  all_goals try (intros; first | trivial | omega)
  all_goals (try (rw [w64 (by omega) (by omega)]; first | done | omega))
  all_goals clear hC
  all_goals first
  | rfl
  | omega
  | (intro e; subst e; exact h rfl)
  | (intro e; subst e; simp at h; done)
  | (intro e; rw [e] at h; simp at h; done)
  | exact qce hi.2.2 (by omega) (by omega)
  | exact qgw hi.2.2 (by omega) (by omega) (by assumption)
  | (simp only [decide_eq_true_eq]; exact qce hi.2.2 (by omega) (by omega))
  | exact h.1
  | exact h.1.1.1
  | exact h.1.1.2
  | exact h.1.2
  | exact hi.2.1.1
  | exact hi.2.1.2.1
  | exact hi.2.1.2.2.1
  | exact qro hi.2.1.1 (qce hi.2.2 (by omega) (by omega))
  | exact qpd hi.2.1.1 hi.2.1.2.1 hi.2.1.2.2.1 (qce hi.2.2 (by omega) (by omega))
  | exact hp.1
  | exact hp.2.1
  | exact fun _ => hp.2.2
  | exact qmv a b
end
noncomputable def cfg98 : Cfg := mkC 53 q1k
theorem qbos : cfg98.pins = [] ∧ cfg98.P = Tryz.prog ∧ cfg98.N = 53 ∧ cfg98.ti 126 = none ∧ cfg98.T 126 = e126 ∧ cfg98.mv 126 = (fun _ => []) := by and_intros <;> exact rfl
section
attribute [local go_sem] qbos e126
theorem qbyz (hC : COk cfg98) (a : File) (b : File) (hp : a.format.fields.length ≤ 1000000 ∧ a.keys.length ≤ 1000000) : Sem Tryz.prog 98 [.d (qb6 a), .d (qb6 b)] (.d (.b (decide (a = b)))) := by
  refine q0f (C := cfg98) (rs := [.tmp 4]) (fun _ => []) Tryz.func98 rfl rfl rfl rfl rfl rfl ?_
  refine inQ ?_
  repeat' first
  | (with_reducible first | apply q0l | apply q0c | apply AW.seq | apply AW.block | apply AW.skip | apply AW.exit | apply AW.ret | apply q0m | apply q0n | apply q0d | apply q0e | refine q0b rfl ?_ | apply q0o | apply q0p | apply And.intro)
  | (with_reducible first | (refine AW.runK hC ?_; intro K hK) | (refine AW.drawK hC (by kernel_rfl) ?_; intro K hK))
  | ((with_reducible first | refine q0t ?_ | refine qbz ?_ | refine q0k ?_); refine siQ ?_; (try simp (disch := omega) only [w64, wu8]))
  | (with_reducible refine qbj (by kernel_rfl) ?_)
  | ((first | refine AW.cond rfl (fun h => ?_) fun h => ?_ | refine AW.cond_ub rfl (fun h => ?_) ?_ | refine AW.cond_nb rfl ?_ fun h => ?_) <;> (try replace h := q0a h) <;> try (exfalso; first | omega | exact absurd h (by decide)))
  | (refine AW.loopN 4 rfl (ι := Nat) (fun i => mkS [(2, V.ptr 32 0), (3, V.ptr 48 0), (5, V.d (.i .i64 (i : Int)))] ([(32, .live (.box 77 [.d (.s a.name), .d (.s a.format.name), .d (.sl 4 (a.format.fields.map q05)), .d (.sl 2 (a.keys.map q06)), .d (.b a.unique)])), (48, .live (.box 77 [.d (.s b.name), .d (.s b.format.name), .d (.sl 4 (b.format.fields.map q05)), .d (.sl 2 (b.keys.map q06)), .d (.b b.unique)]))])) (fun i => i ≤ a.keys.length ∧ (a.name = b.name ∧ a.unique = b.unique ∧ a.format = b.format ∧ a.keys.length = b.keys.length) ∧ a.keys.take i = b.keys.take i) (fun i => a.keys.length - i) (0) ?_ ?_ (fun i hi => ?_) <;> (try dsimp only) <;> (try dsimp only at hi))
  | (refine LoopNext.mk1 4 (i + 1) ?_ ?_ ?_ <;> (try dsimp only))
  | (refine q0h ?_; refine subQ ?_)
  | (subst hK)
  | exact trivial
  all_goals try (intros; assumption)
  all_goals try refine q0v ?_
  all_goals try replace hp := q0a hp
  all_goals try replace hi := q0a hi
  all_goals try (intros; first | trivial | omega)
  all_goals (try (rw [w64 (by omega) (by omega)]; first | done | omega))
  all_goals clear hC
  all_goals first
  | rfl
  | omega
  | (intro e; subst e; exact h rfl)
  | (intro e; subst e; simp at h; done)
  | (intro e; rw [e] at h; simp at h; done)
  | exact qce hi.2.2 (by omega) (by omega)
  | exact qgw hi.2.2 (by omega) (by omega) (by assumption)
  | (simp only [decide_eq_true_eq]; exact qce hi.2.2 (by omega) (by omega))
  | exact h.1
  | exact h.1.1.1
  | exact h.1.1.2
  | exact h.1.2
  | exact hi.2.1.1
  | exact hi.2.1.2.1
  | exact hi.2.1.2.2.1
  | exact qro hi.2.1.1 (qce hi.2.2 (by omega) (by omega))
  | exact qpd hi.2.1.1 hi.2.1.2.1 hi.2.1.2.2.1 (qce hi.2.2 (by omega) (by omega))
  | exact hp.1
  | exact hp.2.1
  | exact fun _ => hp.2.2
  | exact qmv a b
end
noncomputable def cfg78 : Cfg := mkC 17 q76
theorem qbot : cfg78.pins = [] ∧ cfg78.P = Tryz.prog ∧ cfg78.N = 17 ∧ cfg78.T 98 = e98 ∧ cfg78.T 99 = e99 ∧ cfg78.ti = (fun _ => none) ∧ cfg78.mv = fun _ _ => [] := by and_intros <;> exact rfl
section
attribute [local go_sem] qbot e98 e99
theorem qby0 (hC : COk cfg78) (a : Table) (b : Table) (hp : okT a) : Sem Tryz.prog 78 [.d (q0g a), .d (q0g b)] (.d (.b (decide (a = b)))) := by
  refine q0f (C := cfg78) (rs := [.tmp 4]) (fun _ => []) Tryz.func78 rfl rfl rfl rfl rfl rfl ?_
  refine inQ ?_
  repeat' first
  | (with_reducible first | apply q0l | apply q0c | apply AW.seq | apply AW.block | apply AW.skip | apply AW.exit | apply AW.ret | apply q0m | apply q0n | apply q0d | apply q0e | refine q0b rfl ?_ | apply q0o | apply q0p | apply And.intro)
  | (with_reducible refine AW.runK hC ?_; intro K hK)
  | ((with_reducible first | refine q0t ?_ | refine q0k ?_); refine siQ ?_; (try simp (disch := omega) only [w64, wu8]))
  | ((first | refine AW.cond rfl (fun h => ?_) fun h => ?_ | refine AW.cond_ub rfl (fun h => ?_) ?_ | refine AW.cond_nb rfl ?_ fun h => ?_) <;> (try replace h := q0a h) <;> try (exfalso; first | omega | exact absurd h (by decide)))
  | (refine q0h ?_; refine subQ ?_)
  | (subst hK)
  | exact trivial
  all_goals try (intros; assumption)
  all_goals try refine q0v ?_
  all_goals try replace hp := q0a hp
  all_goals try replace hi := q0a hi
  all_goals try (intros; first | trivial | omega)
  all_goals (try (rw [w64 (by omega) (by omega)]; first | done | omega))
  all_goals clear hC
  all_goals first
  | rfl
  | omega
  | (intro e; subst e; exact h rfl)
  | (intro e; subst e; simp at h; done)
  | (intro e; rw [e] at h; simp at h; done)
  | exact qce hi.2.2 (by omega) (by omega)
  | exact qgw hi.2.2 (by omega) (by omega) (by assumption)
  | (simp only [decide_eq_true_eq]; exact qce hi.2.2 (by omega) (by omega))
  | exact h.1
  | exact h.1.1.1
  | exact h.1.1.2
  | exact h.1.2
  | exact hi.2.1.1
  | exact hi.2.1.2.1
  | exact hi.2.1.2.2.1
  | exact qro hi.2.1.1 (qce hi.2.2 (by omega) (by omega))
  | exact qpd hi.2.1.1 hi.2.1.2.1 hi.2.1.2.2.1 (qce hi.2.2 (by omega) (by omega))
  | exact hp.1
  | exact hp.2.1
  | exact fun _ => hp.2.2
  | exact qmv a b
end
noncomputable def cfg64 : Cfg := mkC 7 q77
theorem qbou : cfg64.pins = [] ∧ cfg64.P = Tryz.prog ∧ cfg64.N = 7 := ⟨rfl, rfl, rfl⟩
section
attribute [local go_sem] qbou
theorem qby1 (hC : COk cfg64) (f : Fmt) : Sem Tryz.prog 64 [.d (qbw f)] (.d (.b (decide ((f.fields.length : Int) ≤ 22)))) := by
  refine q0f (C := cfg64) (rs := [.tmp 2]) (fun _ => []) Tryz.func64 rfl rfl rfl rfl rfl rfl ?_
  refine inQ ?_
  repeat' first
  | (with_reducible first | apply q0l | apply q0c | apply AW.seq | apply AW.block | apply AW.skip | apply AW.exit | apply AW.ret | apply q0m | apply q0n | apply q0d | apply q0e | refine q0b rfl ?_ | apply q0o | apply q0p | apply And.intro)
  | (with_reducible refine AW.runK hC ?_; intro K hK)
  | ((with_reducible first | refine q0t ?_ | refine q0k ?_); refine siQ ?_; (try simp (disch := omega) only [w64, wu8]))
  | ((first | refine AW.cond rfl (fun h => ?_) fun h => ?_ | refine AW.cond_ub rfl (fun h => ?_) ?_ | refine AW.cond_nb rfl ?_ fun h => ?_) <;> (try replace h := q0a h) <;> try (exfalso; first | omega | exact absurd h (by decide)))
  | (refine q0h ?_; refine subQ ?_)
  | (subst hK)
  | exact trivial
  all_goals try (intros; assumption)
  all_goals try refine q0v ?_
  all_goals try (intros; first | trivial | omega)
  all_goals (try (rw [w64 (by omega) (by omega)]; first | done | omega))
end
noncomputable def cfg43 : Cfg := mkC 27 q78
theorem qbov : cfg43.pins = [] ∧ cfg43.P = Tryz.prog ∧ cfg43.N = 27 ∧ cfg43.ti 78 = none ∧ cfg43.T 78 = e78 ∧ cfg43.mv 78 = (fun _ => []) := by and_intros <;> exact rfl
section
attribute [local go_sem] qbov e78
attribute [local go_sem] qc0 qcm
theorem qby2 (hC : COk cfg43) (a : List Table) (b : List Table) (hp : okTs a) : Sem Tryz.prog 43 [.d (.sl 6 (a.map q0g)), .d (.sl 6 (b.map q0g))] (.d (.b (decide (a = b)))) := by
  have hB : a.length ≤ 1000000 := hp.1
  refine q0f (C := cfg43) (rs := [.tmp 4]) (fun _ => []) Tryz.func43 rfl rfl rfl rfl rfl rfl ?_
  refine inQ ?_
  repeat' first
  | (with_reducible first | apply q0l | apply q0c | apply AW.seq | apply AW.block | apply AW.skip | apply AW.exit | apply AW.ret | apply q0m | apply q0n | apply q0d | apply q0e | refine q0b rfl ?_ | apply q0o | apply q0p | apply And.intro)
  | (refine AW.atR 6 rfl ?_; have hga : ∀ z, (a.map q0g).getD i z = q0g (a.getD i q0z) := fun z => qgj (by omega) z; have hgb : ∀ z, (b.map q0g).getD i z = q0g (b.getD i q0z) := fun z => qgj (by omega) z)
  | (with_reducible first | (refine AWh.runK hC ?_; intro K hK) | (refine AWh.drawK hC (by kernel_rfl) ?_; intro K hK))
  | (with_reducible first | (refine AW.runK hC ?_; intro K hK) | (refine AW.drawK hC (by kernel_rfl) ?_; intro K hK))
  | ((with_reducible first | refine q0t ?_ | refine qbz ?_ | refine q0k ?_); (first | (simp (maxSteps := 1000000) only [go_sem, ↓reduceIte, reduceCtorEq, Nat.reduceEqDiff, Nat.reduceLT, Nat.reduceLeDiff, Nat.reduceMul, Nat.reduceAdd, Nat.reduceSub, reduceDIte, Nat.reduceBEq, Nat.reduceBNe, hga, hgb]) | (refine siQ ?_)); (try simp (disch := omega) only [w64, wu8]))
  | (with_reducible refine qbj (by kernel_rfl) ?_)
  | ((first | refine AW.cond rfl (fun h => ?_) fun h => ?_ | refine AW.cond_ub rfl (fun h => ?_) ?_ | refine AW.cond_nb rfl ?_ fun h => ?_) <;> (try replace h := q0a h) <;> try (exfalso; first | omega | exact absurd h (by decide)))
  | (refine AW.loopN 4 rfl (ι := Nat) (fun i => mkS [(0, V.d (.sl 6 (a.map q0g))), (1, V.d (.sl 6 (b.map q0g))), (5, V.d (.i .i64 (i : Int)))] ([])) (fun i => i ≤ a.length ∧ a.length = b.length ∧ a.take i = b.take i) (fun i => a.length - i) (0) ?_ ?_ (fun i hi => ?_) <;> (try dsimp only) <;> (try dsimp only at hi))
  | (refine LoopNext.mk1 4 (i + 1) ?_ ?_ ?_ <;> (try dsimp only))
  | (refine q0h ?_; refine subQ ?_)
  | (subst hK)
  | exact trivial
  all_goals try (intros; assumption)
  all_goals try refine q0v ?_
  all_goals try replace hp := q0a hp
  all_goals try replace hi := q0a hi
  all_goals try (intros; first | trivial | omega)
  all_goals (try (rw [w64 (by omega) (by omega)]; first | done | omega))
  all_goals clear hC
  all_goals first
  | rfl
  | omega
  | (intro e; subst e; exact h rfl)
  | (intro e; subst e; simp at h; done)
  | (intro e; rw [e] at h; simp at h; done)
  | exact qce hi.2.2 (by omega) (by omega)
  | exact qgw hi.2.2 (by omega) (by omega) (by assumption)
  | (simp only [decide_eq_true_eq]; exact qce hi.2.2 (by omega) (by omega))
  | exact h.1
  | exact h.1.1.1
  | exact h.1.1.2
  | exact h.1.2
  | exact hi.2.1.1
  | exact hi.2.1.2.1
  | exact hi.2.1.2.2.1
  | exact qro hi.2.1.1 (qce hi.2.2 (by omega) (by omega))
  | exact qpd hi.2.1.1 hi.2.1.2.1 hi.2.1.2.2.1 (qce hi.2.2 (by omega) (by omega))
  | exact (hp.2 i).1
  | exact (hp.2 i).2.1
  | exact (hp.2 i).2.2
  | exact hp.2 i
  | exact hp.1
  | exact hp.2.1
  | exact fun _ => hp.2.2
  | exact qmv a b
end
noncomputable def cfg32 : Cfg := mkC 62 q8a
theorem qbow : cfg32.pins = [] ∧ cfg32.P = Tryz.prog ∧ cfg32.N = 62 ∧ cfg32.ti 64 = none ∧ cfg32.T 64 = e64 ∧ cfg32.mv 64 = (fun _ => []) := by and_intros <;> exact rfl
section
attribute [local go_sem] qbow e64
attribute [local go_sem] qc0 qcm
theorem qby3 (hC : COk cfg32) (l : List Table) : Sem Tryz.prog 32 [.d (.sl 6 (l.map q0g))] (.d (.b (qhe l))) := by
  refine q0f (C := cfg32) (rs := [.tmp 2]) (fun _ => []) Tryz.func32 rfl rfl rfl rfl rfl rfl ?_
  refine inQ ?_
  repeat' first
  | (with_reducible first | apply q0l | apply q0c | apply AW.seq | apply AW.block | apply AW.skip | apply AW.exit | apply AW.ret | apply q0m | apply q0n | apply q0d | apply q0e | refine q0b rfl ?_ | apply q0o | apply q0p | apply And.intro)
  | (refine AW.atR 6 rfl ?_; have hg : ∀ z, (l.map q0g).getD i z = q0g (l.getD i q0z) := fun z => qgj (by omega) z)
  | (with_reducible first | (refine AWh.runK hC ?_; intro K hK) | (refine AWh.drawK hC (by kernel_rfl) ?_; intro K hK))
  | (with_reducible refine AW.runK hC ?_; intro K hK)
  | ((with_reducible first | refine q0t ?_ | refine q0k ?_); (first | (simp (maxSteps := 1000000) only [go_sem, ↓reduceIte, reduceCtorEq, Nat.reduceEqDiff, Nat.reduceLT, Nat.reduceLeDiff, Nat.reduceMul, Nat.reduceAdd, Nat.reduceSub, reduceDIte, Nat.reduceBEq, Nat.reduceBNe, hg]) | (refine siQ ?_)); (try simp (disch := omega) only [w64, wu8]))
  | ((first | refine AW.cond rfl (fun h => ?_) fun h => ?_ | refine AW.cond_ub rfl (fun h => ?_) ?_ | refine AW.cond_nb rfl ?_ fun h => ?_) <;> (try replace h := q0a h) <;> try (exfalso; first | omega | exact absurd h (by decide)))
  | (refine AW.loopN 4 rfl (ι := Nat) (fun i => mkS [(0, V.d (.sl 6 (l.map q0g))), (3, V.d (.i .i64 (i : Int)))] ([])) (fun i => i ≤ l.length ∧ (l.length : Int) ≤ 10 ∧ ∀ j, j < i → qh6 l j = 0) (fun i => l.length - i) (0) ?_ ?_ (fun i hi => ?_) <;> (try dsimp only) <;> (try dsimp only at hi))
  | (refine LoopNext.mk1 4 (i + 1) ?_ ?_ ?_ <;> (try dsimp only))
  | (refine AW.loopN 9 rfl (ι := Nat) (fun k => mkS [(0, V.d (.sl 6 (l.map q0g))), (3, V.d (.i .i64 (i : Int))), (4, V.d (.i .i64 (k : Int)))] ([])) (fun k => k ≤ (l.getD i q0z).records.length ∧ ¬qis (l.getD i q0z) ∧ ∀ j, j < k → qn2 (l.getD i q0z) j = 0) (fun k => (l.getD i q0z).records.length - k) (0) ?_ ?_ (fun k hk => ?_) <;> (try dsimp only) <;> (try dsimp only at hk))
  | (refine LoopNext.mk1 9 (k + 1) ?_ ?_ ?_ <;> (try dsimp only))
  | (refine q0h ?_; refine subQ ?_)
  | (subst hK)
  | exact trivial
  all_goals try (intros; assumption)
  all_goals try refine q0v ?_
  all_goals try replace hi := q0a hi
  all_goals try replace hk := q0a hk
  all_goals try (intros; first | trivial | omega)
  all_goals (try (rw [w64 (by omega) (by omega)]; first | done | omega))
  all_goals clear hC
  all_goals first
  | omega
  | rfl
  | (unfold qis; omega)
  | (rw [qbfj (by assumption)]; done)
  | (rw [q48 hi.2.1 hi.2.2 (by omega) (q36 (by unfold qis; omega))]; done)
  | (rw [q48 hi.2.1 hi.2.2 (by omega) (q79 hk.2.2 (by omega) (by assumption))]; done)
  | (rw [q49 hi.2.1 hi.2.2 (by omega)]; done)
  | exact qes hk.2.2 (qx4 (by assumption))
  | exact qes hi.2.2 (qu7 hk.2.1 hk.2.2 (by omega))
  | (have := hk.2.1; unfold qis at this; omega)
end
end Go.Ev
