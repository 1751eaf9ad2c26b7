/- Tools and contracts under the laws of this seat: Dyc165 to Dyc70. -/
import Derived.Test.YtkgkgcojfocomaaGreatE05
set_option linter.unusedVariables false
set_option linter.unusedSimpArgs false
namespace Go.Ev
open Go.Proofs Ty
set_option maxRecDepth 10000
set_option maxHeartbeats 4000000
set_option linter.unusedSimpArgs false
set_option linter.unusedVariables false
attribute [local go_sem] qbe qbg qcb qcy qb6 qda qdn qef Int.toNat_natCast qc9 qd4 qep qcq qcc qbm qb0 decI List.length_map qbf qbl q03 qb4 qc4 qdr qbt qb1 qd9 qe4 q06 qbv qcl qc8 qb5 qcd qds qea qbo qc0 qeb qe5 qbz qbp qcp qc6 qcn qed qc7 qco qee qc5 qcm qec List.length_take qce Int.toNat_zero Nat.sub_zero List.drop_zero
attribute [local go_sem ←] List.map_take List.map_drop
noncomputable def cfg165 : Cfg := ⟨Tryz.prog, 47, qzu, (fun _ _ => []), [], (fun _ => none)⟩
theorem qbfe : cfg165.pins = [] ∧ cfg165.P = Tryz.prog ∧ cfg165.N = 47 ∧ cfg165.ti 163 = none ∧ cfg165.T 163 = e163 ∧ cfg165.mv 163 = (fun _ => []) ∧ cfg165.ti 174 = none ∧ cfg165.T 174 = e174 ∧ cfg165.mv 174 = (fun _ => []) := ⟨rfl, rfl, rfl, rfl, rfl, rfl, rfl, rfl, rfl⟩
section
attribute [local go_sem] qbfe e163 e174
theorem qbqu (hC : COk cfg165) (f : Fmt) (b : ByteArray) (hp : f.fields.length ≤ 1000 ∧ (b.size : Int) = qfc f) : Sem Tryz.prog 165 [.d (qbt f), .d (.s b)] (.tup [.d (.sl 2 ((qgx f b).1.map qb6)), .d (.i .i64 (qgx f b).2.1), .d (.i .i64 (qgx f b).2.2)]) := by
  refine q0f (C := cfg165) (rs := [.tmp 4, .tmp 5, .tmp 6]) (fun _ => []) Tryz.func165 rfl rfl rfl rfl rfl rfl ?_
  refine inQ ?_
  repeat' first
    | (with_reducible first | apply q0j | apply q0c | apply AW.seq | apply AW.block)
    | (with_reducible first | (refine AW.runK hC ?_; intro K hK) | (refine AW.drawK hC (by kernel_rfl) ?_; intro K hK))
    | ((with_reducible first | refine q0t ?_ | refine qb2 ?_ | refine q0i ?_); refine siQ ?_; (try simp (disch := omega) only [w64, wu8]))
    | (with_reducible refine qbn (by kernel_rfl) ?_)
    | ((first | (refine AW.cond rfl (fun h => ?_) (fun h => ?_)) | (refine AW.cond_ub rfl (fun h => ?_) ?_) | (refine AW.cond_nb rfl ?_ (fun h => ?_))) <;> (try replace h := q0a h) <;> (try (exfalso; first | omega | exact absurd h (by decide))))
    | (with_reducible first | apply AW.skip | apply AW.exit | apply AW.ret | apply q0k | apply q0l | apply q0d | apply q0e | refine q0b rfl ?_ | apply q0m | apply q0n)
    | (refine AW.loopN 3 rfl (ι := Nat) (fun i => mkS [(1, V.d (.s (b.extract (qb8 f.fields i).toNat b.size))), (7, V.row 112 2 0 (qj3 f b i).length), (15, V.d (.sl 4 (f.fields.map q03))), (16, V.d (.i .i64 (f.fields.length : Int))), (17, V.d (.i .i64 (i : Int)))] ([(112, .live (.row 212 2 false ((qj3 f b i).map qb6)))])) (fun i => i ≤ f.fields.length ∧ ∀ j, j < i → qj5 f b j = 0) (fun i => f.fields.length - i) (0) ?_ ?_ (fun i hi => ?_) <;> (try dsimp only) <;> (try dsimp only at hi))
    | (refine LoopNext.mk1 3 (i + 1) ?_ ?_ ?_ <;> (try dsimp only))
    | (refine q0h ?_; refine subQ ?_)
    | (with_reducible refine And.intro ?_ ?_)
    | (subst hK)
    | exact trivial
  all_goals (try (intros; assumption))
  all_goals (try refine q0v ?_)
  all_goals (try replace hp := q0a hp)
  all_goals (try replace hi := q0a hi)
  all_goals (try (intros; trivial))
  all_goals (try (intros; omega))
  all_goals (try (rw [w64 (by omega) (by omega)]; first | done | omega))
  all_goals (try have O1 := qgh f.fields i)
  all_goals (try have W1 := qik (f.fields.getD i q02))
  all_goals (try have VL := qt0 f b i)
  all_goals (try have PI := q89 (f := f) (b := b) (i := i) hp.2 (by omega))
  all_goals (try have PE := qbdn (f := f) (b := b) (i := i) hp.2 (by omega))
  all_goals clear hC
  all_goals (try simp only [PE] at *)
  all_goals first
    | rfl
    | omega
    | exact qbkq b
    | exact PI
    | (rw [qvb hi.2 (by omega) (by assumption)]; done)
    | (rw [qvb hi.2 (by omega) (by assumption)]; rfl)
    | exact qe3 hi.2 (by assumption)
    | exact q3m hp.2 (by omega)
    | (rw [q3m hp.2 (by omega)]; exact q0p _)
    | (rw [qj3, List.length_append]; rfl)
    | (rw [qj3, List.map_append]; exact q0p _)
    | (rw [qvc hi.2 (by omega)]; done)
    | (rw [qvc hi.2 (by omega), show f.fields.length = i by omega]; exact q0p _)
    | (intro d hd; first | (subst hd; exact ⟨rfl, by simp [D.cells, D.one]⟩) | (rcases hd with rfl | rfl <;> exact ⟨rfl, by simp [D.cells, D.one]⟩) | (rcases hd with rfl | rfl | rfl <;> exact ⟨rfl, by simp [D.cells, D.one]⟩) | (rcases hd with rfl | rfl | rfl | rfl <;> exact ⟨rfl, by simp [D.cells, D.one]⟩))
end
noncomputable def cfg155 : Cfg := ⟨Tryz.prog, 24, qzv, (fun _ _ => []), [], (fun _ => none)⟩
theorem qbff : cfg155.pins = [] ∧ cfg155.P = Tryz.prog ∧ cfg155.N = 24 ∧ cfg155.ti 153 = none ∧ cfg155.T 153 = e153 ∧ cfg155.mv 153 = (fun _ => []) ∧ cfg155.ti 164 = none ∧ cfg155.T 164 = e164 ∧ cfg155.mv 164 = (fun _ => []) ∧ cfg155.ti 165 = none ∧ cfg155.T 165 = e165 ∧ cfg155.mv 165 = (fun _ => []) := ⟨rfl, rfl, rfl, rfl, rfl, rfl, rfl, rfl, rfl, rfl, rfl, rfl⟩
section
attribute [local go_sem] qbff e153 e164 e165
theorem qbqv (hC : COk cfg155) (f : Fmt) (b : ByteArray) (hp : f.fields.length ≤ 1000000) : Sem Tryz.prog 155 [.d (qbt f), .d (.s b)] (.tup [.d (.sl 2 ((qdh f b).1.map qb6)), .d (.i .i64 (qdh f b).2.1), .d (.i .i64 (qdh f b).2.2)]) := by
  refine q0f (C := cfg155) (rs := [.tmp 4, .tmp 5, .tmp 6]) (fun _ => []) Tryz.func155 rfl rfl rfl rfl rfl rfl ?_
  refine inQ ?_
  repeat' first
    | (with_reducible first | apply q0j | apply q0c | apply AW.seq | apply AW.block)
    | (with_reducible refine AW.runK hC ?_; intro K hK)
    | ((with_reducible first | refine q0t ?_ | refine q0i ?_); refine siQ ?_; (try simp (disch := omega) only [w64, wu8]))
    | ((first | (refine AW.cond rfl (fun h => ?_) (fun h => ?_)) | (refine AW.cond_ub rfl (fun h => ?_) ?_) | (refine AW.cond_nb rfl ?_ (fun h => ?_))) <;> (try replace h := q0a h) <;> (try (exfalso; first | omega | exact absurd h (by decide))))
    | (with_reducible first | apply AW.skip | apply AW.exit | apply AW.ret | apply q0k | apply q0l | apply q0d | apply q0e | refine q0b rfl ?_ | apply q0m | apply q0n)
    | (refine q0h ?_; refine subQ ?_)
    | (with_reducible refine And.intro ?_ ?_)
    | (subst hK)
    | exact trivial
  all_goals (try (intros; assumption))
  all_goals (try refine q0v ?_)
  all_goals (try replace hp := q0a hp)
  all_goals (try (intros; trivial))
  all_goals (try (intros; omega))
  all_goals (try (rw [w64 (by omega) (by omega)]; first | done | omega))
  all_goals clear hC
  all_goals (try have FO := q87 (f := f) (by assumption))
  all_goals first
    | omega
    | (rw [qve (by assumption)]; done)
    | (rw [qve (by assumption)]; rfl)
    | (rw [qvf (by assumption) (by assumption)]; done)
    | (rw [qvf (by assumption) (by assumption)]; rfl)
    | (rw [qrl (by assumption) (by assumption)]; done)
    | (rw [qrl (by assumption) (by assumption)]; exact q0p _)
    | assumption
end
noncomputable def cfg137 : Cfg := ⟨Tryz.prog, 18, qzw, (fun _ _ => []), [], (fun _ => none)⟩
theorem qbfg : cfg137.pins = [] ∧ cfg137.P = Tryz.prog ∧ cfg137.N = 18 ∧ cfg137.ti 155 = none ∧ cfg137.T 155 = e155 ∧ cfg137.mv 155 = (fun _ => []) := ⟨rfl, rfl, rfl, rfl, rfl, rfl⟩
section
attribute [local go_sem] qbfg e155
theorem qbqw (hC : COk cfg137) (f : Fmt) (b : ByteArray) (hp : f.fields.length ≤ 1000000) : Sem Tryz.prog 137 [.d (qbt f), .d (.s b)] (.tup [.d (.i .i64 (qdh f b).2.1), .d (.i .i64 (qdh f b).2.2)]) := by
  refine q0f (C := cfg137) (rs := [.tmp 4, .tmp 5]) (fun _ => []) Tryz.func137 rfl rfl rfl rfl rfl rfl ?_
  refine inQ ?_
  repeat' first
    | (with_reducible first | apply q0j | apply q0c | apply AW.seq | apply AW.block)
    | (with_reducible refine AW.runK hC ?_; intro K hK)
    | ((with_reducible first | refine q0t ?_ | refine q0i ?_); refine siQ ?_; (try simp (disch := omega) only [w64, wu8]))
    | ((first | (refine AW.cond rfl (fun h => ?_) (fun h => ?_)) | (refine AW.cond_ub rfl (fun h => ?_) ?_) | (refine AW.cond_nb rfl ?_ (fun h => ?_))) <;> (try replace h := q0a h) <;> (try (exfalso; first | omega | exact absurd h (by decide))))
    | (with_reducible first | apply AW.skip | apply AW.exit | apply AW.ret | apply q0k | apply q0l | apply q0d | apply q0e | refine q0b rfl ?_ | apply q0m | apply q0n)
    | (refine q0h ?_; refine subQ ?_)
    | (with_reducible refine And.intro ?_ ?_)
    | (subst hK)
    | exact trivial
  all_goals (try (intros; assumption))
  all_goals (try refine q0v ?_)
  all_goals (try replace hp := q0a hp)
  all_goals (try (intros; trivial))
  all_goals (try (intros; omega))
  all_goals (try (rw [w64 (by omega) (by omega)]; first | done | omega))
end
noncomputable def cfg120 : Cfg := ⟨Tryz.prog, 14, qzx, (fun _ _ => []), [], (fun _ => none)⟩
theorem qbfh : cfg120.pins = [] ∧ cfg120.P = Tryz.prog ∧ cfg120.N = 14 ∧ cfg120.ti 137 = none ∧ cfg120.T 137 = e137 ∧ cfg120.mv 137 = (fun _ => []) := ⟨rfl, rfl, rfl, rfl, rfl, rfl⟩
section
attribute [local go_sem] qbfh e137
theorem qbqx (hC : COk cfg120) (f : Fmt) (b : ByteArray) (hp : f.fields.length ≤ 1000000) : Sem Tryz.prog 120 [.d (qbt f), .d (.s b)] (.d (.i .i64 (qdh f b).2.2)) := by
  refine q0f (C := cfg120) (rs := [.tmp 4]) (fun _ => []) Tryz.func120 rfl rfl rfl rfl rfl rfl ?_
  refine inQ ?_
  repeat' first
    | (with_reducible first | apply q0j | apply q0c | apply AW.seq | apply AW.block)
    | (with_reducible refine AW.runK hC ?_; intro K hK)
    | ((with_reducible first | refine q0t ?_ | refine q0i ?_); refine siQ ?_; (try simp (disch := omega) only [w64, wu8]))
    | ((first | (refine AW.cond rfl (fun h => ?_) (fun h => ?_)) | (refine AW.cond_ub rfl (fun h => ?_) ?_) | (refine AW.cond_nb rfl ?_ (fun h => ?_))) <;> (try replace h := q0a h) <;> (try (exfalso; first | omega | exact absurd h (by decide))))
    | (with_reducible first | apply AW.skip | apply AW.exit | apply AW.ret | apply q0k | apply q0l | apply q0d | apply q0e | refine q0b rfl ?_ | apply q0m | apply q0n)
    | (refine q0h ?_; refine subQ ?_)
    | (with_reducible refine And.intro ?_ ?_)
    | (subst hK)
    | exact trivial
  all_goals (try (intros; assumption))
  all_goals (try refine q0v ?_)
  all_goals (try replace hp := q0a hp)
  all_goals (try (intros; trivial))
  all_goals (try (intros; omega))
  all_goals (try (rw [w64 (by omega) (by omega)]; first | done | omega))
end
noncomputable def cfg90 : Cfg := ⟨Tryz.prog, 47, qzy, (fun _ _ => []), [], (fun _ => none)⟩
theorem qbl0 : cfg90.pins = [] ∧ cfg90.P = Tryz.prog ∧ cfg90.N = 47 ∧ cfg90.ti 117 = none ∧ cfg90.T 117 = e117 ∧ cfg90.mv 117 = (fun _ => []) ∧ cfg90.ti 118 = none ∧ cfg90.T 118 = e118 ∧ cfg90.mv 118 = (fun _ => []) ∧ cfg90.ti 119 = none ∧ cfg90.T 119 = e119 ∧ cfg90.mv 119 = (fun _ => []) ∧ cfg90.ti 120 = none ∧ cfg90.T 120 = e120 ∧ cfg90.mv 120 = (fun _ => []) := ⟨rfl, rfl, rfl, rfl, rfl, rfl, rfl, rfl, rfl, rfl, rfl, rfl, rfl, rfl, rfl⟩
section
attribute [local go_sem] qbl0 e117 e118 e119 e120
attribute [local go_sem] q0g q0x qdb qdw q0u q0z q08 qbh qcs qct
theorem qbv2 (hC : COk cfg90) (t : Table) (hp : (t.file.format.fields.length ≤ 1000000 ∧ t.file.keys.length ≤ 1000000 ∧ t.records.length ≤ 1000000)) : Sem Tryz.prog 90 [.d (q0g t)] (.tup [.d (.i .i64 (q09 t).1), .d (.i .i64 (q09 t).2)]) := by
  refine q0f (C := cfg90) (rs := [.tmp 2, .tmp 3]) (fun _ => []) Tryz.func90 rfl rfl rfl rfl rfl rfl ?_
  refine inQ ?_
  repeat' first
    | (with_reducible first | apply q0j | apply q0c | apply AW.seq | apply AW.block)
    | (with_reducible first | (refine AW.runK hC ?_; intro K hK) | (refine AW.drawK hC (by kernel_rfl) ?_; intro K hK))
    | ((with_reducible first | refine q0t ?_ | refine qb2 ?_ | refine q0i ?_); refine siQ ?_; (try simp (disch := omega) only [w64, wu8]))
    | (with_reducible refine qbn (by kernel_rfl) ?_)
    | ((first | (refine AW.cond rfl (fun h => ?_) (fun h => ?_)) | (refine AW.cond_ub rfl (fun h => ?_) ?_) | (refine AW.cond_nb rfl ?_ (fun h => ?_))) <;> (try replace h := q0a h) <;> (try (exfalso; first | omega | exact absurd h (by decide))))
    | (with_reducible first | apply AW.skip | apply AW.exit | apply AW.ret | apply q0k | apply q0l | apply q0d | apply q0e | refine q0b rfl ?_ | apply q0m | apply q0n)
    | (refine AW.loopN 5 rfl (ι := Nat) (fun i => mkS [(1, V.ptr 16 0), (22, V.d (.sl 2 (t.records.map qbo))), (23, V.d (.i .i64 (t.records.length : Int))), (24, V.d (.i .i64 (i : Int)))] ([(16, .live (.box 80 [.d (.s t.file.name), .d (.s t.file.format.name), .d (.sl 4 (t.file.format.fields.map q03)), .d (.sl 2 (t.file.keys.map q06)), .d (.b t.file.unique), .d (.sl 2 (t.records.map qbo))]))])) (fun i => i ≤ t.records.length ∧ ((qch t.file).2 = 0 ∧ t.records.length ≤ 60) ∧ ∀ j, j < i → recE t j = 0) (fun i => t.records.length - i) (0) ?_ ?_ (fun i hi => ?_) <;> (try dsimp only) <;> (try dsimp only at hi))
    | (refine LoopNext.mk1 5 (i + 1) ?_ ?_ ?_ <;> (try dsimp only))
    | (refine q0h ?_; refine subQ ?_)
    | (with_reducible refine And.intro ?_ ?_)
    | (subst hK)
    | exact trivial
  all_goals (try (intros; assumption))
  all_goals (try refine q0v ?_)
  all_goals (try replace hp := q0a hp)
  all_goals (try replace hi := q0a hi)
  all_goals (try (intros; trivial))
  all_goals (try (intros; omega))
  all_goals (try (rw [w64 (by omega) (by omega)]; first | done | omega))
  all_goals clear hC
  all_goals (try simp only [qbdj] at *)
  all_goals first
    | rfl
    | omega
    | (rw [qzm (by assumption)]; done)
    | (rw [qzm (by assumption)]; rfl)
    | exact (qzn (by assumption)).1
    | exact (qzn (by assumption)).2
    | exact hi.2.1.1
    | exact hi.2.1.2
    | (rw [qn0 hi.2.1 hi.2.2 (by omega) (by unfold recE; simp_all)]; unfold recE; simp_all; done)
    | (rw [qn0 hi.2.1 hi.2.2 (by omega) (by unfold recE; simp_all)]; done)
    | exact qe3 hi.2.2 (by unfold recE; simp_all)
    | (rw [qwj hi.2.1 hi.2.2 (by omega)]; done)
    | (intro d hd; first | (subst hd; exact ⟨rfl, by simp [D.cells, D.one]⟩) | (rcases hd with rfl | rfl <;> exact ⟨rfl, by simp [D.cells, D.one]⟩) | (rcases hd with rfl | rfl | rfl <;> exact ⟨rfl, by simp [D.cells, D.one]⟩) | (rcases hd with rfl | rfl | rfl | rfl <;> exact ⟨rfl, by simp [D.cells, D.one]⟩))
end
noncomputable def cfg121 : Cfg := ⟨Tryz.prog, 11, q5s, (fun _ _ => []), [], (fun _ => none)⟩
theorem qbfi : cfg121.pins = [] ∧ cfg121.P = Tryz.prog ∧ cfg121.N = 11 ∧ cfg121.ti 90 = none ∧ cfg121.T 90 = e90 ∧ cfg121.mv 90 = (fun _ => []) := ⟨rfl, rfl, rfl, rfl, rfl, rfl⟩
section
attribute [local go_sem] qbfi e90
attribute [local go_sem] q0g q0x qdb qdw q0u q0z q08 qbh qcs qct
theorem qbqy (hC : COk cfg121) (t : Table) (hp : (t.file.format.fields.length ≤ 1000000 ∧ t.file.keys.length ≤ 1000000 ∧ t.records.length ≤ 1000000)) : Sem Tryz.prog 121 [.d (q0g t)] (.d (.i .i64 (q09 t).2)) := by
  refine q0f (C := cfg121) (rs := [.tmp 2]) (fun _ => []) Tryz.func121 rfl rfl rfl rfl rfl rfl ?_
  refine inQ ?_
  repeat' first
    | (with_reducible first | apply q0j | apply q0c | apply AW.seq | apply AW.block)
    | (with_reducible refine AW.runK hC ?_; intro K hK)
    | ((with_reducible first | refine q0t ?_ | refine q0i ?_); refine siQ ?_; (try simp (disch := omega) only [w64, wu8]))
    | ((first | (refine AW.cond rfl (fun h => ?_) (fun h => ?_)) | (refine AW.cond_ub rfl (fun h => ?_) ?_) | (refine AW.cond_nb rfl ?_ (fun h => ?_))) <;> (try replace h := q0a h) <;> (try (exfalso; first | omega | exact absurd h (by decide))))
    | (with_reducible first | apply AW.skip | apply AW.exit | apply AW.ret | apply q0k | apply q0l | apply q0d | apply q0e | refine q0b rfl ?_ | apply q0m | apply q0n)
    | (refine q0h ?_; refine subQ ?_)
    | (with_reducible refine And.intro ?_ ?_)
    | (subst hK)
    | exact trivial
  all_goals (try (intros; assumption))
  all_goals (try refine q0v ?_)
  all_goals (try replace hp := q0a hp)
  all_goals (try (intros; trivial))
  all_goals (try (intros; omega))
  all_goals (try (rw [w64 (by omega) (by omega)]; first | done | omega))
end
noncomputable def cfg66 : Cfg := ⟨Tryz.prog, 8, qzz, (fun _ _ => []), [], (fun _ => none)⟩
theorem qbl1 : cfg66.pins = [] ∧ cfg66.P = Tryz.prog ∧ cfg66.N = 8 := ⟨rfl, rfl, rfl⟩
section
attribute [local go_sem] qbl1
attribute [local go_sem] q0g q0x qdb qdw q0u q0z q08 qbh qcs qct
theorem qbv3 (hC : COk cfg66) (l : List Field) (hp : l.length ≤ 1000000) : Sem Tryz.prog 66 [.d (.sl 4 (l.map q03))] (.own 110 4 (l.map q03)) := by
  refine q0f (C := cfg66) (rs := [.tmp 2]) (fun _ => [(0, 110, 4)]) Tryz.func66 rfl rfl rfl rfl rfl rfl ?_
  refine inQ ?_
  repeat' first
    | (with_reducible first | apply q0j | apply q0c | apply AW.seq | apply AW.block)
    | (with_reducible refine AW.runK hC ?_; intro K hK)
    | ((with_reducible first | refine q0t ?_ | refine q0i ?_); refine siQ ?_; (try simp (disch := omega) only [w64, wu8]))
    | ((first | (refine AW.cond rfl (fun h => ?_) (fun h => ?_)) | (refine AW.cond_ub rfl (fun h => ?_) ?_) | (refine AW.cond_nb rfl ?_ (fun h => ?_))) <;> (try replace h := q0a h) <;> (try (exfalso; first | omega | exact absurd h (by decide))))
    | (with_reducible first | apply AW.skip | apply AW.exit | apply AW.ret | apply q0k | apply q0l | apply q0d | apply q0e | refine q0b rfl ?_ | apply q0m | apply q0n)
    | (refine q0h ?_; refine subQ ?_)
    | (with_reducible refine And.intro ?_ ?_)
    | (subst hK)
    | exact trivial
  all_goals (try (intros; assumption))
  all_goals (try refine q0v ?_)
  all_goals (try replace hp := q0a hp)
  all_goals (try (intros; trivial))
  all_goals (try (intros; omega))
  all_goals (try (rw [w64 (by omega) (by omega)]; first | done | omega))
  all_goals first | omega | (simp_all [dles]; done)
end
noncomputable def cfg67 : Cfg := ⟨Tryz.prog, 8, q5t, (fun _ _ => []), [], (fun _ => none)⟩
theorem qbl2 : cfg67.pins = [] ∧ cfg67.P = Tryz.prog ∧ cfg67.N = 8 := ⟨rfl, rfl, rfl⟩
section
attribute [local go_sem] qbl2
attribute [local go_sem] q0g q0x qdb qdw q0u q0z q08 qbh qcs qct
theorem qbv4 (hC : COk cfg67) (l : List KField) (hp : l.length ≤ 1000000) : Sem Tryz.prog 67 [.d (.sl 2 (l.map q06))] (.own 113 2 (l.map q06)) := by
  refine q0f (C := cfg67) (rs := [.tmp 2]) (fun _ => [(0, 113, 2)]) Tryz.func67 rfl rfl rfl rfl rfl rfl ?_
  refine inQ ?_
  repeat' first
    | (with_reducible first | apply q0j | apply q0c | apply AW.seq | apply AW.block)
    | (with_reducible refine AW.runK hC ?_; intro K hK)
    | ((with_reducible first | refine q0t ?_ | refine q0i ?_); refine siQ ?_; (try simp (disch := omega) only [w64, wu8]))
    | ((first | (refine AW.cond rfl (fun h => ?_) (fun h => ?_)) | (refine AW.cond_ub rfl (fun h => ?_) ?_) | (refine AW.cond_nb rfl ?_ (fun h => ?_))) <;> (try replace h := q0a h) <;> (try (exfalso; first | omega | exact absurd h (by decide))))
    | (with_reducible first | apply AW.skip | apply AW.exit | apply AW.ret | apply q0k | apply q0l | apply q0d | apply q0e | refine q0b rfl ?_ | apply q0m | apply q0n)
    | (refine q0h ?_; refine subQ ?_)
    | (with_reducible refine And.intro ?_ ?_)
    | (subst hK)
    | exact trivial
  all_goals (try (intros; assumption))
  all_goals (try refine q0v ?_)
  all_goals (try replace hp := q0a hp)
  all_goals (try (intros; trivial))
  all_goals (try (intros; omega))
  all_goals (try (rw [w64 (by omega) (by omega)]; first | done | omega))
  all_goals first | omega | (simp_all [dles]; done)
end
noncomputable def cfg68 : Cfg := ⟨Tryz.prog, 8, q5u, (fun _ _ => []), [], (fun _ => none)⟩
theorem qbl3 : cfg68.pins = [] ∧ cfg68.P = Tryz.prog ∧ cfg68.N = 8 := ⟨rfl, rfl, rfl⟩
section
attribute [local go_sem] qbl3
attribute [local go_sem] q0g q0x qdb qdw q0u q0z q08 qbh qcs qct
theorem qbv5 (hC : COk cfg68) (l : List Rec) (hp : l.length ≤ 1000000) : Sem Tryz.prog 68 [.d (.sl 2 (l.map qbo))] (.own 104 2 (l.map qbo)) := by
  refine q0f (C := cfg68) (rs := [.tmp 2]) (fun _ => [(0, 104, 2)]) Tryz.func68 rfl rfl rfl rfl rfl rfl ?_
  refine inQ ?_
  repeat' first
    | (with_reducible first | apply q0j | apply q0c | apply AW.seq | apply AW.block)
    | (with_reducible refine AW.runK hC ?_; intro K hK)
    | ((with_reducible first | refine q0t ?_ | refine q0i ?_); refine siQ ?_; (try simp (disch := omega) only [w64, wu8]))
    | ((first | (refine AW.cond rfl (fun h => ?_) (fun h => ?_)) | (refine AW.cond_ub rfl (fun h => ?_) ?_) | (refine AW.cond_nb rfl ?_ (fun h => ?_))) <;> (try replace h := q0a h) <;> (try (exfalso; first | omega | exact absurd h (by decide))))
    | (with_reducible first | apply AW.skip | apply AW.exit | apply AW.ret | apply q0k | apply q0l | apply q0d | apply q0e | refine q0b rfl ?_ | apply q0m | apply q0n)
    | (refine q0h ?_; refine subQ ?_)
    | (with_reducible refine And.intro ?_ ?_)
    | (subst hK)
    | exact trivial
  all_goals (try (intros; assumption))
  all_goals (try refine q0v ?_)
  all_goals (try replace hp := q0a hp)
  all_goals (try (intros; trivial))
  all_goals (try (intros; omega))
  all_goals (try (rw [w64 (by omega) (by omega)]; first | done | omega))
  all_goals first | omega | (simp_all [dles]; done)
end
noncomputable def cfg122 : Cfg := ⟨Tryz.prog, 50, q5v, (fun _ _ => []), [], (fun _ => none)⟩
theorem qbfj : cfg122.pins = [] ∧ cfg122.P = Tryz.prog ∧ cfg122.N = 50 ∧ cfg122.ti 117 = none ∧ cfg122.T 117 = e117 ∧ cfg122.mv 117 = (fun _ => []) ∧ cfg122.ti 119 = none ∧ cfg122.T 119 = e119 ∧ cfg122.mv 119 = (fun _ => []) := ⟨rfl, rfl, rfl, rfl, rfl, rfl, rfl, rfl, rfl⟩
section
attribute [local go_sem] qbfj e117 e119
attribute [local go_sem] q0g q0x qdb qdw q0u q0z q08 qbh qcs qct
theorem qbqz (hC : COk cfg122) (t : Table) (c : Change) (hp : 1 ≤ c.rrn ∧ c.rrn ≤ (t.records.length : Int) + 1 ∧ t.records.length ≤ 1000000) : Sem Tryz.prog 122 [.d (q0g t), .d (q0u c)] (.d (.i .i64 (qir t c))) := by
  refine q0f (C := cfg122) (rs := [.tmp 4]) (fun _ => []) Tryz.func122 rfl rfl rfl rfl rfl rfl ?_
  refine inQ ?_
  repeat' first
    | (with_reducible first | apply q0j | apply q0c | apply AW.seq | apply AW.block)
    | (with_reducible first | (refine AW.runK hC ?_; intro K hK) | (refine AW.drawK hC (by kernel_rfl) ?_; intro K hK))
    | ((with_reducible first | refine q0t ?_ | refine qb2 ?_ | refine q0i ?_); refine siQ ?_; (try simp (disch := omega) only [w64, wu8]))
    | (with_reducible refine qbn (by kernel_rfl) ?_)
    | ((first | (refine AW.cond rfl (fun h => ?_) (fun h => ?_)) | (refine AW.cond_ub rfl (fun h => ?_) ?_) | (refine AW.cond_nb rfl ?_ (fun h => ?_))) <;> (try replace h := q0a h) <;> (try (exfalso; first | omega | exact absurd h (by decide))))
    | (with_reducible first | apply AW.skip | apply AW.exit | apply AW.ret | apply q0k | apply q0l | apply q0d | apply q0e | refine q0b rfl ?_ | apply q0m | apply q0n)
    | (refine q0h ?_; refine subQ ?_)
    | (with_reducible refine And.intro ?_ ?_)
    | (subst hK)
    | exact trivial
  all_goals (try (intros; assumption))
  all_goals (try refine q0v ?_)
  all_goals (try replace hp := q0a hp)
  all_goals (try (intros; trivial))
  all_goals (try (intros; omega))
  all_goals (try (rw [w64 (by omega) (by omega)]; first | done | omega))
  all_goals clear hC
  all_goals first
    | omega
    | (intro d hd; first | (subst hd; exact ⟨rfl, by simp [D.cells, D.one]⟩) | (rcases hd with rfl | rfl <;> exact ⟨rfl, by simp [D.cells, D.one]⟩) | (rcases hd with rfl | rfl | rfl <;> exact ⟨rfl, by simp [D.cells, D.one]⟩) | (rcases hd with rfl | rfl | rfl | rfl <;> exact ⟨rfl, by simp [D.cells, D.one]⟩))
    | (unfold qir qng qt4; simp_all; done)
end
noncomputable def cfg93 : Cfg := ⟨Tryz.prog, 87, qz2, (fun _ _ => []), [], (fun _ => none)⟩
theorem qbl4 : cfg93.pins = [] ∧ cfg93.P = Tryz.prog ∧ cfg93.N = 87 ∧ cfg93.ti 117 = none ∧ cfg93.T 117 = e117 ∧ cfg93.mv 117 = (fun _ => []) ∧ cfg93.ti 119 = none ∧ cfg93.T 119 = e119 ∧ cfg93.mv 119 = (fun _ => []) ∧ cfg93.ti 120 = none ∧ cfg93.T 120 = e120 ∧ cfg93.mv 120 = (fun _ => []) ∧ cfg93.ti 121 = none ∧ cfg93.T 121 = e121 ∧ cfg93.mv 121 = (fun _ => []) ∧ cfg93.ti 122 = none ∧ cfg93.T 122 = e122 ∧ cfg93.mv 122 = (fun _ => []) := ⟨rfl, rfl, rfl, rfl, rfl, rfl, rfl, rfl, rfl, rfl, rfl, rfl, rfl, rfl, rfl, rfl, rfl, rfl⟩
section
attribute [local go_sem] qbl4 e117 e119 e120 e121 e122
attribute [local go_sem] q0g q0x qdb qdw q0u q0z q08 qbh qcs qct List.length_set Nat.le_refl
theorem qbv6 (hC : COk cfg93) (t : Table) (c : Change) (hp : (t.file.format.fields.length ≤ 1000000 ∧ t.file.keys.length ≤ 1000000 ∧ t.records.length ≤ 1000000)) : Sem Tryz.prog 93 [.d (q0g t), .d (q0u c)] (.d (.i .i64 (qc1 t c))) := by
  refine q0f (C := cfg93) (rs := [.tmp 4]) (fun _ => []) Tryz.func93 rfl rfl rfl rfl rfl rfl ?_
  refine inQ ?_
  repeat' first
    | (with_reducible first | apply q0j | apply q0c | apply AW.seq | apply AW.block)
    | (with_reducible first | (refine AW.runK hC ?_; intro K hK) | (refine AW.drawK hC (by kernel_rfl) ?_; intro K hK))
    | ((with_reducible first | refine q0t ?_ | refine qb2 ?_ | refine q0i ?_); refine siQ ?_; (try simp (disch := omega) only [w64, wu8]))
    | (with_reducible refine qbn (by kernel_rfl) ?_)
    | ((first | (refine AW.cond rfl (fun h => ?_) (fun h => ?_)) | (refine AW.cond_ub rfl (fun h => ?_) ?_) | (refine AW.cond_nb rfl ?_ (fun h => ?_))) <;> (try replace h := q0a h) <;> (try (exfalso; first | omega | exact absurd h (by decide))))
    | (with_reducible first | apply AW.skip | apply AW.exit | apply AW.ret | apply q0k | apply q0l | apply q0d | apply q0e | refine q0b rfl ?_ | apply q0m | apply q0n)
    | (refine q0h ?_; refine subQ ?_)
    | (with_reducible refine And.intro ?_ ?_)
    | (subst hK)
    | exact trivial
  all_goals (try (intros; assumption))
  all_goals (try refine q0v ?_)
  all_goals (try replace hp := q0a hp)
  all_goals (try (intros; trivial))
  all_goals (try (intros; omega))
  all_goals (try (rw [w64 (by omega) (by omega)]; first | done | omega))
  all_goals clear hC
  all_goals (try simp only [qbdo t c (by assumption)] at *)
  all_goals (try simp only [qbdp t c (by assumption)] at *)
  all_goals first
    | omega
    | (intro d hd; rcases hd with rfl | rfl | rfl | rfl | rfl <;> exact ⟨rfl, by simp [D.cells, D.one]⟩)
    | exact qi0 (by assumption)
    | exact (qpl (by assumption)).1
    | exact (qpl (by assumption)).2
    | exact qz0 (by assumption) (by assumption)
    | exact qz1 (by assumption) (by assumption)
end
noncomputable def cfg94 : Cfg := ⟨Tryz.prog, 29, q5w, (fun _ _ => []), [], (fun _ => none)⟩
theorem qbl5 : cfg94.pins = [] ∧ cfg94.P = Tryz.prog ∧ cfg94.N = 29 ∧ cfg94.ti 68 = none ∧ cfg94.T 68 = e68 ∧ cfg94.mv 68 = (fun _ => []) := ⟨rfl, rfl, rfl, rfl, rfl, rfl⟩
section
attribute [local go_sem] qbl5 e68
attribute [local go_sem] q0g q0x qdb qdw q0u q0z q08 qbh qcs qct List.length_set Nat.le_refl
theorem qbv7 (hC : COk cfg94) (t : Table) (n : Int) (r : Rec) (hp : 1 ≤ n ∧ n ≤ (t.records.length : Int) + 1 ∧ t.records.length ≤ 1000000) : Sem Tryz.prog 94 [.d (q0g t), .d (.i .i64 n), .d (qbo r)] (.d (q0g (qhl t n r))) := by
  refine q0f (C := cfg94) (rs := [.cell 6 80]) (fun _ => []) Tryz.func94 rfl rfl rfl rfl rfl rfl ?_
  refine inQ ?_
  repeat' first
    | (with_reducible first | apply q0j | apply q0c | apply AW.seq | apply AW.block)
    | (with_reducible refine AW.runK hC ?_; intro K hK)
    | ((with_reducible first | refine q0t ?_ | refine q0i ?_); refine siQ ?_; (try simp (disch := omega) only [w64, wu8]))
    | ((first | (refine AW.cond rfl (fun h => ?_) (fun h => ?_)) | (refine AW.cond_ub rfl (fun h => ?_) ?_) | (refine AW.cond_nb rfl ?_ (fun h => ?_))) <;> (try replace h := q0a h) <;> (try (exfalso; first | omega | exact absurd h (by decide))))
    | (with_reducible first | apply AW.skip | apply AW.exit | apply AW.ret | apply q0k | apply q0l | apply q0d | apply q0e | refine q0b rfl ?_ | apply q0m | apply q0n)
    | (refine q0h ?_; refine subQ ?_)
    | (with_reducible refine And.intro ?_ ?_)
    | (subst hK)
    | exact trivial
  all_goals (try (intros; assumption))
  all_goals (try refine q0v ?_)
  all_goals (try replace hp := q0a hp)
  all_goals (try (intros; trivial))
  all_goals (try (intros; omega))
  all_goals (try (rw [w64 (by omega) (by omega)]; first | done | omega))
  all_goals clear hC
  all_goals first
    | omega
    | rfl
    | exact q0p _
    | exact qjt (qwp (by assumption))
    | exact qjt (qwq (by assumption))
    | (intro d hd; first | (subst hd; exact ⟨rfl, by simp [D.cells, D.one]⟩) | (rcases hd with rfl | rfl <;> exact ⟨rfl, by simp [D.cells, D.one]⟩) | (rcases hd with rfl | rfl | rfl <;> exact ⟨rfl, by simp [D.cells, D.one]⟩) | (rcases hd with rfl | rfl | rfl | rfl <;> exact ⟨rfl, by simp [D.cells, D.one]⟩))
end
noncomputable def cfg70 : Cfg := ⟨Tryz.prog, 24, q5x, (fun _ _ => []), [], (fun _ => none)⟩
theorem qbl6 : cfg70.pins = [] ∧ cfg70.P = Tryz.prog ∧ cfg70.N = 24 ∧ cfg70.ti 93 = none ∧ cfg70.T 93 = e93 ∧ cfg70.mv 93 = (fun _ => []) ∧ cfg70.ti 94 = none ∧ cfg70.T 94 = e94 ∧ cfg70.mv 94 = (fun _ => []) := ⟨rfl, rfl, rfl, rfl, rfl, rfl, rfl, rfl, rfl⟩
section
attribute [local go_sem] qbl6 e93 e94
attribute [local go_sem] q0g q0x qdb qdw q0u q0z q08 qbh qcs qct List.length_set Nat.le_refl
theorem qbv8 (hC : COk cfg70) (t : Table) (c : Change) (hp : (t.file.format.fields.length ≤ 1000000 ∧ t.file.keys.length ≤ 1000000 ∧ t.records.length ≤ 1000000)) : Sem Tryz.prog 70 [.d (q0g t), .d (q0u c)] (.tup [.d (q0g (qf4 t c).1), .d (.i .i64 (qf4 t c).2)]) := by
  refine q0f (C := cfg70) (rs := [.cell 4 80, .tmp 5]) (fun _ => []) Tryz.func70 rfl rfl rfl rfl rfl rfl ?_
  refine inQ ?_
  repeat' first
    | (with_reducible first | apply q0j | apply q0c | apply AW.seq | apply AW.block)
    | (with_reducible refine AW.runK hC ?_; intro K hK)
    | ((with_reducible first | refine q0t ?_ | refine q0i ?_); refine siQ ?_; (try simp (disch := omega) only [w64, wu8]))
    | ((first | (refine AW.cond rfl (fun h => ?_) (fun h => ?_)) | (refine AW.cond_ub rfl (fun h => ?_) ?_) | (refine AW.cond_nb rfl ?_ (fun h => ?_))) <;> (try replace h := q0a h) <;> (try (exfalso; first | omega | exact absurd h (by decide))))
    | (with_reducible first | apply AW.skip | apply AW.exit | apply AW.ret | apply q0k | apply q0l | apply q0d | apply q0e | refine q0b rfl ?_ | apply q0m | apply q0n)
    | (refine q0h ?_; refine subQ ?_)
    | (with_reducible refine And.intro ?_ ?_)
    | (subst hK)
    | exact trivial
  all_goals (try (intros; assumption))
  all_goals (try refine q0v ?_)
  all_goals (try replace hp := q0a hp)
  all_goals (try (intros; trivial))
  all_goals (try (intros; omega))
  all_goals (try (rw [w64 (by omega) (by omega)]; first | done | omega))
  all_goals clear hC
  all_goals first
    | omega
    | exact (qmr (by assumption)).1
    | exact (qmr (by assumption)).2
    | (rw [qly (by assumption)]; done)
    | (rw [qly (by assumption)]; rfl)
    | (rw [qhx (by assumption)]; done)
    | (rw [qhx (by assumption)]; rfl)
    | (rw [qhx (by assumption)]; exact q0p _)
end
end Go.Ev
