/- Tools and contracts under the laws of this seat: Dyc15 to Dyc32. -/
import Derived.Test.YtkgkgcojfocomaaGreatE09
set_option linter.unusedVariables false
set_option linter.unusedSimpArgs false
namespace Go.Ev
open Go.Proofs Ty
set_option maxRecDepth 10000
set_option maxHeartbeats 4000000
set_option linter.unusedSimpArgs false
set_option linter.unusedVariables false
attribute [local go_sem] qbe qbg qcb qcy qb6 qda qdn qef Int.toNat_natCast qc9 qd4 qep qcq qcc qbm qb0 decI List.length_map qbf qbl q03 qb4 qc4 qdr qbt qb1 qd9 qe4 q06 qbv qcl qc8 qb5 qcd qds qea qbo qc0 qeb qe5 qbz qbp qcp qc6 qcn qed qc7 qco qee qc5 qcm qec List.length_take qce Int.toNat_zero Nat.sub_zero List.drop_zero q0g q0x qdb qdw q0u q0z q08 qbh qcs qct List.length_set Nat.le_refl
attribute [local go_sem ←] List.map_take List.map_drop
noncomputable def cfg15 : Cfg := ⟨Tryz.prog, 53, q6d, (fun _ _ => []), [], (fun _ => none)⟩
theorem qbmj : cfg15.pins = [] ∧ cfg15.P = Tryz.prog ∧ cfg15.N = 53 ∧ cfg15.ti 34 = none ∧ cfg15.T 34 = e34 ∧ cfg15.mv 34 = (fun _ => []) ∧ cfg15.ti 35 = none ∧ cfg15.T 35 = e35 ∧ cfg15.mv 35 = (fun _ => []) ∧ cfg15.ti 36 = none ∧ cfg15.T 36 = e36 ∧ cfg15.mv 36 = (fun _ => []) ∧ cfg15.ti 44 = none ∧ cfg15.T 44 = e44 ∧ cfg15.mv 44 = (fun _ => []) := ⟨rfl, rfl, rfl, rfl, rfl, rfl, rfl, rfl, rfl, rfl, rfl, rfl, rfl, rfl, rfl⟩
section
attribute [local go_sem] qbmj e34 e35 e36 e44
attribute [local go_sem] qcv qcg q0r q0w qb3 qcf qci qdt qdx qm2 qov
theorem qbwl (hC : COk cfg15) (ts : List Table) (l : List Entry) (n : Int) (hp : okTs ts ∧ l.length ≤ 1000000) : Sem Tryz.prog 15 [.d (.sl 6 (ts.map q0g)), .d (.sl 8 (l.map q0r)), .d (.i .i64 n)] (.tup [.d (.sl 6 ((qfd ts l n).1.map q0g)), .d (.i .i64 (qfd ts l n).2.1), .d (.i .i64 (qfd ts l n).2.2)]) := by
  refine q0f (C := cfg15) (rs := [.tmp 6, .tmp 7, .tmp 8]) (fun _ => []) Tryz.func15 rfl rfl rfl rfl rfl rfl ?_
  refine inQ ?_
  repeat' first
    | (with_reducible first | apply q0j | apply q0c | apply AW.seq | apply AW.block)
    | (refine AW.atR 6 rfl ?_; have hq := (qfj (ts := ts) (l := l) (by assumption)).2; have h0 := qkr hq (j := 0) (by omega); have h1 := qkr hq (j := l.length - 1) (by omega); have hj : ((l.length : Int) - 1).toNat = l.length - 1 := (by omega))
    | (with_reducible first | (refine AWh.runK hC ?_; intro K hK) | (refine AWh.drawK hC (by kernel_rfl) ?_; intro K hK))
    | (with_reducible first | (refine AW.runK hC ?_; intro K hK) | (refine AW.drawK hC (by kernel_rfl) ?_; intro K hK))
    | ((with_reducible first | refine q0t ?_ | refine qb2 ?_ | refine q0i ?_); (first | (simp (maxSteps := 1000000) only [go_sem, ↓reduceIte, reduceCtorEq, Nat.reduceEqDiff, Nat.reduceLT, Nat.reduceLeDiff, Nat.reduceMul, Nat.reduceAdd, Nat.reduceSub, reduceDIte, Nat.reduceBEq, Nat.reduceBNe, hj]) | (refine siQ ?_)); (try simp (disch := omega) only [w64, wu8]))
    | (with_reducible refine qbn (by kernel_rfl) ?_)
    | ((first | (refine AW.cond rfl (fun h => ?_) (fun h => ?_)) | (refine AW.cond_ub rfl (fun h => ?_) ?_) | (refine AW.cond_nb rfl ?_ (fun h => ?_))) <;> (try replace h := q0a h) <;> (try (exfalso; first | omega | exact absurd h (by decide))))
    | (with_reducible first | apply AW.skip | apply AW.exit | apply AW.ret | apply q0k | apply q0l | apply q0d | apply q0e | refine q0b rfl ?_ | apply q0m | apply q0n)
    | (refine q0h ?_; refine subQ ?_)
    | (with_reducible refine And.intro ?_ ?_)
    | (subst hK)
    | exact trivial
  all_goals (try (intros; assumption))
  all_goals (try refine q0v ?_)
  all_goals (try replace hp := q0a hp)
  all_goals (try replace hj := q0a hj)
  all_goals (try (intros; trivial))
  all_goals (try (intros; omega))
  all_goals (try (rw [w64 (by omega) (by omega)]; first | done | omega))
  all_goals clear hC
  all_goals (try have ES := qww (l := l) (by omega))
  all_goals (try have EN := qwx (l := l) (by omega))
  all_goals first
    | omega
    | exact hp.1
    | exact hp.2
    | exact hp.1.1
    | (rw [qmu (by assumption)]; done)
    | (rw [qmu (by assumption)]; rfl)
    | (rw [qmu (by assumption)]; exact q0p _)
    | (rw [qmv (by assumption) (by omega)]; done)
    | (rw [qmv (by assumption) (by omega)]; rfl)
    | (rw [qmv (by assumption) (by omega)]; exact q0p _)
    | (rw [qqu (by assumption) (by omega)]; done)
    | (rw [qqu (by assumption) (by omega)]; exact q0p _)
    | (have := qlz ⟨true, n⟩ false l; omega)
    | (have := qlz ⟨false, n⟩ true l; omega)
end
noncomputable def cfg95 : Cfg := ⟨Tryz.prog, 9, q6e, (fun _ _ => []), [], (fun _ => none)⟩
theorem qbmk : cfg95.pins = [] ∧ cfg95.P = Tryz.prog ∧ cfg95.N = 9 := ⟨rfl, rfl, rfl⟩
section
attribute [local go_sem] qbmk
theorem qbwm (hC : COk cfg95) (f : Fmt) (hp : f.fields.length ≤ 1000000) : Sem Tryz.prog 95 [.d (qbt f)] (.d (qbt f)) := by
  refine q0f (C := cfg95) (rs := [.cell 2 74]) (fun _ => []) Tryz.func95 rfl rfl rfl rfl rfl rfl ?_
  refine inQ ?_
  repeat' first
    | (with_reducible first | apply q0j | apply q0c | apply AW.seq | apply AW.block)
    | (with_reducible first | (refine AW.runK hC ?_; intro K hK) | (refine AW.drawK hC (by kernel_rfl) ?_; intro K hK))
    | ((with_reducible first | refine q0t ?_ | refine qb2 ?_ | refine q0i ?_); refine siQ ?_; (try simp (disch := omega) only [w64, wu8]))
    | (with_reducible refine qbn (by kernel_rfl) ?_)
    | ((first | (refine AW.cond rfl (fun h => ?_) (fun h => ?_)) | (refine AW.cond_ub rfl (fun h => ?_) ?_) | (refine AW.cond_nb rfl ?_ (fun h => ?_))) <;> (try replace h := q0a h) <;> (try (exfalso; first | omega | exact absurd h (by decide))))
    | (with_reducible first | apply AW.skip | apply AW.exit | apply AW.ret | apply q0k | apply q0l | apply q0d | apply q0e | refine q0b rfl ?_ | apply q0m | apply q0n)
    | (refine q0h ?_; refine subQ ?_)
    | (with_reducible refine And.intro ?_ ?_)
    | (subst hK)
    | exact trivial
  all_goals (try (intros; assumption))
  all_goals (try refine q0v ?_)
  all_goals (try replace hp := q0a hp)
  all_goals (try (intros; trivial))
  all_goals (try (intros; omega))
  all_goals (try (rw [w64 (by omega) (by omega)]; first | done | omega))
  all_goals clear hC
  all_goals first | omega | (simp_all [dles]; done) | exact q0p _
end
noncomputable def cfg73 : Cfg := ⟨Tryz.prog, 14, q6f, (fun _ _ => []), [], (fun _ => none)⟩
theorem qbml : cfg73.pins = [] ∧ cfg73.P = Tryz.prog ∧ cfg73.N = 14 ∧ cfg73.ti 95 = none ∧ cfg73.T 95 = e95 ∧ cfg73.mv 95 = (fun _ => []) := ⟨rfl, rfl, rfl, rfl, rfl, rfl⟩
section
attribute [local go_sem] qbml e95
theorem qbwn (hC : COk cfg73) (f : File) (hp : f.format.fields.length ≤ 1000000 ∧ f.keys.length ≤ 1000000) : Sem Tryz.prog 73 [.d (qb5 f)] (.d (qb5 f)) := by
  refine q0f (C := cfg73) (rs := [.cell 2 77]) (fun _ => []) Tryz.func73 rfl rfl rfl rfl rfl rfl ?_
  refine inQ ?_
  repeat' first
    | (with_reducible first | apply q0j | apply q0c | apply AW.seq | apply AW.block)
    | (with_reducible first | (refine AW.runK hC ?_; intro K hK) | (refine AW.drawK hC (by kernel_rfl) ?_; intro K hK))
    | ((with_reducible first | refine q0t ?_ | refine qb2 ?_ | refine q0i ?_); refine siQ ?_; (try simp (disch := omega) only [w64, wu8]))
    | (with_reducible refine qbn (by kernel_rfl) ?_)
    | ((first | (refine AW.cond rfl (fun h => ?_) (fun h => ?_)) | (refine AW.cond_ub rfl (fun h => ?_) ?_) | (refine AW.cond_nb rfl ?_ (fun h => ?_))) <;> (try replace h := q0a h) <;> (try (exfalso; first | omega | exact absurd h (by decide))))
    | (with_reducible first | apply AW.skip | apply AW.exit | apply AW.ret | apply q0k | apply q0l | apply q0d | apply q0e | refine q0b rfl ?_ | apply q0m | apply q0n)
    | (refine q0h ?_; refine subQ ?_)
    | (with_reducible refine And.intro ?_ ?_)
    | (subst hK)
    | exact trivial
  all_goals (try (intros; assumption))
  all_goals (try refine q0v ?_)
  all_goals (try replace hp := q0a hp)
  all_goals (try (intros; trivial))
  all_goals (try (intros; omega))
  all_goals (try (rw [w64 (by omega) (by omega)]; first | done | omega))
  all_goals clear hC
  all_goals first | omega | (simp_all [dles]; done) | exact q0p _
end
noncomputable def cfg38 : Cfg := ⟨Tryz.prog, 10, q6g, (fun _ _ => []), [], (fun _ => none)⟩
theorem qbmm : cfg38.pins = [] ∧ cfg38.P = Tryz.prog ∧ cfg38.N = 10 ∧ cfg38.ti 73 = none ∧ cfg38.T 73 = e73 ∧ cfg38.mv 73 = (fun _ => []) := ⟨rfl, rfl, rfl, rfl, rfl, rfl⟩
section
attribute [local go_sem] qbmm e73
theorem qbwo (hC : COk cfg38) (t : Table) (hp : (t.file.format.fields.length ≤ 1000000 ∧ t.file.keys.length ≤ 1000000 ∧ t.records.length ≤ 1000000)) : Sem Tryz.prog 38 [.d (q0g t)] (.d (q0g t)) := by
  refine q0f (C := cfg38) (rs := [.cell 2 80]) (fun _ => []) Tryz.func38 rfl rfl rfl rfl rfl rfl ?_
  refine inQ ?_
  repeat' first
    | (with_reducible first | apply q0j | apply q0c | apply AW.seq | apply AW.block)
    | (with_reducible first | (refine AW.runK hC ?_; intro K hK) | (refine AW.drawK hC (by kernel_rfl) ?_; intro K hK))
    | ((with_reducible first | refine q0t ?_ | refine qb2 ?_ | refine q0i ?_); refine siQ ?_; (try simp (disch := omega) only [w64, wu8]))
    | (with_reducible refine qbn (by kernel_rfl) ?_)
    | ((first | (refine AW.cond rfl (fun h => ?_) (fun h => ?_)) | (refine AW.cond_ub rfl (fun h => ?_) ?_) | (refine AW.cond_nb rfl ?_ (fun h => ?_))) <;> (try replace h := q0a h) <;> (try (exfalso; first | omega | exact absurd h (by decide))))
    | (with_reducible first | apply AW.skip | apply AW.exit | apply AW.ret | apply q0k | apply q0l | apply q0d | apply q0e | refine q0b rfl ?_ | apply q0m | apply q0n)
    | (refine q0h ?_; refine subQ ?_)
    | (with_reducible refine And.intro ?_ ?_)
    | (subst hK)
    | exact trivial
  all_goals (try (intros; assumption))
  all_goals (try refine q0v ?_)
  all_goals (try replace hp := q0a hp)
  all_goals (try (intros; trivial))
  all_goals (try (intros; omega))
  all_goals (try (rw [w64 (by omega) (by omega)]; first | done | omega))
  all_goals clear hC
  all_goals first | omega | (simp_all [dles]; done) | exact q0p _
end
noncomputable def cfg11 : Cfg := ⟨Tryz.prog, 20, q6h, (fun _ _ => []), [], (fun _ => none)⟩
theorem qbmn : cfg11.pins = [] ∧ cfg11.P = Tryz.prog ∧ cfg11.N = 20 ∧ cfg11.ti 38 = none ∧ cfg11.T 38 = e38 ∧ cfg11.mv 38 = (fun _ => []) := ⟨rfl, rfl, rfl, rfl, rfl, rfl⟩
section
attribute [local go_sem] qbmn e38
attribute [local go_sem] qcv qcg List.take_length
theorem qbwp (hC : COk cfg11) (ts : List Table) (hp : okTs ts) : Sem Tryz.prog 11 [.d (.sl 6 (ts.map q0g))] (.own 80 6 (ts.map q0g)) := by
  have hB : ts.length ≤ 1000000 := hp.1
  refine q0f (C := cfg11) (rs := [.tmp 2]) (fun _ => [(0, 80, 6)]) Tryz.func11 rfl rfl rfl rfl rfl rfl ?_
  refine inQ ?_
  repeat' first
    | (with_reducible first | apply q0j | apply q0c | apply AW.seq | apply AW.block)
    | (refine AW.atR 5 rfl ?_; have hg : ∀ z, (ts.map q0g).getD i z = q0g (ts.getD i q05) := fun z => qgc (by omega) z)
    | (with_reducible first | (refine AWh.runK hC ?_; intro K hK) | (refine AWh.drawK hC (by kernel_rfl) ?_; intro K hK))
    | (with_reducible refine AW.runK hC ?_; intro K hK)
    | ((with_reducible first | refine q0t ?_ | refine q0i ?_); (first | (simp (maxSteps := 1000000) only [go_sem, ↓reduceIte, reduceCtorEq, Nat.reduceEqDiff, Nat.reduceLT, Nat.reduceLeDiff, Nat.reduceMul, Nat.reduceAdd, Nat.reduceSub, reduceDIte, Nat.reduceBEq, Nat.reduceBNe, hg]) | (refine siQ ?_)); (try simp (disch := omega) only [w64, wu8]))
    | ((first | (refine AW.cond rfl (fun h => ?_) (fun h => ?_)) | (refine AW.cond_ub rfl (fun h => ?_) ?_) | (refine AW.cond_nb rfl ?_ (fun h => ?_))) <;> (try replace h := q0a h) <;> (try (exfalso; first | omega | exact absurd h (by decide))))
    | (with_reducible first | apply AW.skip | apply AW.exit | apply AW.ret | apply q0k | apply q0l | apply q0d | apply q0e | refine q0b rfl ?_ | apply q0m | apply q0n)
    | (refine AW.loopN 3 rfl (ι := Nat) (fun i => mkS [(0, V.d (.sl 6 (ts.map q0g))), (3, V.row 48 6 0 (ts.take i).length), (4, V.d (.i .i64 (i : Int)))] ([(48, .live (.row 80 6 false ((ts.take i).map q0g)))])) (fun i => i ≤ ts.length) (fun i => ts.length - i) (0) ?_ ?_ (fun i hi => ?_) <;> (try dsimp only) <;> (try dsimp only at hi))
    | (refine LoopNext.mk1 3 (i + 1) ?_ ?_ ?_ <;> (try dsimp only))
    | (refine q0h ?_; refine subQ ?_)
    | (with_reducible refine And.intro ?_ ?_)
    | (subst hK)
    | exact trivial
  all_goals (try (intros; assumption))
  all_goals (try refine q0v ?_)
  all_goals (try replace hp := q0a hp)
  all_goals (try replace hi := q0a hi)
  all_goals (try (intros; trivial))
  all_goals (try (intros; omega))
  all_goals (try (rw [w64 (by omega) (by omega)]; first | done | omega))
  all_goals clear hC
  all_goals first
    | omega
    | exact (hp.2 i).1
    | exact (hp.2 i).2.1
    | exact (hp.2 i).2.2
    | (intro d hd; subst hd; exact ⟨rfl, by simp [D.cells, D.one]⟩)
    | (rw [qdy q05 (by omega), List.map_append]; exact q0p _)
    | (rw [List.take_of_length_le (by omega)]; exact q0p _)
    | (rw [List.take_take, List.take_of_length_le (by omega)]; exact q0p _)
end
noncomputable def cfg99 : Cfg := ⟨Tryz.prog, 26, q6i, (fun _ _ => []), [], (fun _ => none)⟩
theorem qbmo : cfg99.pins = [] ∧ cfg99.P = Tryz.prog ∧ cfg99.N = 26 := ⟨rfl, rfl, rfl⟩
section
attribute [local go_sem] qbmo
theorem qbwq (hC : COk cfg99) (a : List Rec) (b : List Rec) (hp : a.length ≤ 1000000) : Sem Tryz.prog 99 [.d (.sl 2 (a.map qbo)), .d (.sl 2 (b.map qbo))] (.d (.b (decide (a = b)))) := by
  refine q0f (C := cfg99) (rs := [.tmp 4]) (fun _ => []) Tryz.func99 rfl rfl rfl rfl rfl rfl ?_
  refine inQ ?_
  repeat' first
    | (with_reducible first | apply q0j | apply q0c | apply AW.seq | apply AW.block)
    | (with_reducible first | (refine AW.runK hC ?_; intro K hK) | (refine AW.drawK hC (by kernel_rfl) ?_; intro K hK))
    | ((with_reducible first | refine q0t ?_ | refine qb2 ?_ | refine q0i ?_); refine siQ ?_; (try simp (disch := omega) only [w64, wu8]))
    | (with_reducible refine qbn (by kernel_rfl) ?_)
    | ((first | (refine AW.cond rfl (fun h => ?_) (fun h => ?_)) | (refine AW.cond_ub rfl (fun h => ?_) ?_) | (refine AW.cond_nb rfl ?_ (fun h => ?_))) <;> (try replace h := q0a h) <;> (try (exfalso; first | omega | exact absurd h (by decide))))
    | (with_reducible first | apply AW.skip | apply AW.exit | apply AW.ret | apply q0k | apply q0l | apply q0d | apply q0e | refine q0b rfl ?_ | apply q0m | apply q0n)
    | (refine AW.loopN 4 rfl (ι := Nat) (fun i => mkS [(0, V.d (.sl 2 (a.map qbo))), (1, V.d (.sl 2 (b.map qbo))), (5, V.d (.i .i64 (i : Int)))] ([])) (fun i => i ≤ a.length ∧ a.length = b.length ∧ a.take i = b.take i) (fun i => a.length - i) (0) ?_ ?_ (fun i hi => ?_) <;> (try dsimp only) <;> (try dsimp only at hi))
    | (refine LoopNext.mk1 4 (i + 1) ?_ ?_ ?_ <;> (try dsimp only))
    | (refine q0h ?_; refine subQ ?_)
    | (with_reducible refine And.intro ?_ ?_)
    | (subst hK)
    | exact trivial
  all_goals (try (intros; assumption))
  all_goals (try refine q0v ?_)
  all_goals (try replace hp := q0a hp)
  all_goals (try replace hi := q0a hi)
  all_goals (try (intros; trivial))
  all_goals (try (intros; omega))
  all_goals (try (rw [w64 (by omega) (by omega)]; first | done | omega))
  all_goals clear hC
  all_goals first
    | rfl
    | omega
    | (intro e; subst e; exact h rfl)
    | (intro e; subst e; simp at h; done)
    | (intro e; rw [e] at h; simp at h; done)
    | exact qb9 hi.2.2 (by omega) (by omega)
    | exact qgp hi.2.2 (by omega) (by omega) (by assumption)
    | (simp only [decide_eq_true_eq]; exact qb9 hi.2.2 (by omega) (by omega))
    | exact h.1
    | exact h.1.1.1
    | exact h.1.1.2
    | exact h.1.2
    | exact hi.2.1.1
    | exact hi.2.1.2.1
    | exact hi.2.1.2.2.1
    | exact qqv hi.2.1.1 (qb9 hi.2.2 (by omega) (by omega))
    | exact qow hi.2.1.1 hi.2.1.2.1 hi.2.1.2.2.1 (qb9 hi.2.2 (by omega) (by omega))
    | exact hp.1
    | exact hp.2.1
    | exact fun _ => hp.2.2
    | exact qmb a b
end
noncomputable def cfg126 : Cfg := ⟨Tryz.prog, 38, q6j, (fun _ _ => []), [], (fun _ => none)⟩
theorem qbfk : cfg126.pins = [] ∧ cfg126.P = Tryz.prog ∧ cfg126.N = 38 := ⟨rfl, rfl, rfl⟩
section
attribute [local go_sem] qbfk
theorem qbq0 (hC : COk cfg126) (a : Fmt) (b : Fmt) (hp : a.fields.length ≤ 1000000) : Sem Tryz.prog 126 [.d (qbt a), .d (qbt b)] (.d (.b (decide (a = b)))) := by
  refine q0f (C := cfg126) (rs := [.tmp 4]) (fun _ => []) Tryz.func126 rfl rfl rfl rfl rfl rfl ?_
  refine inQ ?_
  repeat' first
    | (with_reducible first | apply q0j | apply q0c | apply AW.seq | apply AW.block)
    | (with_reducible first | (refine AW.runK hC ?_; intro K hK) | (refine AW.drawK hC (by kernel_rfl) ?_; intro K hK))
    | ((with_reducible first | refine q0t ?_ | refine qb2 ?_ | refine q0i ?_); refine siQ ?_; (try simp (disch := omega) only [w64, wu8]))
    | (with_reducible refine qbn (by kernel_rfl) ?_)
    | ((first | (refine AW.cond rfl (fun h => ?_) (fun h => ?_)) | (refine AW.cond_ub rfl (fun h => ?_) ?_) | (refine AW.cond_nb rfl ?_ (fun h => ?_))) <;> (try replace h := q0a h) <;> (try (exfalso; first | omega | exact absurd h (by decide))))
    | (with_reducible first | apply AW.skip | apply AW.exit | apply AW.ret | apply q0k | apply q0l | apply q0d | apply q0e | refine q0b rfl ?_ | apply q0m | apply q0n)
    | (refine AW.loopN 4 rfl (ι := Nat) (fun i => mkS [(2, V.ptr 32 0), (3, V.ptr 48 0), (5, V.d (.i .i64 (i : Int)))] ([(32, .live (.box 74 [.d (.s a.name), .d (.sl 4 (a.fields.map q03))])), (48, .live (.box 74 [.d (.s b.name), .d (.sl 4 (b.fields.map q03))]))])) (fun i => i ≤ a.fields.length ∧ (a.name = b.name ∧ a.fields.length = b.fields.length) ∧ a.fields.take i = b.fields.take i) (fun i => a.fields.length - i) (0) ?_ ?_ (fun i hi => ?_) <;> (try dsimp only) <;> (try dsimp only at hi))
    | (refine LoopNext.mk1 4 (i + 1) ?_ ?_ ?_ <;> (try dsimp only))
    | (refine q0h ?_; refine subQ ?_)
    | (with_reducible refine And.intro ?_ ?_)
    | (subst hK)
    | exact trivial
  all_goals (try (intros; assumption))
  all_goals (try refine q0v ?_)
  all_goals (try replace hp := q0a hp)
  all_goals (try replace hi := q0a hi)
  all_goals (try (intros; trivial))
  all_goals (try (intros; omega))
  all_goals (try (rw [w64 (by omega) (by omega)]; first | done | omega))
  all_goals clear hC
  all_goals first
    | rfl
    | omega
    | (intro e; subst e; exact h rfl)
    | (intro e; subst e; simp at h; done)
    | (intro e; rw [e] at h; simp at h; done)
    | exact qb9 hi.2.2 (by omega) (by omega)
    | exact qgp hi.2.2 (by omega) (by omega) (by assumption)
    | (simp only [decide_eq_true_eq]; exact qb9 hi.2.2 (by omega) (by omega))
    | exact h.1
    | exact h.1.1.1
    | exact h.1.1.2
    | exact h.1.2
    | exact hi.2.1.1
    | exact hi.2.1.2.1
    | exact hi.2.1.2.2.1
    | exact qqv hi.2.1.1 (qb9 hi.2.2 (by omega) (by omega))
    | exact qow hi.2.1.1 hi.2.1.2.1 hi.2.1.2.2.1 (qb9 hi.2.2 (by omega) (by omega))
    | exact hp.1
    | exact hp.2.1
    | exact fun _ => hp.2.2
    | exact qmb a b
end
noncomputable def cfg98 : Cfg := ⟨Tryz.prog, 53, qz7, (fun _ _ => []), [], (fun _ => none)⟩
theorem qbmp : cfg98.pins = [] ∧ cfg98.P = Tryz.prog ∧ cfg98.N = 53 ∧ cfg98.ti 126 = none ∧ cfg98.T 126 = e126 ∧ cfg98.mv 126 = (fun _ => []) := ⟨rfl, rfl, rfl, rfl, rfl, rfl⟩
section
attribute [local go_sem] qbmp e126
theorem qbwr (hC : COk cfg98) (a : File) (b : File) (hp : a.format.fields.length ≤ 1000000 ∧ a.keys.length ≤ 1000000) : Sem Tryz.prog 98 [.d (qb5 a), .d (qb5 b)] (.d (.b (decide (a = b)))) := by
  refine q0f (C := cfg98) (rs := [.tmp 4]) (fun _ => []) Tryz.func98 rfl rfl rfl rfl rfl rfl ?_
  refine inQ ?_
  repeat' first
    | (with_reducible first | apply q0j | apply q0c | apply AW.seq | apply AW.block)
    | (with_reducible first | (refine AW.runK hC ?_; intro K hK) | (refine AW.drawK hC (by kernel_rfl) ?_; intro K hK))
    | ((with_reducible first | refine q0t ?_ | refine qb2 ?_ | refine q0i ?_); refine siQ ?_; (try simp (disch := omega) only [w64, wu8]))
    | (with_reducible refine qbn (by kernel_rfl) ?_)
    | ((first | (refine AW.cond rfl (fun h => ?_) (fun h => ?_)) | (refine AW.cond_ub rfl (fun h => ?_) ?_) | (refine AW.cond_nb rfl ?_ (fun h => ?_))) <;> (try replace h := q0a h) <;> (try (exfalso; first | omega | exact absurd h (by decide))))
    | (with_reducible first | apply AW.skip | apply AW.exit | apply AW.ret | apply q0k | apply q0l | apply q0d | apply q0e | refine q0b rfl ?_ | apply q0m | apply q0n)
    | (refine AW.loopN 4 rfl (ι := Nat) (fun i => mkS [(2, V.ptr 32 0), (3, V.ptr 48 0), (5, V.d (.i .i64 (i : Int)))] ([(32, .live (.box 77 [.d (.s a.name), .d (.s a.format.name), .d (.sl 4 (a.format.fields.map q03)), .d (.sl 2 (a.keys.map q06)), .d (.b a.unique)])), (48, .live (.box 77 [.d (.s b.name), .d (.s b.format.name), .d (.sl 4 (b.format.fields.map q03)), .d (.sl 2 (b.keys.map q06)), .d (.b b.unique)]))])) (fun i => i ≤ a.keys.length ∧ (a.name = b.name ∧ a.unique = b.unique ∧ a.format = b.format ∧ a.keys.length = b.keys.length) ∧ a.keys.take i = b.keys.take i) (fun i => a.keys.length - i) (0) ?_ ?_ (fun i hi => ?_) <;> (try dsimp only) <;> (try dsimp only at hi))
    | (refine LoopNext.mk1 4 (i + 1) ?_ ?_ ?_ <;> (try dsimp only))
    | (refine q0h ?_; refine subQ ?_)
    | (with_reducible refine And.intro ?_ ?_)
    | (subst hK)
    | exact trivial
  all_goals (try (intros; assumption))
  all_goals (try refine q0v ?_)
  all_goals (try replace hp := q0a hp)
  all_goals (try replace hi := q0a hi)
  all_goals (try (intros; trivial))
  all_goals (try (intros; omega))
  all_goals (try (rw [w64 (by omega) (by omega)]; first | done | omega))
  all_goals clear hC
  all_goals first
    | rfl
    | omega
    | (intro e; subst e; exact h rfl)
    | (intro e; subst e; simp at h; done)
    | (intro e; rw [e] at h; simp at h; done)
    | exact qb9 hi.2.2 (by omega) (by omega)
    | exact qgp hi.2.2 (by omega) (by omega) (by assumption)
    | (simp only [decide_eq_true_eq]; exact qb9 hi.2.2 (by omega) (by omega))
    | exact h.1
    | exact h.1.1.1
    | exact h.1.1.2
    | exact h.1.2
    | exact hi.2.1.1
    | exact hi.2.1.2.1
    | exact hi.2.1.2.2.1
    | exact qqv hi.2.1.1 (qb9 hi.2.2 (by omega) (by omega))
    | exact qow hi.2.1.1 hi.2.1.2.1 hi.2.1.2.2.1 (qb9 hi.2.2 (by omega) (by omega))
    | exact hp.1
    | exact hp.2.1
    | exact fun _ => hp.2.2
    | exact qmb a b
end
noncomputable def cfg78 : Cfg := ⟨Tryz.prog, 17, q6k, (fun _ _ => []), [], (fun _ => none)⟩
theorem qbmq : cfg78.pins = [] ∧ cfg78.P = Tryz.prog ∧ cfg78.N = 17 ∧ cfg78.ti 98 = none ∧ cfg78.T 98 = e98 ∧ cfg78.mv 98 = (fun _ => []) ∧ cfg78.ti 99 = none ∧ cfg78.T 99 = e99 ∧ cfg78.mv 99 = (fun _ => []) := ⟨rfl, rfl, rfl, rfl, rfl, rfl, rfl, rfl, rfl⟩
section
attribute [local go_sem] qbmq e98 e99
theorem qbws (hC : COk cfg78) (a : Table) (b : Table) (hp : okT a) : Sem Tryz.prog 78 [.d (q0g a), .d (q0g b)] (.d (.b (decide (a = b)))) := by
  refine q0f (C := cfg78) (rs := [.tmp 4]) (fun _ => []) Tryz.func78 rfl rfl rfl rfl rfl rfl ?_
  refine inQ ?_
  repeat' first
    | (with_reducible first | apply q0j | apply q0c | apply AW.seq | apply AW.block)
    | (with_reducible refine AW.runK hC ?_; intro K hK)
    | ((with_reducible first | refine q0t ?_ | refine q0i ?_); refine siQ ?_; (try simp (disch := omega) only [w64, wu8]))
    | ((first | (refine AW.cond rfl (fun h => ?_) (fun h => ?_)) | (refine AW.cond_ub rfl (fun h => ?_) ?_) | (refine AW.cond_nb rfl ?_ (fun h => ?_))) <;> (try replace h := q0a h) <;> (try (exfalso; first | omega | exact absurd h (by decide))))
    | (with_reducible first | apply AW.skip | apply AW.exit | apply AW.ret | apply q0k | apply q0l | apply q0d | apply q0e | refine q0b rfl ?_ | apply q0m | apply q0n)
    | (refine q0h ?_; refine subQ ?_)
    | (with_reducible refine And.intro ?_ ?_)
    | (subst hK)
    | exact trivial
  all_goals (try (intros; assumption))
  all_goals (try refine q0v ?_)
  all_goals (try replace hp := q0a hp)
  all_goals (try replace hi := q0a hi)
  all_goals (try (intros; trivial))
  all_goals (try (intros; omega))
  all_goals (try (rw [w64 (by omega) (by omega)]; first | done | omega))
  all_goals clear hC
  all_goals first
    | rfl
    | omega
    | (intro e; subst e; exact h rfl)
    | (intro e; subst e; simp at h; done)
    | (intro e; rw [e] at h; simp at h; done)
    | exact qb9 hi.2.2 (by omega) (by omega)
    | exact qgp hi.2.2 (by omega) (by omega) (by assumption)
    | (simp only [decide_eq_true_eq]; exact qb9 hi.2.2 (by omega) (by omega))
    | exact h.1
    | exact h.1.1.1
    | exact h.1.1.2
    | exact h.1.2
    | exact hi.2.1.1
    | exact hi.2.1.2.1
    | exact hi.2.1.2.2.1
    | exact qqv hi.2.1.1 (qb9 hi.2.2 (by omega) (by omega))
    | exact qow hi.2.1.1 hi.2.1.2.1 hi.2.1.2.2.1 (qb9 hi.2.2 (by omega) (by omega))
    | exact hp.1
    | exact hp.2.1
    | exact fun _ => hp.2.2
    | exact qmb a b
end
noncomputable def cfg64 : Cfg := ⟨Tryz.prog, 7, q6l, (fun _ _ => []), [], (fun _ => none)⟩
theorem qbmr : cfg64.pins = [] ∧ cfg64.P = Tryz.prog ∧ cfg64.N = 7 := ⟨rfl, rfl, rfl⟩
section
attribute [local go_sem] qbmr
theorem qbwt (hC : COk cfg64) (f : Fmt) : Sem Tryz.prog 64 [.d (qbt f)] (.d (.b (decide ((f.fields.length : Int) ≤ 22)))) := by
  refine q0f (C := cfg64) (rs := [.tmp 2]) (fun _ => []) Tryz.func64 rfl rfl rfl rfl rfl rfl ?_
  refine inQ ?_
  repeat' first
    | (with_reducible first | apply q0j | apply q0c | apply AW.seq | apply AW.block)
    | (with_reducible refine AW.runK hC ?_; intro K hK)
    | ((with_reducible first | refine q0t ?_ | refine q0i ?_); refine siQ ?_; (try simp (disch := omega) only [w64, wu8]))
    | ((first | (refine AW.cond rfl (fun h => ?_) (fun h => ?_)) | (refine AW.cond_ub rfl (fun h => ?_) ?_) | (refine AW.cond_nb rfl ?_ (fun h => ?_))) <;> (try replace h := q0a h) <;> (try (exfalso; first | omega | exact absurd h (by decide))))
    | (with_reducible first | apply AW.skip | apply AW.exit | apply AW.ret | apply q0k | apply q0l | apply q0d | apply q0e | refine q0b rfl ?_ | apply q0m | apply q0n)
    | (refine q0h ?_; refine subQ ?_)
    | (with_reducible refine And.intro ?_ ?_)
    | (subst hK)
    | exact trivial
  all_goals (try (intros; assumption))
  all_goals (try refine q0v ?_)
  all_goals (try (intros; trivial))
  all_goals (try (intros; omega))
  all_goals (try (rw [w64 (by omega) (by omega)]; first | done | omega))
end
noncomputable def cfg43 : Cfg := ⟨Tryz.prog, 27, q6m, (fun _ _ => []), [], (fun _ => none)⟩
theorem qbms : cfg43.pins = [] ∧ cfg43.P = Tryz.prog ∧ cfg43.N = 27 ∧ cfg43.ti 78 = none ∧ cfg43.T 78 = e78 ∧ cfg43.mv 78 = (fun _ => []) := ⟨rfl, rfl, rfl, rfl, rfl, rfl⟩
section
attribute [local go_sem] qbms e78
attribute [local go_sem] qcv qcg
theorem qbwu (hC : COk cfg43) (a : List Table) (b : List Table) (hp : okTs a) : Sem Tryz.prog 43 [.d (.sl 6 (a.map q0g)), .d (.sl 6 (b.map q0g))] (.d (.b (decide (a = b)))) := by
  have hB : a.length ≤ 1000000 := hp.1
  refine q0f (C := cfg43) (rs := [.tmp 4]) (fun _ => []) Tryz.func43 rfl rfl rfl rfl rfl rfl ?_
  refine inQ ?_
  repeat' first
    | (with_reducible first | apply q0j | apply q0c | apply AW.seq | apply AW.block)
    | (refine AW.atR 6 rfl ?_; have hga : ∀ z, (a.map q0g).getD i z = q0g (a.getD i q05) := fun z => qgc (by omega) z; have hgb : ∀ z, (b.map q0g).getD i z = q0g (b.getD i q05) := fun z => qgc (by omega) z)
    | (with_reducible first | (refine AWh.runK hC ?_; intro K hK) | (refine AWh.drawK hC (by kernel_rfl) ?_; intro K hK))
    | (with_reducible first | (refine AW.runK hC ?_; intro K hK) | (refine AW.drawK hC (by kernel_rfl) ?_; intro K hK))
    | ((with_reducible first | refine q0t ?_ | refine qb2 ?_ | refine q0i ?_); (first | (simp (maxSteps := 1000000) only [go_sem, ↓reduceIte, reduceCtorEq, Nat.reduceEqDiff, Nat.reduceLT, Nat.reduceLeDiff, Nat.reduceMul, Nat.reduceAdd, Nat.reduceSub, reduceDIte, Nat.reduceBEq, Nat.reduceBNe, hga, hgb]) | (refine siQ ?_)); (try simp (disch := omega) only [w64, wu8]))
    | (with_reducible refine qbn (by kernel_rfl) ?_)
    | ((first | (refine AW.cond rfl (fun h => ?_) (fun h => ?_)) | (refine AW.cond_ub rfl (fun h => ?_) ?_) | (refine AW.cond_nb rfl ?_ (fun h => ?_))) <;> (try replace h := q0a h) <;> (try (exfalso; first | omega | exact absurd h (by decide))))
    | (with_reducible first | apply AW.skip | apply AW.exit | apply AW.ret | apply q0k | apply q0l | apply q0d | apply q0e | refine q0b rfl ?_ | apply q0m | apply q0n)
    | (refine AW.loopN 4 rfl (ι := Nat) (fun i => mkS [(0, V.d (.sl 6 (a.map q0g))), (1, V.d (.sl 6 (b.map q0g))), (5, V.d (.i .i64 (i : Int)))] ([])) (fun i => i ≤ a.length ∧ a.length = b.length ∧ a.take i = b.take i) (fun i => a.length - i) (0) ?_ ?_ (fun i hi => ?_) <;> (try dsimp only) <;> (try dsimp only at hi))
    | (refine LoopNext.mk1 4 (i + 1) ?_ ?_ ?_ <;> (try dsimp only))
    | (refine q0h ?_; refine subQ ?_)
    | (with_reducible refine And.intro ?_ ?_)
    | (subst hK)
    | exact trivial
  all_goals (try (intros; assumption))
  all_goals (try refine q0v ?_)
  all_goals (try replace hp := q0a hp)
  all_goals (try replace hi := q0a hi)
  all_goals (try (intros; trivial))
  all_goals (try (intros; omega))
  all_goals (try (rw [w64 (by omega) (by omega)]; first | done | omega))
  all_goals clear hC
  all_goals first
    | rfl
    | omega
    | (intro e; subst e; exact h rfl)
    | (intro e; subst e; simp at h; done)
    | (intro e; rw [e] at h; simp at h; done)
    | exact qb9 hi.2.2 (by omega) (by omega)
    | exact qgp hi.2.2 (by omega) (by omega) (by assumption)
    | (simp only [decide_eq_true_eq]; exact qb9 hi.2.2 (by omega) (by omega))
    | exact h.1
    | exact h.1.1.1
    | exact h.1.1.2
    | exact h.1.2
    | exact hi.2.1.1
    | exact hi.2.1.2.1
    | exact hi.2.1.2.2.1
    | exact qqv hi.2.1.1 (qb9 hi.2.2 (by omega) (by omega))
    | exact qow hi.2.1.1 hi.2.1.2.1 hi.2.1.2.2.1 (qb9 hi.2.2 (by omega) (by omega))
    | exact (hp.2 i).1
    | exact (hp.2 i).2.1
    | exact (hp.2 i).2.2
    | exact hp.2 i
    | exact hp.1
    | exact hp.2.1
    | exact fun _ => hp.2.2
    | exact qmb a b
end
noncomputable def cfg32 : Cfg := ⟨Tryz.prog, 62, q6p, (fun _ _ => []), [], (fun _ => none)⟩
theorem qbmt : cfg32.pins = [] ∧ cfg32.P = Tryz.prog ∧ cfg32.N = 62 ∧ cfg32.ti 64 = none ∧ cfg32.T 64 = e64 ∧ cfg32.mv 64 = (fun _ => []) := ⟨rfl, rfl, rfl, rfl, rfl, rfl⟩
section
attribute [local go_sem] qbmt e64
attribute [local go_sem] qcv qcg
theorem qbwv (hC : COk cfg32) (l : List Table) : Sem Tryz.prog 32 [.d (.sl 6 (l.map q0g))] (.d (.b (qhz l))) := by
  refine q0f (C := cfg32) (rs := [.tmp 2]) (fun _ => []) Tryz.func32 rfl rfl rfl rfl rfl rfl ?_
  refine inQ ?_
  repeat' first
    | (with_reducible first | apply q0j | apply q0c | apply AW.seq | apply AW.block)
    | (refine AW.atR 6 rfl ?_; have hg : ∀ z, (l.map q0g).getD i z = q0g (l.getD i q05) := fun z => qgc (by omega) z)
    | (with_reducible first | (refine AWh.runK hC ?_; intro K hK) | (refine AWh.drawK hC (by kernel_rfl) ?_; intro K hK))
    | (with_reducible refine AW.runK hC ?_; intro K hK)
    | ((with_reducible first | refine q0t ?_ | refine q0i ?_); (first | (simp (maxSteps := 1000000) only [go_sem, ↓reduceIte, reduceCtorEq, Nat.reduceEqDiff, Nat.reduceLT, Nat.reduceLeDiff, Nat.reduceMul, Nat.reduceAdd, Nat.reduceSub, reduceDIte, Nat.reduceBEq, Nat.reduceBNe, hg]) | (refine siQ ?_)); (try simp (disch := omega) only [w64, wu8]))
    | ((first | (refine AW.cond rfl (fun h => ?_) (fun h => ?_)) | (refine AW.cond_ub rfl (fun h => ?_) ?_) | (refine AW.cond_nb rfl ?_ (fun h => ?_))) <;> (try replace h := q0a h) <;> (try (exfalso; first | omega | exact absurd h (by decide))))
    | (with_reducible first | apply AW.skip | apply AW.exit | apply AW.ret | apply q0k | apply q0l | apply q0d | apply q0e | refine q0b rfl ?_ | apply q0m | apply q0n)
    | (refine AW.loopN 4 rfl (ι := Nat) (fun i => mkS [(0, V.d (.sl 6 (l.map q0g))), (3, V.d (.i .i64 (i : Int)))] ([])) (fun i => i ≤ l.length ∧ (l.length : Int) ≤ 10 ∧ ∀ j, j < i → qhy l j = 0) (fun i => l.length - i) (0) ?_ ?_ (fun i hi => ?_) <;> (try dsimp only) <;> (try dsimp only at hi))
    | (refine LoopNext.mk1 4 (i + 1) ?_ ?_ ?_ <;> (try dsimp only))
    | (refine AW.loopN 9 rfl (ι := Nat) (fun k => mkS [(0, V.d (.sl 6 (l.map q0g))), (3, V.d (.i .i64 (i : Int))), (4, V.d (.i .i64 (k : Int)))] ([])) (fun k => k ≤ (l.getD i q05).records.length ∧ ¬qi1 (l.getD i q05) ∧ ∀ j, j < k → qni (l.getD i q05) j = 0) (fun k => (l.getD i q05).records.length - k) (0) ?_ ?_ (fun k hk => ?_) <;> (try dsimp only) <;> (try dsimp only at hk))
    | (refine LoopNext.mk1 9 (k + 1) ?_ ?_ ?_ <;> (try dsimp only))
    | (refine q0h ?_; refine subQ ?_)
    | (with_reducible refine And.intro ?_ ?_)
    | (subst hK)
    | exact trivial
  all_goals (try (intros; assumption))
  all_goals (try refine q0v ?_)
  all_goals (try replace hi := q0a hi)
  all_goals (try replace hk := q0a hk)
  all_goals (try (intros; trivial))
  all_goals (try (intros; omega))
  all_goals (try (rw [w64 (by omega) (by omega)]; first | done | omega))
  all_goals clear hC
  all_goals first
    | omega
    | rfl
    | (unfold qi1; omega)
    | (rw [qbdu (by assumption)]; done)
    | (rw [q3o hi.2.1 hi.2.2 (by omega) (q2m (by unfold qi1; omega))]; done)
    | (rw [q3o hi.2.1 hi.2.2 (by omega) (q6n hk.2.2 (by omega) (by assumption))]; done)
    | (rw [qbkt hi.2.1 hi.2.2 (by omega)]; done)
    | exact qe3 hk.2.2 (q9g (by assumption))
    | exact qe3 hi.2.2 (q6o hk.2.1 hk.2.2 (by omega))
    | (have := hk.2.1; unfold qi1 at this; omega)
end
end Go.Ev
