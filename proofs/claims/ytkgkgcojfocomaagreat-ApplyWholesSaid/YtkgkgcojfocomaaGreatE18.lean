/- Tools and contracts under the laws of this seat: Dyc71 to Dyc10. -/
import Derived.Test.YtkgkgcojfocomaaGreatE05
import Derived.Test.YtkgkgcojfocomaaGreatE07
import Derived.Test.YtkgkgcojfocomaaGreatE09
set_option linter.unusedVariables false
set_option linter.unusedSimpArgs false
namespace Go.Ev
open Go.Proofs Ty
set_option maxRecDepth 10000
set_option maxHeartbeats 4000000
set_option linter.unusedSimpArgs false
set_option linter.unusedVariables false
attribute [local go_sem] qbe qbg qcb qcy qb6 qda qdn qef Int.toNat_natCast qc9 qd4 qep qcq qcc qbm qb0 decI List.length_map qbf qbl q03 qb4 qc4 qdr qbt qb1 qd9 qe4 q06 qbv qcl qc8 qb5 qcd qds qea qbo qc0 qeb qe5 qbz qbp qcp qc6 qcn qed qc7 qco qee qc5 qcm qec List.length_take qce Int.toNat_zero Nat.sub_zero List.drop_zero q0g q0x qdb qdw q0u q0z q08 qbh qcs qct List.length_set Nat.le_refl
attribute [local go_sem ←] List.map_take List.map_drop
noncomputable def cfg71 : Cfg := ⟨Tryz.prog, 22, q5y, (fun _ _ => []), [], (fun _ => none)⟩
theorem qbl7 : cfg71.pins = [] ∧ cfg71.P = Tryz.prog ∧ cfg71.N = 22 := ⟨rfl, rfl, rfl⟩
section
attribute [local go_sem] qbl7
theorem qbv9 (hC : COk cfg71) (c : Change) : Sem Tryz.prog 71 [.d (q0u c)] (.tup [.d (q0u (qg7 c).1), .d (.i .i64 (qg7 c).2)]) := by
  refine q0f (C := cfg71) (rs := [.cell 2 48, .tmp 3]) (fun _ => []) Tryz.func71 rfl rfl rfl rfl rfl rfl ?_
  refine inQ ?_
  repeat' first
    | (with_reducible first | apply q0j | apply q0c | apply AW.seq | apply AW.block)
    | (with_reducible refine AW.runK hC ?_; intro K hK)
    | ((with_reducible first | refine q0t ?_ | refine q0i ?_); refine siQ ?_; (try simp (disch := omega) only [w64, wu8]))
    | ((first | (refine AW.cond rfl (fun h => ?_) (fun h => ?_)) | (refine AW.cond_ub rfl (fun h => ?_) ?_) | (refine AW.cond_nb rfl ?_ (fun h => ?_))) <;> (try replace h := q0a h) <;> (try (exfalso; first | omega | exact absurd h (by decide))))
    | (with_reducible first | apply AW.skip | apply AW.exit | apply AW.ret | apply q0k | apply q0l | apply q0d | apply q0e | refine q0b rfl ?_ | apply q0m | apply q0n)
    | (refine q0h ?_; refine subQ ?_)
    | (with_reducible refine And.intro ?_ ?_)
    | (subst hK)
    | exact trivial
  all_goals (try (intros; assumption))
  all_goals (try refine q0v ?_)
  all_goals (try (intros; trivial))
  all_goals (try (intros; omega))
  all_goals (try (rw [w64 (by omega) (by omega)]; first | done | omega))
  all_goals clear hC
  all_goals first
    | omega
    | (simp [qg7, qll, qba, *]; done)
    | (simp_all [qg7, qll]; done)
    | (unfold qg7 qll; grind)
end
noncomputable def cfg92 : Cfg := ⟨Tryz.prog, 9, q5z, (fun _ _ => []), [], (fun _ => none)⟩
theorem qbl8 : cfg92.pins = [] ∧ cfg92.P = Tryz.prog ∧ cfg92.N = 9 := ⟨rfl, rfl, rfl⟩
section
attribute [local go_sem] qbl8
attribute [local go_sem] qcv qcg
theorem qbwa (hC : COk cfg92) (t : Table) (n : ByteArray) : Sem Tryz.prog 92 [.d (q0g t), .d (.cp [.s n])] (.d (.b (decide (t.file.name = n)))) := by
  refine q0f (C := cfg92) (rs := [.tmp 3]) (fun _ => []) Tryz.func92 rfl rfl rfl rfl rfl rfl ?_
  refine inQ ?_
  repeat' first
    | (with_reducible first | apply q0j | apply q0c | apply AW.seq | apply AW.block)
    | (with_reducible refine AW.runK hC ?_; intro K hK)
    | ((with_reducible first | refine q0t ?_ | refine q0i ?_); refine siQ ?_; (try simp (disch := omega) only [w64, wu8]))
    | ((first | (refine AW.cond rfl (fun h => ?_) (fun h => ?_)) | (refine AW.cond_ub rfl (fun h => ?_) ?_) | (refine AW.cond_nb rfl ?_ (fun h => ?_))) <;> (try replace h := q0a h) <;> (try (exfalso; first | omega | exact absurd h (by decide))))
    | (with_reducible first | apply AW.skip | apply AW.exit | apply AW.ret | apply q0k | apply q0l | apply q0d | apply q0e | refine q0b rfl ?_ | apply q0m | apply q0n)
    | (refine q0h ?_; refine subQ ?_)
    | (with_reducible refine And.intro ?_ ?_)
    | (subst hK)
    | exact trivial
  all_goals (try (intros; assumption))
  all_goals (try refine q0v ?_)
  all_goals (try (intros; trivial))
  all_goals (try (intros; omega))
  all_goals (try (rw [w64 (by omega) (by omega)]; first | done | omega))
end
noncomputable def cfg91 : Cfg := ⟨Tryz.prog, 19, q53, (fun _ _ => []), [], (fun _ => none)⟩
theorem qbl9 : cfg91.pins = [] ∧ cfg91.P = Tryz.prog ∧ cfg91.N = 19 ∧ cfg91.ti 92 = none ∧ cfg91.T 92 = e92 ∧ cfg91.mv 92 = (fun _ => []) := ⟨rfl, rfl, rfl, rfl, rfl, rfl⟩
section
attribute [local go_sem] qbl9 e92
attribute [local go_sem] qcv qcg
theorem qbwb (hC : COk cfg91) (l : List Table) (n : ByteArray) (hp : l.length ≤ 1000000) : Sem Tryz.prog 91 [.d (.sl 6 (l.map q0g)), .d (.fn 92 [.cp [.s n]])] (.d (.i .i64 (qcw l n))) := by
  refine q0f (C := cfg91) (rs := [.tmp 4]) (fun _ => []) Tryz.func91 rfl rfl rfl rfl rfl rfl ?_
  refine inQ ?_
  repeat' first
    | (with_reducible first | apply q0j | apply q0c | apply AW.seq | apply AW.block)
    | (refine AW.atR 4 rfl ?_; have hg : ∀ z, (l.map q0g).getD i z = q0g (l.getD i q05) := fun z => qgc (by omega) z)
    | (with_reducible first | (refine AWh.runK hC ?_; intro K hK) | (refine AWh.drawK hC (by kernel_rfl) ?_; intro K hK))
    | (with_reducible refine AW.runK hC ?_; intro K hK)
    | ((with_reducible first | refine q0t ?_ | refine q0i ?_); (first | (simp (maxSteps := 1000000) only [go_sem, ↓reduceIte, reduceCtorEq, Nat.reduceEqDiff, Nat.reduceLT, Nat.reduceLeDiff, Nat.reduceMul, Nat.reduceAdd, Nat.reduceSub, reduceDIte, Nat.reduceBEq, Nat.reduceBNe, hg]) | (refine siQ ?_)); (try simp (disch := omega) only [w64, wu8]))
    | ((first | (refine AW.cond rfl (fun h => ?_) (fun h => ?_)) | (refine AW.cond_ub rfl (fun h => ?_) ?_) | (refine AW.cond_nb rfl ?_ (fun h => ?_))) <;> (try replace h := q0a h) <;> (try (exfalso; first | omega | exact absurd h (by decide))))
    | (with_reducible first | apply AW.skip | apply AW.exit | apply AW.ret | apply q0k | apply q0l | apply q0d | apply q0e | refine q0b rfl ?_ | apply q0m | apply q0n)
    | (refine AW.loopN 2 rfl (ι := Nat) (fun i => mkS [(0, V.d (.sl 6 (l.map q0g))), (1, V.d (.fn 92 [.cp [.s n]])), (7, V.d (.i .i64 (l.length : Int))), (8, V.d (.i .i64 (i : Int)))] ([])) (fun i => i ≤ l.length ∧ ∀ j, j < i → qhq l n j = 0) (fun i => l.length - i) (0) ?_ ?_ (fun i hi => ?_) <;> (try dsimp only) <;> (try dsimp only at hi))
    | (refine LoopNext.mk1 2 (i + 1) ?_ ?_ ?_ <;> (try dsimp only))
    | (refine q0h ?_; refine subQ ?_)
    | (with_reducible refine And.intro ?_ ?_)
    | (subst hK)
    | exact trivial
  all_goals (try (intros; assumption))
  all_goals (try refine q0v ?_)
  all_goals (try replace hp := q0a hp)
  all_goals (try replace hi := q0a hi)
  all_goals (try (intros; trivial))
  all_goals (try (intros; omega))
  all_goals (try (rw [w64 (by omega) (by omega)]; first | done | omega))
  all_goals clear hC
  all_goals first
    | omega
    | (rw [qz3 hi.2 (by omega) (by assumption)]; done)
    | (rw [qz4 hi.2 (by omega)]; done)
    | exact qe3 hi.2 (q9a (by assumption))
end
noncomputable def cfg69 : Cfg := ⟨Tryz.prog, 8, q54, (fun _ _ => []), [], (fun _ => none)⟩
theorem qbma : cfg69.pins = [] ∧ cfg69.P = Tryz.prog ∧ cfg69.N = 8 ∧ cfg69.ti 91 = none ∧ cfg69.T 91 = e91 ∧ cfg69.mv 91 = (fun _ => []) ∧ cfg69.ti 92 = none ∧ cfg69.T 92 = e92 ∧ cfg69.mv 92 = (fun _ => []) := ⟨rfl, rfl, rfl, rfl, rfl, rfl, rfl, rfl, rfl⟩
section
attribute [local go_sem] qbma e91 e92
attribute [local go_sem] qcv qcg
theorem qbwc (hC : COk cfg69) (l : List Table) (n : ByteArray) (hp : l.length ≤ 1000000) : Sem Tryz.prog 69 [.d (.sl 6 (l.map q0g)), .d (.s n)] (.d (.i .i64 (qcw l n))) := by
  refine q0f (C := cfg69) (rs := [.tmp 4]) (fun _ => []) Tryz.func69 rfl rfl rfl rfl rfl rfl ?_
  refine inQ ?_
  repeat' first
    | (with_reducible first | apply q0j | apply q0c | apply AW.seq | apply AW.block)
    | (with_reducible refine AW.runK hC ?_; intro K hK)
    | ((with_reducible first | refine q0t ?_ | refine q0i ?_); refine siQ ?_; (try simp (disch := omega) only [w64, wu8]))
    | ((first | (refine AW.cond rfl (fun h => ?_) (fun h => ?_)) | (refine AW.cond_ub rfl (fun h => ?_) ?_) | (refine AW.cond_nb rfl ?_ (fun h => ?_))) <;> (try replace h := q0a h) <;> (try (exfalso; first | omega | exact absurd h (by decide))))
    | (with_reducible first | apply AW.skip | apply AW.exit | apply AW.ret | apply q0k | apply q0l | apply q0d | apply q0e | refine q0b rfl ?_ | apply q0m | apply q0n)
    | (refine q0h ?_; refine subQ ?_)
    | (with_reducible refine And.intro ?_ ?_)
    | (subst hK)
    | exact trivial
  all_goals (try (intros; assumption))
  all_goals (try refine q0v ?_)
  all_goals (try replace hp := q0a hp)
  all_goals (try (intros; trivial))
  all_goals (try (intros; omega))
  all_goals (try (rw [w64 (by omega) (by omega)]; first | done | omega))
end
noncomputable def cfg65 : Cfg := ⟨Tryz.prog, 33, q55, (fun _ _ => []), [], (fun _ => none)⟩
theorem qbmb : cfg65.pins = [] ∧ cfg65.P = Tryz.prog ∧ cfg65.N = 33 ∧ cfg65.ti 69 = none ∧ cfg65.T 69 = e69 ∧ cfg65.mv 69 = (fun _ => []) ∧ cfg65.ti 90 = none ∧ cfg65.T 90 = e90 ∧ cfg65.mv 90 = (fun _ => []) := ⟨rfl, rfl, rfl, rfl, rfl, rfl, rfl, rfl, rfl⟩
section
attribute [local go_sem] qbmb e69 e90
attribute [local go_sem] qcv qcg
theorem qbwd (hC : COk cfg65) (l : List Table) (hp : okTs l) : Sem Tryz.prog 65 [.d (.sl 6 (l.map q0g))] (.d (.i .i64 (qes l))) := by
  refine q0f (C := cfg65) (rs := [.tmp 2]) (fun _ => []) Tryz.func65 rfl rfl rfl rfl rfl rfl ?_
  refine inQ ?_
  repeat' first
    | (with_reducible first | apply q0j | apply q0c | apply AW.seq | apply AW.block)
    | (refine AW.atR 5 rfl ?_; have hg : ∀ z, (l.map q0g).getD i z = q0g (l.getD i q05) := fun z => qgc (by omega) z)
    | (with_reducible first | (refine AWh.runK hC ?_; intro K hK) | (refine AWh.drawK hC (by kernel_rfl) ?_; intro K hK))
    | (with_reducible refine AW.runK hC ?_; intro K hK)
    | ((with_reducible first | refine q0t ?_ | refine q0i ?_); (first | (simp (maxSteps := 1000000) only [go_sem, ↓reduceIte, reduceCtorEq, Nat.reduceEqDiff, Nat.reduceLT, Nat.reduceLeDiff, Nat.reduceMul, Nat.reduceAdd, Nat.reduceSub, reduceDIte, Nat.reduceBEq, Nat.reduceBNe, hg]) | (refine siQ ?_)); (try simp (disch := omega) only [w64, wu8]))
    | ((first | (refine AW.cond rfl (fun h => ?_) (fun h => ?_)) | (refine AW.cond_ub rfl (fun h => ?_) ?_) | (refine AW.cond_nb rfl ?_ (fun h => ?_))) <;> (try replace h := q0a h) <;> (try (exfalso; first | omega | exact absurd h (by decide))))
    | (with_reducible first | apply AW.skip | apply AW.exit | apply AW.ret | apply q0k | apply q0l | apply q0d | apply q0e | refine q0b rfl ?_ | apply q0m | apply q0n)
    | (refine AW.loopN 4 rfl (ι := Nat) (fun i => mkS [(0, V.d (.sl 6 (l.map q0g))), (10, V.d (.sl 6 (l.map q0g))), (11, V.d (.i .i64 (l.length : Int))), (12, V.d (.i .i64 (i : Int)))] ([])) (fun i => i ≤ l.length ∧ l.length ≤ 8 ∧ ∀ j, j < i → tabE l j = 0) (fun i => l.length - i) (0) ?_ ?_ (fun i hi => ?_) <;> (try dsimp only) <;> (try dsimp only at hi))
    | (refine LoopNext.mk1 4 (i + 1) ?_ ?_ ?_ <;> (try dsimp only))
    | (refine q0h ?_; refine subQ ?_)
    | (with_reducible refine And.intro ?_ ?_)
    | (subst hK)
    | exact trivial
  all_goals (try (intros; assumption))
  all_goals (try refine q0v ?_)
  all_goals (try replace hp := q0a hp)
  all_goals (try replace hi := q0a hi)
  all_goals (try (intros; trivial))
  all_goals (try (intros; omega))
  all_goals (try (rw [w64 (by omega) (by omega)]; first | done | omega))
  all_goals clear hC
  all_goals first
    | omega
    | exact hp.1
    | exact hp.2 i
    | exact (hp.2 i).1
    | exact (hp.2 i).2.1
    | exact (hp.2 i).2.2
    | (rw [q9b (by assumption)]; done)
    | (rw [qz5 hi.2.1 hi.2.2 (by omega) (by rw [qpm (by assumption)]; assumption), qpm (by assumption)]; done)
    | (rw [qz5 hi.2.1 hi.2.2 (by omega) (by rw [qpn (by assumption) (by assumption)]; decide), qpn (by assumption) (by assumption)]; done)
    | (rw [qbdq hi.2.1 hi.2.2 (by omega)]; done)
    | exact qe3 hi.2.2 (q3n (by assumption) (by assumption))
end
noncomputable def cfg37 : Cfg := ⟨Tryz.prog, 8, q56, (fun _ _ => []), [], (fun _ => none)⟩
theorem qbmc : cfg37.pins = [] ∧ cfg37.P = Tryz.prog ∧ cfg37.N = 8 := ⟨rfl, rfl, rfl⟩
section
attribute [local go_sem] qbmc
attribute [local go_sem] qcv qcg q0r q0w qb3 qcf qci qdt qdx
theorem qbwe (hC : COk cfg37) (x : Entry) (n : Int) : Sem Tryz.prog 37 [.d (q0r x), .d (.cp [.i .i64 n])] (.d (.b (decide (x.number ≤ n)))) := by
  refine q0f (C := cfg37) (rs := [.tmp 3]) (fun _ => []) Tryz.func37 rfl rfl rfl rfl rfl rfl ?_
  refine inQ ?_
  repeat' first
    | (with_reducible first | apply q0j | apply q0c | apply AW.seq | apply AW.block)
    | (with_reducible refine AW.runK hC ?_; intro K hK)
    | ((with_reducible first | refine q0t ?_ | refine q0i ?_); refine siQ ?_; (try simp (disch := omega) only [w64, wu8]))
    | ((first | (refine AW.cond rfl (fun h => ?_) (fun h => ?_)) | (refine AW.cond_ub rfl (fun h => ?_) ?_) | (refine AW.cond_nb rfl ?_ (fun h => ?_))) <;> (try replace h := q0a h) <;> (try (exfalso; first | omega | exact absurd h (by decide))))
    | (with_reducible first | apply AW.skip | apply AW.exit | apply AW.ret | apply q0k | apply q0l | apply q0d | apply q0e | refine q0b rfl ?_ | apply q0m | apply q0n)
    | (refine q0h ?_; refine subQ ?_)
    | (with_reducible refine And.intro ?_ ?_)
    | (subst hK)
    | exact trivial
  all_goals (try (intros; assumption))
  all_goals (try refine q0v ?_)
  all_goals (try (intros; trivial))
  all_goals (try (intros; omega))
  all_goals (try (rw [w64 (by omega) (by omega)]; first | done | omega))
end
noncomputable def cfg44 : Cfg := ⟨Tryz.prog, 8, q57, (fun _ _ => []), [], (fun _ => none)⟩
theorem qbmd : cfg44.pins = [] ∧ cfg44.P = Tryz.prog ∧ cfg44.N = 8 := ⟨rfl, rfl, rfl⟩
section
attribute [local go_sem] qbmd
attribute [local go_sem] qcv qcg q0r q0w qb3 qcf qci qdt qdx
theorem qbwf (hC : COk cfg44) (x : Entry) (n : Int) : Sem Tryz.prog 44 [.d (q0r x), .d (.cp [.i .i64 n])] (.d (.b (decide (n ≤ x.number)))) := by
  refine q0f (C := cfg44) (rs := [.tmp 3]) (fun _ => []) Tryz.func44 rfl rfl rfl rfl rfl rfl ?_
  refine inQ ?_
  repeat' first
    | (with_reducible first | apply q0j | apply q0c | apply AW.seq | apply AW.block)
    | (with_reducible refine AW.runK hC ?_; intro K hK)
    | ((with_reducible first | refine q0t ?_ | refine q0i ?_); refine siQ ?_; (try simp (disch := omega) only [w64, wu8]))
    | ((first | (refine AW.cond rfl (fun h => ?_) (fun h => ?_)) | (refine AW.cond_ub rfl (fun h => ?_) ?_) | (refine AW.cond_nb rfl ?_ (fun h => ?_))) <;> (try replace h := q0a h) <;> (try (exfalso; first | omega | exact absurd h (by decide))))
    | (with_reducible first | apply AW.skip | apply AW.exit | apply AW.ret | apply q0k | apply q0l | apply q0d | apply q0e | refine q0b rfl ?_ | apply q0m | apply q0n)
    | (refine q0h ?_; refine subQ ?_)
    | (with_reducible refine And.intro ?_ ?_)
    | (subst hK)
    | exact trivial
  all_goals (try (intros; assumption))
  all_goals (try refine q0v ?_)
  all_goals (try (intros; trivial))
  all_goals (try (intros; omega))
  all_goals (try (rw [w64 (by omega) (by omega)]; first | done | omega))
end
noncomputable def cfg34 : Cfg := ⟨Tryz.prog, 23, q58, (fun _ _ => []), [], (fun _ => none)⟩
theorem qbme : cfg34.pins = [] ∧ cfg34.P = Tryz.prog ∧ cfg34.N = 23 ∧ cfg34.ti 61 = none ∧ cfg34.T 61 = e61 ∧ cfg34.mv 61 = (fun _ => []) ∧ cfg34.ti 65 = none ∧ cfg34.T 65 = e65 ∧ cfg34.mv 65 = (fun _ => []) := ⟨rfl, rfl, rfl, rfl, rfl, rfl, rfl, rfl, rfl⟩
section
attribute [local go_sem] qbme e61 e65
attribute [local go_sem] qcv qcg q0r q0w qb3 qcf qci qdt qdx
theorem qbwg (hC : COk cfg34) (ts : List Table) (l : List Entry) (hp : okTs ts ∧ l.length ≤ 1000000) : Sem Tryz.prog 34 [.d (.sl 6 (ts.map q0g)), .d (.sl 8 (l.map q0r))] (.tup [.d (.mp ((chkL ts l).map keyU) ((chkL ts l).map fun u => .cp (qdf u))), .d (.i .i64 (chkE ts l))]) := by
  refine q0f (C := cfg34) (rs := [.tmp 4, .tmp 5]) (fun _ => []) Tryz.func34 rfl rfl rfl rfl rfl rfl ?_
  refine inQ ?_
  repeat' first
    | (with_reducible first | apply q0j | apply q0c | apply AW.seq | apply AW.block)
    | (with_reducible refine AW.runK hC ?_; intro K hK)
    | ((with_reducible first | refine q0t ?_ | refine q0i ?_); refine siQ ?_; (try simp (disch := omega) only [w64, wu8]))
    | ((first | (refine AW.cond rfl (fun h => ?_) (fun h => ?_)) | (refine AW.cond_ub rfl (fun h => ?_) ?_) | (refine AW.cond_nb rfl ?_ (fun h => ?_))) <;> (try replace h := q0a h) <;> (try (exfalso; first | omega | exact absurd h (by decide))))
    | (with_reducible first | apply AW.skip | apply AW.exit | apply AW.ret | apply q0k | apply q0l | apply q0d | apply q0e | refine q0b rfl ?_ | apply q0m | apply q0n)
    | (refine q0h ?_; refine subQ ?_)
    | (with_reducible refine And.intro ?_ ?_)
    | (subst hK)
    | exact trivial
  all_goals (try (intros; assumption))
  all_goals (try refine q0v ?_)
  all_goals (try replace hp := q0a hp)
  all_goals (try (intros; trivial))
  all_goals (try (intros; omega))
  all_goals (try (rw [w64 (by omega) (by omega)]; first | done | omega))
  all_goals clear hC
  all_goals first
    | omega
    | exact hp.1
    | exact hp.2
    | (rw [(qrm (by assumption)).1]; exact q0p _)
    | (rw [(qrm (by assumption)).1]; rfl)
    | (rw [(qrm (by assumption)).2]; done)
    | (rw [(qlm (by assumption)).1]; exact q0p _)
    | (rw [(qlm (by assumption)).2]; done)
    | (rw [(qlm (by assumption)).1]; done)
end
noncomputable def cfg72 : Cfg := ⟨Tryz.prog, 28, (fun _ _ => none), (fun _ _ => []), [0], (fun _ => none)⟩
theorem qbmf : cfg72.pins = [0] ∧ cfg72.P = Tryz.prog ∧ cfg72.N = 28 := ⟨rfl, rfl, rfl⟩
section
attribute [local go_sem] qbmf
attribute [local go_sem] qd7
theorem qbwh (hC : COk cfg72)  (l : List Change) (hp : l.length ≤ 1000000) : SemJ Tryz.prog 72 48 5 (l.map q0u) (l.reverse.map q0u) := by
  refine q6a (C := cfg72) Tryz.func72 rfl rfl (by decide) rfl rfl (qou l) (qou _) (by simp) ?_
  simp only [qjd, qlc, qgs, inO, inO2, inO1, inOs, List.append_nil, List.nil_append, Nat.mul_zero, List.cons_append, Nat.zero_add, Nat.reduceAdd, Nat.reduceMul, qbe, qbg, qcb, qcy, qb6, qda, qdn, qef, Int.toNat_natCast, qc9, qd4, qep, qcq, qcc, qbm, qb0, decI, List.length_map, nc0, qbf, qbl, q03, qb4, qc4, qdr, qbt, qb1, qd9, qe4, q06, qbv, qcl, qc8, qb5, qcd, qds, qea, qbo, qc0, qeb, qe5, qbz, qbp, qcp, qc6, qcn, qed, qc7, qco, qee, qc5, qcm, qec, ← List.map_take, ← List.map_drop, List.length_take, qce, Int.toNat_zero, Nat.sub_zero, List.drop_zero, q0g, q0x, qdb, qdw, q0u, q0z, q08, qbh, qcs, qct, List.length_set, Nat.le_refl, qd7]
  repeat' first
    | (with_reducible first | apply q0j | apply q0c | apply AW.seq | apply AW.block)
    | (refine AW.atR 3 rfl ?_; have hj : ((l.length : Int) - 1 - (i : Int)).toNat = l.length - 1 - i := (by omega); have hl := qkq l qba i; have hs := qbdt (l := l) (i := i) (by omega) (by omega))
    | (with_reducible first | (refine AWh.runK hC ?_; intro K hK) | (refine AWh.drawK hC (by kernel_rfl) ?_; intro K hK))
    | (with_reducible first | (refine AW.runK hC ?_; intro K hK) | (refine AW.drawK hC (by kernel_rfl) ?_; intro K hK))
    | ((with_reducible first | refine q0t ?_ | refine qb2 ?_ | refine q0i ?_); (first | (simp (maxSteps := 1000000) only [go_sem, ↓reduceIte, reduceCtorEq, Nat.reduceEqDiff, Nat.reduceLT, Nat.reduceLeDiff, Nat.reduceMul, Nat.reduceAdd, Nat.reduceSub, reduceDIte, Nat.reduceBEq, Nat.reduceBNe, hj, hl, hs]) | (refine siQ ?_)); (try simp (disch := omega) only [w64, wu8]))
    | (with_reducible refine qbn (by kernel_rfl) ?_)
    | ((first | (refine AW.cond rfl (fun h => ?_) (fun h => ?_)) | (refine AW.cond_ub rfl (fun h => ?_) ?_) | (refine AW.cond_nb rfl ?_ (fun h => ?_))) <;> (try replace h := q0a h) <;> (try (exfalso; first | omega | exact absurd h (by decide))))
    | (with_reducible first | apply AW.skip | apply AW.exit | apply AW.ret | apply q0k | apply q0l | apply q0d | apply q0e | refine q0b rfl ?_ | apply q0m | apply q0n)
    | (refine AW.loopN 1 rfl (ι := Nat) (fun i => mkS [(0, V.row 0 5 0 l.length), (2, V.d (.i .i64 (i : Int))), (3, V.d (.i .i64 ((l.length : Int) - 1 - (i : Int))))] ([(0, .live (.row 48 5 false ((qis l qba i).map q0u)))])) (fun i => 2 * i ≤ l.length) (fun i => l.length - 2 * i) (0) ?_ ?_ (fun i hi => ?_) <;> (try dsimp only) <;> (try dsimp only at hi))
    | (refine LoopNext.mk1 1 (i + 1) ?_ ?_ ?_ <;> (try dsimp only))
    | (refine q0h ?_; refine subQ ?_)
    | (with_reducible refine And.intro ?_ ?_)
    | (subst hK)
    | exact trivial
  all_goals (try (intros; assumption))
  all_goals (try refine q0v ?_)
  all_goals (try replace hp := q0a hp)
  all_goals (try replace hi := q0a hi)
  all_goals (try replace hj := q0a hj)
  all_goals (try (intros; trivial))
  all_goals (try (intros; omega))
  all_goals (try (rw [w64 (by omega) (by omega)]; first | done | omega))
  all_goals (try have hl := qkq l qba i)
  all_goals first
    | omega
    | exact .inl trivial
    | exact .inl rfl
    | exact .inr rfl
    | exact q0p _
    | exact qjt q51
    | exact ⟨false, by rw [← q9f l qba hi (by omega)]; rfl⟩
end
theorem qbg8 (l : List Change) (h : l.length ≤ 1000000) : SemJ Tryz.prog 72 48 5 (l.map q0u) (l.reverse.map q0u) := qbwh (q0s (TabOk.nil _) follows) l h
noncomputable def cfg36 : Cfg := ⟨Tryz.prog, 43, q59, (fun _ _ => []), [], (fun _ => none)⟩
theorem qbmg : cfg36.pins = [] ∧ cfg36.P = Tryz.prog ∧ cfg36.N = 43 ∧ cfg36.ti 71 = none ∧ cfg36.T 71 = e71 ∧ cfg36.mv 71 = (fun _ => []) ∧ cfg36.ti 72 = none ∧ cfg36.ti 37 = none ∧ cfg36.T 37 = e37 ∧ cfg36.mv 37 = (fun _ => []) ∧ cfg36.ti 44 = none ∧ cfg36.T 44 = e44 ∧ cfg36.mv 44 = (fun _ => []) := ⟨rfl, rfl, rfl, rfl, rfl, rfl, rfl, rfl, rfl, rfl, rfl, rfl, rfl⟩
section
attribute [local go_sem] qbmg e71 e37 e44
attribute [local go_sem] qcv qcg q0r q0w qb3 qcf qci qdt qdx qm2 List.length_reverse
theorem qbwi (hC : COk cfg36) (l : List Entry) (back : Bool) (w : Want) (hp : l.length ≤ 1000000) : Sem Tryz.prog 36 [.d (.sl 8 (l.map q0r)), .d (.b back), .d (qm2 w)] (.d (.sl 5 ((qff w back l).map q0u))) := by
  refine q0f (C := cfg36) (rs := [.tmp 6]) (fun _ => []) Tryz.func36 rfl rfl rfl rfl rfl rfl ?_
  refine inQ ?_
  repeat' first
    | (refine AW.turnJ (id := 112) (qbg8 (qe8 w back (l.take i)) (by have := qnh (w := w) (back := back) (l := l) (i := i); omega)) ⟨_, Tryz.func72, rfl, rfl⟩ (qou _) (by simp) (qou _) rfl rfl rfl rfl rfl rfl (by show _ < 43; decide) (by rw [List.length_map]; rfl) rfl rfl rfl ?_)
    | (with_reducible first | apply q0j | apply q0c | apply AW.seq | apply AW.block)
    | (refine AW.atR 5 rfl ?_; obtain ⟨up, n⟩ := w; cases up)
    | (with_reducible first | (refine AWh.runK hC ?_; intro K hK) | (refine AWh.drawK hC (by kernel_rfl) ?_; intro K hK))
    | (with_reducible refine AW.runK hC ?_; intro K hK)
    | ((with_reducible first | refine q0t ?_ | refine q0i ?_); refine siQ ?_; (try simp (disch := omega) only [w64, wu8]))
    | ((first | (refine AW.cond rfl (fun h => ?_) (fun h => ?_)) | (refine AW.cond_ub rfl (fun h => ?_) ?_) | (refine AW.cond_nb rfl ?_ (fun h => ?_))) <;> (try replace h := q0a h) <;> (try (exfalso; first | omega | exact absurd h (by decide))))
    | (with_reducible first | apply AW.skip | apply AW.exit | apply AW.ret | apply q0k | apply q0l | apply q0d | apply q0e | refine q0b rfl ?_ | apply q0m | apply q0n)
    | (refine AW.loopN 3 rfl (ι := Nat) (fun i => mkS [(1, V.d (.b back)), (2, V.d (qm2 w)), (7, V.row 112 5 0 (qe8 w back (l.take i)).length), (11, V.d (.sl 8 (l.map q0r))), (12, V.d (.i .i64 (l.length : Int))), (13, V.d (.i .i64 (i : Int)))] ([(112, .live (.row 48 5 false ((qe8 w back (l.take i)).map q0u)))])) (fun i => i ≤ l.length) (fun i => l.length - i) (0) ?_ ?_ (fun i hi => ?_) <;> (try dsimp only) <;> (try dsimp only at hi))
    | (refine LoopNext.mk1 3 (i + 1) ?_ ?_ ?_ <;> (try dsimp only))
    | (refine q0h ?_; refine subQ ?_)
    | (with_reducible refine And.intro ?_ ?_)
    | (subst hK)
    | exact trivial
  all_goals (try (intros; assumption))
  all_goals (try refine q0v ?_)
  all_goals (try replace hp := q0a hp)
  all_goals (try replace hi := q0a hi)
  all_goals (try (intros; trivial))
  all_goals (try (intros; omega))
  all_goals (try (rw [w64 (by omega) (by omega)]; first | done | omega))
  all_goals clear hC
  all_goals first
    | omega
    | (intro d hd; subst hd; exact ⟨rfl, by simp [D.cells, D.one]⟩)
    | (have := qnh (w := ⟨true, n⟩) (back := back) (l := l) (i := i); omega)
    | (have := qnh (w := ⟨false, n⟩) (back := back) (l := l) (i := i); omega)
    | exact q0p _
    | (rw [qos (by omega) (by rw [qke]; omega)]; done)
    | (rw [qos (by omega) (by rw [qke]; omega)]; exact q0p _)
    | (subst h; rw [qln (by omega) (by rw [qke]; omega), List.length_append]; rfl)
    | (subst h; rw [qln (by omega) (by rw [qke]; omega), List.map_append]; exact q0p _)
    | (rw [qos (by omega) (by rw [qkf]; omega)]; done)
    | (rw [qos (by omega) (by rw [qkf]; omega)]; exact q0p _)
    | (subst h; rw [qln (by omega) (by rw [qkf]; omega), List.length_append]; rfl)
    | (subst h; rw [qln (by omega) (by rw [qkf]; omega), List.map_append]; exact q0p _)
    | (subst h; rw [qws (by omega)]; exact q0p _)
    | (subst h; rw [qwt (by omega)]; exact q0p _)
    | (subst h; rw [q50 (by omega)]; exact q0p _)
end
noncomputable def cfg35 : Cfg := ⟨Tryz.prog, 78, q6b, (fun _ _ => []), [], (fun _ => none)⟩
theorem qbmh : cfg35.pins = [] ∧ cfg35.P = Tryz.prog ∧ cfg35.N = 78 ∧ cfg35.ti 66 = none ∧ cfg35.T 66 = e66 ∧ cfg35.mv 66 = (fun _ => []) ∧ cfg35.ti 67 = none ∧ cfg35.T 67 = e67 ∧ cfg35.mv 67 = (fun _ => []) ∧ cfg35.ti 68 = none ∧ cfg35.T 68 = e68 ∧ cfg35.mv 68 = (fun _ => []) ∧ cfg35.ti 69 = none ∧ cfg35.T 69 = e69 ∧ cfg35.mv 69 = (fun _ => []) ∧ cfg35.ti 70 = none ∧ cfg35.T 70 = e70 ∧ cfg35.mv 70 = (fun _ => []) := ⟨rfl, rfl, rfl, rfl, rfl, rfl, rfl, rfl, rfl, rfl, rfl, rfl, rfl, rfl, rfl, rfl, rfl, rfl⟩
section
attribute [local go_sem] qbmh e66 e67 e68 e69 e70
attribute [local go_sem] qcv qcg qd7 List.take_length
theorem qbwj (hC : COk cfg35) (ts : List Table) (cs : List Change) (hp : okTs ts ∧ cs.length ≤ 1000000) : Sem Tryz.prog 35 [.d (.sl 6 (ts.map q0g)), .d (.sl 5 (cs.map q0u))] (.tup [.d (.sl 6 ((qcu ts cs).1.map q0g)), .d (.i .i64 (qcu ts cs).2.1), .d (.i .i64 (qcu ts cs).2.2)]) := by
  have hB : ts.length ≤ 1000000 := hp.1.1
  refine q0f (C := cfg35) (rs := [.tmp 4, .tmp 5, .tmp 6]) (fun _ => []) Tryz.func35 rfl rfl rfl rfl rfl rfl ?_
  refine inQ ?_
  repeat' first
    | (with_reducible first | apply q0j | apply q0c | apply AW.seq | apply AW.block)
    | (refine AW.atR 4 rfl ?_; have hg : ∀ z, (ts.map q0g).getD i z = q0g (ts.getD i q05) := fun z => qgc (by omega) z)
    | (refine AW.atR 8 rfl ?_; refine AWh.mk ?_; refine AW.frzBox 144 [.s (ts.getD i q05).file.name, .s (ts.getD i q05).file.format.name, .sl 4 ((ts.getD i q05).file.format.fields.map q03), .sl 2 ((ts.getD i q05).file.keys.map q06), .b (ts.getD i q05).file.unique, .sl 2 ((ts.getD i q05).records.map qbo)] [416, 528, 608] rfl (by simp (maxSteps := 1000000) only [toDs, toD1, go_sem, ↓reduceIte, reduceCtorEq, Nat.reduceEqDiff, Nat.reduceLT, Nat.reduceLeDiff, Nat.reduceMul, Nat.reduceAdd, Nat.reduceSub, reduceDIte, Nat.reduceBEq, Nat.reduceBNe, qbe, qbg, qcb, qcy, qb6, qda, qdn, qef, Int.toNat_natCast, qc9, qd4, qep, qcq, qcc, qbm, qb0, decI, List.length_map, nc0, qbf, qbl, q03, qb4, qc4, qdr, qbt, qb1, qd9, qe4, q06, qbv, qcl, qc8, qb5, qcd, qds, qea, qbo, qc0, qeb, qe5, qbz, qbp, qcp, qc6, qcn, qed, qc7, qco, qee, qc5, qcm, qec, ← List.map_take, ← List.map_drop, List.length_take, qce, Int.toNat_zero, Nat.sub_zero, List.drop_zero, q0g, q0x, qdb, qdw, q0u, q0z, q08, qbh, qcs, qct, List.length_set, Nat.le_refl, qcv, qcg, q0r, q0w, qb3, qcf, qci, qdt, qdx]) rfl rfl ?_; simp only [frzL, HS.frz, List.map_cons, List.map_nil, List.contains_cons, List.contains_nil, List.elem_cons, List.elem_nil, Nat.reduceEqDiff, Nat.reduceBEq, Bool.or_false, Bool.false_or, Bool.or_true, Bool.true_or, ↓reduceIte, Bool.false_eq_true]; refine AW.atR 8 rfl ?_)
    | (refine AW.atR 16 rfl ?_; have hb := qlo (mTo ts cs k).1 (cs.getD k qba).file; have hg : ∀ z, ((mTo ts cs k).1.map q0g).getD (qcw (mTo ts cs k).1 (cs.getD k qba).file).toNat z = q0g ((mTo ts cs k).1.getD (qcw (mTo ts cs k).1 (cs.getD k qba).file).toNat q05) := fun z => qgc (by omega) z)
    | (with_reducible first | (refine AWh.runK hC ?_; intro K hK) | (refine AWh.drawK hC (by kernel_rfl) ?_; intro K hK))
    | (with_reducible first | (refine AW.runK hC ?_; intro K hK) | (refine AW.drawK hC (by kernel_rfl) ?_; intro K hK))
    | ((with_reducible first | refine q0t ?_ | refine qb2 ?_ | refine q0i ?_); (first | (simp (maxSteps := 1000000) only [go_sem, ↓reduceIte, reduceCtorEq, Nat.reduceEqDiff, Nat.reduceLT, Nat.reduceLeDiff, Nat.reduceMul, Nat.reduceAdd, Nat.reduceSub, reduceDIte, Nat.reduceBEq, Nat.reduceBNe, hg]) | (refine siQ ?_)); (try simp (disch := omega) only [w64, wu8]))
    | (with_reducible refine qbn (by kernel_rfl) ?_)
    | ((first | (refine AW.cond rfl (fun h => ?_) (fun h => ?_)) | (refine AW.cond_ub rfl (fun h => ?_) ?_) | (refine AW.cond_nb rfl ?_ (fun h => ?_))) <;> (try replace h := q0a h) <;> (try (exfalso; first | omega | exact absurd h (by decide))))
    | (with_reducible first | apply AW.skip | apply AW.exit | apply AW.ret | apply q0k | apply q0l | apply q0d | apply q0e | refine q0b rfl ?_ | apply q0m | apply q0n)
    | (refine AW.loopN 3 rfl (ι := Nat) (fun i => mkS [(1, V.d (.sl 5 (cs.map q0u))), (7, V.row 112 6 0 (ts.take i).length), (16, V.d (.sl 6 (ts.map q0g))), (17, V.d (.i .i64 (ts.length : Int))), (18, V.d (.i .i64 (i : Int)))] ([(112, .live (.row 80 6 false ((ts.take i).map q0g)))])) (fun i => i ≤ ts.length) (fun i => ts.length - i) (0) ?_ ?_ (fun i hi => ?_) <;> (try dsimp only) <;> (try dsimp only at hi))
    | (refine LoopNext.mk1 3 (i + 1) ?_ ?_ ?_ <;> (try dsimp only))
    | (refine AW.loopN 12 rfl (ι := Nat) (fun k => mkS [(7, V.row 112 6 0 (mTo ts cs k).1.length), (10, V.d (.i .i64 (mTo ts cs k).2)), (45, V.d (.sl 5 (cs.map q0u))), (46, V.d (.i .i64 (cs.length : Int))), (47, V.d (.i .i64 (k : Int)))] ([(112, .live (.row 80 6 false ((mTo ts cs k).1.map q0g)))])) (fun k => k ≤ cs.length ∧ ∀ j, j < k → mErr ts cs j = 0) (fun k => cs.length - k) (0) ?_ ?_ (fun k hk => ?_) <;> (try dsimp only) <;> (try dsimp only at hk))
    | (refine LoopNext.mk1 12 (k + 1) ?_ ?_ ?_ <;> (try dsimp only))
    | (refine q0h ?_; refine subQ ?_)
    | (with_reducible refine And.intro ?_ ?_)
    | (subst hK)
    | exact trivial
  all_goals (try (intros; assumption))
  all_goals (try refine q0v ?_)
  all_goals (try replace hp := q0a hp)
  all_goals (try replace hi := q0a hi)
  all_goals (try replace hk := q0a hk)
  all_goals (try (intros; trivial))
  all_goals (try (intros; omega))
  all_goals (try (rw [w64 (by omega) (by omega)]; first | done | omega))
  all_goals clear hC
  all_goals (try have OK := qt5 (cs := cs) hp.1 hk.2)
  all_goals (try have CN := qrn ts cs k)
  all_goals (try have LN := qlp ts cs k)
  all_goals (try simp only [qsc] at *)
  all_goals first
    | omega
    | exact (hp.1.2 i).1
    | exact (hp.1.2 i).2.1
    | exact (hp.1.2 i).2.2
    | exact hp.1.1
    | exact OK.1
    | exact (OK.2 _).1
    | exact (OK.2 _).2.1
    | exact (OK.2 _).2.2
    | (rw [List.take_of_length_le (by omega)]; exact q0p _)
    | (rw [List.take_take, List.take_of_length_le (by omega)]; exact q0p _)
    | (rw [qdy q05 (by omega), List.map_append]; exact q0p _)
    | (intro d hd; subst hd; exact ⟨rfl, by simp [D.cells, D.one]⟩)
    | (rw [qpo hk.2 (by omega) (by rw [qot (by omega)]; assumption)]; done)
    | (rw [qpo hk.2 (by omega) (by rw [qot (by omega)]; assumption)]; rfl)
    | (rw [qpo hk.2 (by omega) (by rw [qot (by omega)]; assumption), qot (by omega)]; done)
    | exact qe3 hk.2 (q9e (by omega))
    | exact qe3 hk.2 (by rw [qot (by omega)]; assumption)
    | (have L0 := qlp ts cs 0; have L1 := qlp ts cs (k + 1); omega)
    | (have L0 := qlp ts cs 0; omega)
    | (rw [qz6 (by omega)]; done)
    | (rw [qz6 (by omega)]; exact q0p _)
    | (rw [qqt (by omega)]; done)
    | (rw [qqt (by omega), w64 (by omega) (by omega)]; done)
    | (rw [qqt (by omega), w64 (by omega) (by omega)]; rfl)
    | (rw [qqt (by omega), List.map_set]; exact q0p _)
    | (rw [qhx (by assumption), qqt (by omega), List.map_set]; exact q0p _)
    | (rw [qsr hk.2 (by omega)]; done)
    | (rw [qsr hk.2 (by omega)]; exact q0p _)
end
noncomputable def cfg10 : Cfg := ⟨Tryz.prog, 53, q6c, (fun _ _ => []), [], (fun _ => none)⟩
theorem qbmi : cfg10.pins = [] ∧ cfg10.P = Tryz.prog ∧ cfg10.N = 53 ∧ cfg10.ti 34 = none ∧ cfg10.T 34 = e34 ∧ cfg10.mv 34 = (fun _ => []) ∧ cfg10.ti 35 = none ∧ cfg10.T 35 = e35 ∧ cfg10.mv 35 = (fun _ => []) ∧ cfg10.ti 36 = none ∧ cfg10.T 36 = e36 ∧ cfg10.mv 36 = (fun _ => []) ∧ cfg10.ti 37 = none ∧ cfg10.T 37 = e37 ∧ cfg10.mv 37 = (fun _ => []) := ⟨rfl, rfl, rfl, rfl, rfl, rfl, rfl, rfl, rfl, rfl, rfl, rfl, rfl, rfl, rfl⟩
section
attribute [local go_sem] qbmi e34 e35 e36 e37
attribute [local go_sem] qcv qcg q0r q0w qb3 qcf qci qdt qdx qm2 qov
theorem qbwk (hC : COk cfg10) (ts : List Table) (l : List Entry) (n : Int) (hp : okTs ts ∧ l.length ≤ 1000000) : Sem Tryz.prog 10 [.d (.sl 6 (ts.map q0g)), .d (.sl 8 (l.map q0r)), .d (.i .i64 n)] (.tup [.d (.sl 6 ((qf5 ts l n).1.map q0g)), .d (.i .i64 (qf5 ts l n).2.1), .d (.i .i64 (qf5 ts l n).2.2)]) := by
  refine q0f (C := cfg10) (rs := [.tmp 6, .tmp 7, .tmp 8]) (fun _ => []) Tryz.func10 rfl rfl rfl rfl rfl rfl ?_
  refine inQ ?_
  repeat' first
    | (with_reducible first | apply q0j | apply q0c | apply AW.seq | apply AW.block)
    | (refine AW.atR 6 rfl ?_; have hq := (qfj (ts := ts) (l := l) (by assumption)).2; have h0 := qkr hq (j := 0) (by omega); have h1 := qkr hq (j := l.length - 1) (by omega); have hj : ((l.length : Int) - 1).toNat = l.length - 1 := (by omega))
    | (with_reducible first | (refine AWh.runK hC ?_; intro K hK) | (refine AWh.drawK hC (by kernel_rfl) ?_; intro K hK))
    | (with_reducible first | (refine AW.runK hC ?_; intro K hK) | (refine AW.drawK hC (by kernel_rfl) ?_; intro K hK))
    | ((with_reducible first | refine q0t ?_ | refine qb2 ?_ | refine q0i ?_); (first | (simp (maxSteps := 1000000) only [go_sem, ↓reduceIte, reduceCtorEq, Nat.reduceEqDiff, Nat.reduceLT, Nat.reduceLeDiff, Nat.reduceMul, Nat.reduceAdd, Nat.reduceSub, reduceDIte, Nat.reduceBEq, Nat.reduceBNe, hj]) | (refine siQ ?_)); (try simp (disch := omega) only [w64, wu8]))
    | (with_reducible refine qbn (by kernel_rfl) ?_)
    | ((first | (refine AW.cond rfl (fun h => ?_) (fun h => ?_)) | (refine AW.cond_ub rfl (fun h => ?_) ?_) | (refine AW.cond_nb rfl ?_ (fun h => ?_))) <;> (try replace h := q0a h) <;> (try (exfalso; first | omega | exact absurd h (by decide))))
    | (with_reducible first | apply AW.skip | apply AW.exit | apply AW.ret | apply q0k | apply q0l | apply q0d | apply q0e | refine q0b rfl ?_ | apply q0m | apply q0n)
    | (refine q0h ?_; refine subQ ?_)
    | (with_reducible refine And.intro ?_ ?_)
    | (subst hK)
    | exact trivial
  all_goals (try (intros; assumption))
  all_goals (try refine q0v ?_)
  all_goals (try replace hp := q0a hp)
  all_goals (try replace hj := q0a hj)
  all_goals (try (intros; trivial))
  all_goals (try (intros; omega))
  all_goals (try (rw [w64 (by omega) (by omega)]; first | done | omega))
  all_goals clear hC
  all_goals (try have ES := qww (l := l) (by omega))
  all_goals (try have EN := qwx (l := l) (by omega))
  all_goals first
    | omega
    | exact hp.1
    | exact hp.2
    | exact hp.1.1
    | (rw [qn3 (by assumption)]; done)
    | (rw [qn3 (by assumption)]; rfl)
    | (rw [qn3 (by assumption)]; exact q0p _)
    | (rw [qn4 (by assumption) (by omega)]; done)
    | (rw [qn4 (by assumption) (by omega)]; rfl)
    | (rw [qn4 (by assumption) (by omega)]; exact q0p _)
    | (rw [qss (by assumption) (by omega)]; done)
    | (rw [qss (by assumption) (by omega)]; exact q0p _)
    | (have := qlz ⟨true, n⟩ false l; omega)
    | (have := qlz ⟨false, n⟩ true l; omega)
end
end Go.Ev
