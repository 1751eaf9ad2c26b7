/- Tools and contracts under the laws of this seat: Dyc48 to Dyc5. -/
import Derived.Test.YtkgkgcojfocomaaGreatE09
import Derived.Test.YtkgkgcojfocomaaGreatE18
set_option linter.unusedVariables false
set_option linter.unusedSimpArgs false
namespace Go.Ev
open Go.Proofs Ty
set_option maxRecDepth 10000
set_option maxHeartbeats 4000000
set_option linter.unusedSimpArgs false
set_option linter.unusedVariables false
attribute [local go_sem] qbe qbg qcb qcy qb6 qda qdn qef Int.toNat_natCast qc9 qd4 qep qcq qcc qbm qb0 decI List.length_map qbf qbl q03 qb4 qc4 qdr qbt qb1 qd9 qe4 q06 qbv qcl qc8 qb5 qcd qds qea qbo qc0 qeb qe5 qbz qbp qcp qc6 qcn qed qc7 qco qee qc5 qcm qec List.length_take qce Int.toNat_zero Nat.sub_zero List.drop_zero q0g q0x qdb qdw q0u q0z q08 qbh qcs qct List.length_set Nat.le_refl qcv qcg q0r q0w qb3 qcf qci qdt qdx qd2 qgf qjj qk0 qjk qjl qk5 qjn qjo qd7
attribute [local go_sem ←] List.map_take List.map_drop
noncomputable def cfg48 : Cfg := ⟨Tryz.prog, 30, q7f, mvz, [], (fun _ => none)⟩
theorem qbnb : cfg48.pins = [] ∧ cfg48.P = Tryz.prog ∧ cfg48.N = 30 := ⟨rfl, rfl, rfl⟩
section
attribute [local go_sem] qbnb
theorem qbxd (hC : COk cfg48) (l : List Entry) (file : ByteArray) (hp : l.length ≤ 1000000) : Sem Tryz.prog 48 [.d (.sl 8 (l.map q0r)), .d (.s file)] (.d (.i .i64 (sIdx l file l.length))) := by
  refine q0f (C := cfg48) (rs := [.tmp 4]) (fun _ => []) Tryz.func48 rfl rfl rfl rfl rfl rfl ?_
  refine inQ ?_
  repeat' first
    | (with_reducible first | apply q0j | apply q0c | apply AW.seq | apply AW.block)
    | (with_reducible refine AW.runK hC ?_; intro K hK)
    | ((with_reducible first | refine q0t ?_ | refine q0i ?_); refine siQ ?_; (try simp (disch := omega) only [w64, wu8]))
    | ((first | (refine AW.cond rfl (fun h => ?_) (fun h => ?_)) | (refine AW.cond_ub rfl (fun h => ?_) ?_) | (refine AW.cond_nb rfl ?_ (fun h => ?_))) <;> (try replace h := q0a h) <;> (try (exfalso; first | omega | exact absurd h (by decide))))
    | (with_reducible first | apply AW.skip | apply AW.exit | apply AW.ret | apply q0k | apply q0l | apply q0d | apply q0e | refine q0b rfl ?_ | apply q0m | apply q0n)
    | (refine AW.loopN 2 rfl (ι := Nat) (fun j => mkS [(0, V.d (.sl 8 (l.map q0r))), (1, V.d (.s file)), (5, V.d (.i .i64 ((j : Int) - 1)))] ([])) (fun j => j ≤ l.length ∧ sIdx l file j = sIdx l file l.length) (fun j => j) (l.length) ?_ ?_ (fun j hi => ?_) <;> (try dsimp only) <;> (try dsimp only at hi))
    | (refine LoopNext.mk1 2 (j - 1) ?_ ?_ ?_ <;> (try dsimp only))
    | (refine q0h ?_; refine subQ ?_)
    | (with_reducible refine And.intro ?_ ?_)
    | (subst hK)
    | exact trivial
  all_goals (try (intros; assumption))
  all_goals (try refine q0v ?_)
  all_goals (try replace hp := q0a hp)
  all_goals (try replace hi := q0a hi)
  all_goals (try (intros; trivial))
  all_goals (try (intros; omega))
  all_goals (try (rw [w64 (by omega) (by omega)]; first | done | omega))
  all_goals clear hC
  all_goals (try simp only [qjh] at *)
  all_goals first
    | omega
    | rfl
    | (rw [← hi.2]; have e := qbeb (l := l) (f := file) (i := j - 1) (by assumption); rw [show j - 1 + 1 = j by omega] at e; rw [e]; omega)
    | (rw [← hi.2]; have e := qblb (l := l) (f := file) (i := j - 1) (by assumption); rw [show j - 1 + 1 = j by omega] at e; exact e.symm)
    | (rw [← hi.2, show j = 0 by omega]; rfl)
end
noncomputable def cfg17 : Cfg := ⟨Tryz.prog, 33, q7g, mvz, [], (fun _ => none)⟩
theorem qbnc : cfg17.pins = [] ∧ cfg17.P = Tryz.prog ∧ cfg17.N = 33 ∧ cfg17.ti 46 = none ∧ cfg17.T 46 = e46 ∧ cfg17.mv 46 = (fun _ => []) ∧ cfg17.ti 47 = none ∧ cfg17.T 47 = e47 ∧ cfg17.mv 47 = (fun _ => []) ∧ cfg17.ti 48 = none ∧ cfg17.T 48 = e48 ∧ cfg17.mv 48 = (fun _ => []) := ⟨rfl, rfl, rfl, rfl, rfl, rfl, rfl, rfl, rfl, rfl, rfl, rfl⟩
section
attribute [local go_sem] qbnc e46 e47 e48
theorem qbxe (hC : COk cfg17) (l : List Entry) (file : ByteArray) (hp : l.length ≤ 1000000) : Sem Tryz.prog 17 [.d (.sl 8 (l.map q0r)), .d (.s file)] (.tup [.d (.i .i64 (qhm l file).1), .d (.i .i64 (qhm l file).2)]) := by
  have hs := qrr l file l.length
  refine q0f (C := cfg17) (rs := [.tmp 4, .tmp 5]) (fun _ => []) Tryz.func17 rfl rfl rfl rfl rfl rfl ?_
  refine inQ ?_
  repeat' first
    | (with_reducible first | apply q0j | apply q0c | apply AW.seq | apply AW.block)
    | (with_reducible refine AW.runK hC ?_; intro K hK)
    | ((with_reducible first | refine q0t ?_ | refine q0i ?_); refine siQ ?_; (try simp (disch := omega) only [w64, wu8]))
    | ((first | (refine AW.cond rfl (fun h => ?_) (fun h => ?_)) | (refine AW.cond_ub rfl (fun h => ?_) ?_) | (refine AW.cond_nb rfl ?_ (fun h => ?_))) <;> (try replace h := q0a h) <;> (try (exfalso; first | omega | exact absurd h (by decide))))
    | (with_reducible first | apply AW.skip | apply AW.exit | apply AW.ret | apply q0k | apply q0l | apply q0d | apply q0e | refine q0b rfl ?_ | apply q0m | apply q0n)
    | (refine q0h ?_; refine subQ ?_)
    | (with_reducible refine And.intro ?_ ?_)
    | (subst hK)
    | exact trivial
  all_goals (try (intros; assumption))
  all_goals (try refine q0v ?_)
  all_goals (try replace hp := q0a hp)
  all_goals (try (intros; trivial))
  all_goals (try (intros; omega))
  all_goals (try (rw [w64 (by omega) (by omega)]; first | done | omega))
  all_goals clear hC
  all_goals first
    | omega
    | (rw [q1f (by assumption)]; done)
    | (have q : qbb file = false := by revert h; split <;> simp_all
       rw [qw0 (by assumption) q]; first | done | simp [q])
    | (have q : ¬qbb file = false := by intro e; simp_all
       rw [qw1 (by assumption) q (by omega)]; done)
    | (have q : ¬qbb file = false := by intro e; simp_all
       rw [qw2 (by assumption) q (by omega)]; done)
end
noncomputable def cfg52 : Cfg := ⟨Tryz.prog, 35, q7h, mvz, [], (fun _ => none)⟩
theorem qbnd : cfg52.pins = [] ∧ cfg52.P = Tryz.prog ∧ cfg52.N = 35 := ⟨rfl, rfl, rfl⟩
section
attribute [local go_sem] qbnd
theorem qbxf (hC : COk cfg52) (l : List Entry) (file : ByteArray) (hp : l.length ≤ 1000000) : Sem Tryz.prog 52 [.d (.sl 8 (l.map q0r)), .d (.s file)] (.d (.i .i64 (sNum l file l.length))) := by
  refine q0f (C := cfg52) (rs := [.tmp 4]) (fun _ => []) Tryz.func52 rfl rfl rfl rfl rfl rfl ?_
  refine inQ ?_
  repeat' first
    | (with_reducible first | apply q0j | apply q0c | apply AW.seq | apply AW.block)
    | (with_reducible refine AW.runK hC ?_; intro K hK)
    | ((with_reducible first | refine q0t ?_ | refine q0i ?_); refine siQ ?_; (try simp (disch := omega) only [w64, wu8]))
    | ((first | (refine AW.cond rfl (fun h => ?_) (fun h => ?_)) | (refine AW.cond_ub rfl (fun h => ?_) ?_) | (refine AW.cond_nb rfl ?_ (fun h => ?_))) <;> (try replace h := q0a h) <;> (try (exfalso; first | omega | exact absurd h (by decide))))
    | (with_reducible first | apply AW.skip | apply AW.exit | apply AW.ret | apply q0k | apply q0l | apply q0d | apply q0e | refine q0b rfl ?_ | apply q0m | apply q0n)
    | (refine AW.loopN 3 rfl (ι := Nat) (fun i => mkS [(0, V.d (.sl 8 (l.map q0r))), (1, V.d (.s file)), (5, V.d (.i .i64 (sNum l file i))), (6, V.d (.i .i64 (i : Int)))] ([])) (fun i => i ≤ l.length) (fun i => l.length - i) (0) ?_ ?_ (fun i hi => ?_) <;> (try dsimp only) <;> (try dsimp only at hi))
    | (refine LoopNext.mk1 3 (i + 1) ?_ ?_ ?_ <;> (try dsimp only))
    | (refine q0h ?_; refine subQ ?_)
    | (with_reducible refine And.intro ?_ ?_)
    | (subst hK)
    | exact trivial
  all_goals (try (intros; assumption))
  all_goals (try refine q0v ?_)
  all_goals (try replace hp := q0a hp)
  all_goals (try replace hi := q0a hi)
  all_goals (try (intros; trivial))
  all_goals (try (intros; omega))
  all_goals (try (rw [w64 (by omega) (by omega)]; first | done | omega))
  all_goals clear hC
  all_goals first
    | omega
    | rfl
    | (rw [qbec (by assumption)]; done)
    | (rw [qblc (by assumption)]; done)
    | (rw [show l.length = i by omega]; done)
end
noncomputable def cfg19 : Cfg := ⟨Tryz.prog, 22, q7i, mvz, [], (fun _ => none)⟩
theorem qbne : cfg19.pins = [] ∧ cfg19.P = Tryz.prog ∧ cfg19.N = 22 ∧ cfg19.ti 50 = none ∧ cfg19.T 50 = e50 ∧ cfg19.mv 50 = (fun _ => []) ∧ cfg19.ti 51 = none ∧ cfg19.T 51 = e51 ∧ cfg19.mv 51 = (fun _ => []) ∧ cfg19.ti 52 = none ∧ cfg19.T 52 = e52 ∧ cfg19.mv 52 = (fun _ => []) := ⟨rfl, rfl, rfl, rfl, rfl, rfl, rfl, rfl, rfl, rfl, rfl, rfl⟩
section
attribute [local go_sem] qbne e50 e51 e52
theorem qbxg (hC : COk cfg19) (l : List Entry) (file : ByteArray) (hp : l.length ≤ 1000000) : Sem Tryz.prog 19 [.d (.sl 8 (l.map q0r)), .d (.s file)] (.tup [.d (.i .i64 (qhm l file).1), .d (.i .i64 (qhm l file).2)]) := by
  refine q0f (C := cfg19) (rs := [.tmp 4, .tmp 5]) (fun _ => []) Tryz.func19 rfl rfl rfl rfl rfl rfl ?_
  refine inQ ?_
  repeat' first
    | (with_reducible first | apply q0j | apply q0c | apply AW.seq | apply AW.block)
    | (with_reducible refine AW.runK hC ?_; intro K hK)
    | ((with_reducible first | refine q0t ?_ | refine q0i ?_); refine siQ ?_; (try simp (disch := omega) only [w64, wu8]))
    | ((first | (refine AW.cond rfl (fun h => ?_) (fun h => ?_)) | (refine AW.cond_ub rfl (fun h => ?_) ?_) | (refine AW.cond_nb rfl ?_ (fun h => ?_))) <;> (try replace h := q0a h) <;> (try (exfalso; first | omega | exact absurd h (by decide))))
    | (with_reducible first | apply AW.skip | apply AW.exit | apply AW.ret | apply q0k | apply q0l | apply q0d | apply q0e | refine q0b rfl ?_ | apply q0m | apply q0n)
    | (refine q0h ?_; refine subQ ?_)
    | (with_reducible refine And.intro ?_ ?_)
    | (subst hK)
    | exact trivial
  all_goals (try (intros; assumption))
  all_goals (try refine q0v ?_)
  all_goals (try replace hp := q0a hp)
  all_goals (try (intros; trivial))
  all_goals (try (intros; omega))
  all_goals (try (rw [w64 (by omega) (by omega)]; first | done | omega))
  all_goals clear hC
  all_goals first
    | omega
    | (rw [q1f (by assumption)]; done)
    | (rw [qw0 (by assumption) (by assumption)]; done)
    | (have q : qbb file = true := by assumption
       rw [q7c (by assumption) (by rw [q]; decide) (by omega)]; done)
    | (have q : qbb file = true := by assumption
       rw [q7b (by assumption) (by rw [q]; decide) (by omega)]; done)
end
noncomputable def cfg37z : Cfg := ⟨Tryz.prog, 8, q7j, mvz, [], (fun _ => none)⟩
theorem qbgg : cfg37z.pins = [] ∧ cfg37z.P = Tryz.prog ∧ cfg37z.N = 8 := ⟨rfl, rfl, rfl⟩
section
attribute [local go_sem] qbgg
attribute [local go_sem] qgy dWZ1 dWZ2 dWZ3 dWZ4 dWZ5
theorem qbrz (hC : COk cfg37z) (x : Entry) (n : Int) : Sem Tryz.prog 37 [.d (q0r x), .d (.cp [.i .i64 n])] (.d (.b ((WantZ.le n).has x))) := by
  refine q0f (C := cfg37z) (rs := [.tmp 3]) (fun _ => []) Tryz.func37 rfl rfl rfl rfl rfl rfl ?_
  refine inQ ?_
  repeat' first
    | (with_reducible first | apply q0j | apply q0c | apply AW.seq | apply AW.block)
    | (with_reducible refine AW.runK hC ?_; intro K hK)
    | ((with_reducible first | refine q0t ?_ | refine q0i ?_); refine siQ ?_; (try simp (disch := omega) only [w64, wu8]))
    | ((first | (refine AW.cond rfl (fun h => ?_) (fun h => ?_)) | (refine AW.cond_ub rfl (fun h => ?_) ?_) | (refine AW.cond_nb rfl ?_ (fun h => ?_))) <;> (try replace h := q0a h) <;> (try (exfalso; first | omega | exact absurd h (by decide))))
    | (with_reducible first | apply AW.skip | apply AW.exit | apply AW.ret | apply q0k | apply q0l | apply q0d | apply q0e | refine q0b rfl ?_ | apply q0m | apply q0n)
    | (refine q0h ?_; refine subQ ?_)
    | (with_reducible refine And.intro ?_ ?_)
    | (subst hK)
    | exact trivial
  all_goals (try (intros; assumption))
  all_goals (try refine q0v ?_)
  all_goals (try (intros; trivial))
  all_goals (try (intros; omega))
  all_goals (try (rw [w64 (by omega) (by omega)]; first | done | omega))
  all_goals first | rfl
end
noncomputable def cfg44z : Cfg := ⟨Tryz.prog, 8, q1i, mvz, [], (fun _ => none)⟩
theorem qbgh : cfg44z.pins = [] ∧ cfg44z.P = Tryz.prog ∧ cfg44z.N = 8 := ⟨rfl, rfl, rfl⟩
section
attribute [local go_sem] qbgh
attribute [local go_sem] qgy dWZ1 dWZ2 dWZ3 dWZ4 dWZ5
theorem qbr0 (hC : COk cfg44z) (x : Entry) (n : Int) : Sem Tryz.prog 44 [.d (q0r x), .d (.cp [.i .i64 n])] (.d (.b ((WantZ.ge n).has x))) := by
  refine q0f (C := cfg44z) (rs := [.tmp 3]) (fun _ => []) Tryz.func44 rfl rfl rfl rfl rfl rfl ?_
  refine inQ ?_
  repeat' first
    | (with_reducible first | apply q0j | apply q0c | apply AW.seq | apply AW.block)
    | (with_reducible refine AW.runK hC ?_; intro K hK)
    | ((with_reducible first | refine q0t ?_ | refine q0i ?_); refine siQ ?_; (try simp (disch := omega) only [w64, wu8]))
    | ((first | (refine AW.cond rfl (fun h => ?_) (fun h => ?_)) | (refine AW.cond_ub rfl (fun h => ?_) ?_) | (refine AW.cond_nb rfl ?_ (fun h => ?_))) <;> (try replace h := q0a h) <;> (try (exfalso; first | omega | exact absurd h (by decide))))
    | (with_reducible first | apply AW.skip | apply AW.exit | apply AW.ret | apply q0k | apply q0l | apply q0d | apply q0e | refine q0b rfl ?_ | apply q0m | apply q0n)
    | (refine q0h ?_; refine subQ ?_)
    | (with_reducible refine And.intro ?_ ?_)
    | (subst hK)
    | exact trivial
  all_goals (try (intros; assumption))
  all_goals (try refine q0v ?_)
  all_goals (try (intros; trivial))
  all_goals (try (intros; omega))
  all_goals (try (rw [w64 (by omega) (by omega)]; first | done | omega))
  all_goals first | rfl
end
noncomputable def cfg49 : Cfg := ⟨Tryz.prog, 22, q1j, mvz, [], (fun _ => none)⟩
theorem qbnf : cfg49.pins = [] ∧ cfg49.P = Tryz.prog ∧ cfg49.N = 22 ∧ cfg49.ti 48 = none ∧ cfg49.T 48 = e48 ∧ cfg49.mv 48 = (fun _ => []) := ⟨rfl, rfl, rfl, rfl, rfl, rfl⟩
section
attribute [local go_sem] qbnf e48
attribute [local go_sem] qgy dWZ1 dWZ2 dWZ3 dWZ4 dWZ5
theorem qbxh (hC : COk cfg49) (x : Entry) (l : List Entry) (hp : l.length ≤ 1000000) : Sem Tryz.prog 49 [.d (q0r x), .d (.cp [.sl 8 (l.map q0r)])] (.d (.b ((WantZ.save l).has x))) := by
  have hs := qrr l x.change.file l.length
  refine q0f (C := cfg49) (rs := [.tmp 3]) (fun _ => []) Tryz.func49 rfl rfl rfl rfl rfl rfl ?_
  refine inQ ?_
  repeat' first
    | (with_reducible first | apply q0j | apply q0c | apply AW.seq | apply AW.block)
    | (with_reducible first | (refine AW.runK hC ?_; intro K hK) | (refine AW.drawK hC (by kernel_rfl) ?_; intro K hK))
    | ((with_reducible first | refine q0t ?_ | refine qb2 ?_ | refine q0i ?_); refine siQ ?_; (try simp (disch := omega) only [w64, wu8]))
    | (with_reducible refine qbn (by kernel_rfl) ?_)
    | ((first | (refine AW.cond rfl (fun h => ?_) (fun h => ?_)) | (refine AW.cond_ub rfl (fun h => ?_) ?_) | (refine AW.cond_nb rfl ?_ (fun h => ?_))) <;> (try replace h := q0a h) <;> (try (exfalso; first | omega | exact absurd h (by decide))))
    | (with_reducible first | apply AW.skip | apply AW.exit | apply AW.ret | apply q0k | apply q0l | apply q0d | apply q0e | refine q0b rfl ?_ | apply q0m | apply q0n)
    | (refine q0h ?_; refine subQ ?_)
    | (with_reducible refine And.intro ?_ ?_)
    | (subst hK)
    | exact trivial
  all_goals (try (intros; assumption))
  all_goals (try refine q0v ?_)
  all_goals (try replace hp := q0a hp)
  all_goals (try (intros; trivial))
  all_goals (try (intros; omega))
  all_goals (try (rw [w64 (by omega) (by omega)]; first | done | omega))
  all_goals clear hC
  all_goals first
    | omega
    | rfl
end
noncomputable def cfg54 : Cfg := ⟨Tryz.prog, 9, q7k, mvz, [], (fun _ => none)⟩
theorem qbng : cfg54.pins = [] ∧ cfg54.P = Tryz.prog ∧ cfg54.N = 9 ∧ cfg54.ti 55 = none ∧ cfg54.T 55 = e55 ∧ cfg54.mv 55 = (fun _ => []) := ⟨rfl, rfl, rfl, rfl, rfl, rfl⟩
section
attribute [local go_sem] qbng e55
attribute [local go_sem] qgy dWZ1 dWZ2 dWZ3 dWZ4 dWZ5
theorem qbxi (hC : COk cfg54) (x : Entry) (u : List Int) (hp : u.length ≤ 1000000) : Sem Tryz.prog 54 [.d (q0r x), .d (.cp [.sl 1 (u.map (D.i .i64))])] (.d (.b ((WantZ.out u).has x))) := by
  refine q0f (C := cfg54) (rs := [.tmp 3]) (fun _ => []) Tryz.func54 rfl rfl rfl rfl rfl rfl ?_
  refine inQ ?_
  repeat' first
    | (with_reducible first | apply q0j | apply q0c | apply AW.seq | apply AW.block)
    | (with_reducible refine AW.runK hC ?_; intro K hK)
    | ((with_reducible first | refine q0t ?_ | refine q0i ?_); refine siQ ?_; (try simp (disch := omega) only [w64, wu8]))
    | ((first | (refine AW.cond rfl (fun h => ?_) (fun h => ?_)) | (refine AW.cond_ub rfl (fun h => ?_) ?_) | (refine AW.cond_nb rfl ?_ (fun h => ?_))) <;> (try replace h := q0a h) <;> (try (exfalso; first | omega | exact absurd h (by decide))))
    | (with_reducible first | apply AW.skip | apply AW.exit | apply AW.ret | apply q0k | apply q0l | apply q0d | apply q0e | refine q0b rfl ?_ | apply q0m | apply q0n)
    | (refine q0h ?_; refine subQ ?_)
    | (with_reducible refine And.intro ?_ ?_)
    | (subst hK)
    | exact trivial
  all_goals (try (intros; assumption))
  all_goals (try refine q0v ?_)
  all_goals (try replace hp := q0a hp)
  all_goals (try (intros; trivial))
  all_goals (try (intros; omega))
  all_goals (try (rw [w64 (by omega) (by omega)]; first | done | omega))
  all_goals first | rfl | omega
end
noncomputable def cfg56 : Cfg := ⟨Tryz.prog, 8, q7l, mvz, [], (fun _ => none)⟩
theorem qbnh : cfg56.pins = [] ∧ cfg56.P = Tryz.prog ∧ cfg56.N = 8 ∧ cfg56.ti 55 = none ∧ cfg56.T 55 = e55 ∧ cfg56.mv 55 = (fun _ => []) := ⟨rfl, rfl, rfl, rfl, rfl, rfl⟩
section
attribute [local go_sem] qbnh e55
attribute [local go_sem] qgy dWZ1 dWZ2 dWZ3 dWZ4 dWZ5
theorem qbxj (hC : COk cfg56) (x : Entry) (u : List Int) (hp : u.length ≤ 1000000) : Sem Tryz.prog 56 [.d (q0r x), .d (.cp [.sl 1 (u.map (D.i .i64))])] (.d (.b ((WantZ.inn u).has x))) := by
  refine q0f (C := cfg56) (rs := [.tmp 3]) (fun _ => []) Tryz.func56 rfl rfl rfl rfl rfl rfl ?_
  refine inQ ?_
  repeat' first
    | (with_reducible first | apply q0j | apply q0c | apply AW.seq | apply AW.block)
    | (with_reducible refine AW.runK hC ?_; intro K hK)
    | ((with_reducible first | refine q0t ?_ | refine q0i ?_); refine siQ ?_; (try simp (disch := omega) only [w64, wu8]))
    | ((first | (refine AW.cond rfl (fun h => ?_) (fun h => ?_)) | (refine AW.cond_ub rfl (fun h => ?_) ?_) | (refine AW.cond_nb rfl ?_ (fun h => ?_))) <;> (try replace h := q0a h) <;> (try (exfalso; first | omega | exact absurd h (by decide))))
    | (with_reducible first | apply AW.skip | apply AW.exit | apply AW.ret | apply q0k | apply q0l | apply q0d | apply q0e | refine q0b rfl ?_ | apply q0m | apply q0n)
    | (refine q0h ?_; refine subQ ?_)
    | (with_reducible refine And.intro ?_ ?_)
    | (subst hK)
    | exact trivial
  all_goals (try (intros; assumption))
  all_goals (try refine q0v ?_)
  all_goals (try replace hp := q0a hp)
  all_goals (try (intros; trivial))
  all_goals (try (intros; omega))
  all_goals (try (rw [w64 (by omega) (by omega)]; first | done | omega))
  all_goals first | rfl | omega
end
noncomputable def cfg36z : Cfg := ⟨Tryz.prog, 43, q7m, mvz, [], (fun _ => none)⟩
theorem qbgi : cfg36z.pins = [] ∧ cfg36z.P = Tryz.prog ∧ cfg36z.N = 43 ∧ cfg36z.ti 71 = none ∧ cfg36z.T 71 = e71 ∧ cfg36z.mv 71 = (fun _ => []) ∧ cfg36z.ti 72 = none ∧ cfg36z.ti 37 = none ∧ cfg36z.T 37 = e37z ∧ cfg36z.mv 37 = (fun _ => []) ∧ cfg36z.ti 44 = none ∧ cfg36z.T 44 = e44z ∧ cfg36z.mv 44 = (fun _ => []) ∧ cfg36z.ti 49 = none ∧ cfg36z.T 49 = e49 ∧ cfg36z.mv 49 = (fun _ => []) ∧ cfg36z.ti 54 = none ∧ cfg36z.T 54 = e54 ∧ cfg36z.mv 54 = (fun _ => []) ∧ cfg36z.ti 56 = none ∧ cfg36z.T 56 = e56 ∧ cfg36z.mv 56 = (fun _ => []) := ⟨rfl, rfl, rfl, rfl, rfl, rfl, rfl, rfl, rfl, rfl, rfl, rfl, rfl, rfl, rfl, rfl, rfl, rfl, rfl, rfl, rfl, rfl⟩
section
attribute [local go_sem] qbgi e71 e37z e44z e49 e54 e56
attribute [local go_sem] qgy dWZ1 dWZ2 dWZ3 dWZ4 dWZ5 List.length_reverse
theorem qbr1 (hC : COk cfg36z) (l : List Entry) (back : Bool) (w : WantZ) (hp : l.length ≤ 1000000 ∧ w.ok) : Sem Tryz.prog 36 [.d (.sl 8 (l.map q0r)), .d (.b back), .d (qgy w)] (.d (.sl 5 ((qbx w.has back l).map q0u))) := by
  refine q0f (C := cfg36z) (rs := [.tmp 6]) (fun _ => []) Tryz.func36 rfl rfl rfl rfl rfl rfl ?_
  refine inQ ?_
  repeat' first
    | (refine AW.turnJ (id := 112) (qbg8 (qe7 w.has back (l.take i)) (by have := qmd (p := w.has) (back := back) (l := l) (i := i); omega)) ⟨_, Tryz.func72, rfl, rfl⟩ (qou _) (by simp) (qou _) rfl rfl rfl rfl rfl rfl (by show _ < 43; decide) (by rw [List.length_map]; rfl) rfl rfl rfl ?_)
    | (with_reducible first | apply q0j | apply q0c | apply AW.seq | apply AW.block)
    | (refine AW.atR 5 rfl ?_; cases w)
    | (with_reducible first | (refine AWh.runK hC ?_; intro K hK) | (refine AWh.drawK hC (by kernel_rfl) ?_; intro K hK))
    | (with_reducible refine AW.runK hC ?_; intro K hK)
    | ((with_reducible first | refine q0t ?_ | refine q0i ?_); refine siQ ?_; (try simp (disch := omega) only [w64, wu8]))
    | ((first | (refine AW.cond rfl (fun h => ?_) (fun h => ?_)) | (refine AW.cond_ub rfl (fun h => ?_) ?_) | (refine AW.cond_nb rfl ?_ (fun h => ?_))) <;> (try replace h := q0a h) <;> (try (exfalso; first | omega | exact absurd h (by decide))))
    | (with_reducible first | apply AW.skip | apply AW.exit | apply AW.ret | apply q0k | apply q0l | apply q0d | apply q0e | refine q0b rfl ?_ | apply q0m | apply q0n)
    | (refine AW.loopN 3 rfl (ι := Nat) (fun i => mkS [(1, V.d (.b back)), (2, V.d (qgy w)), (7, V.row 112 5 0 (qe7 w.has back (l.take i)).length), (11, V.d (.sl 8 (l.map q0r))), (12, V.d (.i .i64 (l.length : Int))), (13, V.d (.i .i64 (i : Int)))] ([(112, .live (.row 48 5 false ((qe7 w.has back (l.take i)).map q0u)))])) (fun i => i ≤ l.length) (fun i => l.length - i) (0) ?_ ?_ (fun i hi => ?_) <;> (try dsimp only) <;> (try dsimp only at hi))
    | (refine LoopNext.mk1 3 (i + 1) ?_ ?_ ?_ <;> (try dsimp only))
    | (refine q0h ?_; refine subQ ?_)
    | (with_reducible refine And.intro ?_ ?_)
    | (subst hK)
    | exact trivial
  all_goals (try (intros; assumption))
  all_goals (try refine q0v ?_)
  all_goals (try replace hp := q0a hp)
  all_goals (try replace hi := q0a hi)
  all_goals (try (intros; trivial))
  all_goals (try (intros; omega))
  all_goals (try (rw [w64 (by omega) (by omega)]; first | done | omega))
  all_goals clear hC
  all_goals (try have CL := fun p => qmd (p := p) (back := back) (l := l) (i := i))
  all_goals first
    | omega
    | (intro d hd; subst hd; exact ⟨rfl, by simp [D.cells, D.one]⟩)
    | exact q0p _
    | exact hp.2
    | (rw [qnl (by omega) (by assumption)]; first | done | exact q0p _)
    | (rw [qnl (by omega) (.inl (by assumption))]; first | done | exact q0p _)
    | (rw [qnl (by omega) (.inr (by assumption))]; first | done | exact q0p _)
    | exact fun _ => hp.2
    | exact Nat.le_trans (CL _) (by omega)
    | exact Nat.le_trans (Nat.mul_le_mul_right 64 (Nat.add_le_add_right (CL _) 1)) (by omega)
    | (rename_i hq; subst h; rw [qks (by omega) hq.1 hq.2, List.length_append]; rfl)
    | (rename_i hq; subst h; rw [qks (by omega) hq.1 hq.2, List.map_append]; exact q0p _)
    | (subst h; rw [qug (by omega)]; exact q0p _)
    | (subst h; rw [qmy (by omega)]; exact q0p _)
    | (subst h; rw [q2r (by omega)]; exact q0p _)
end
noncomputable def cfg18 : Cfg := ⟨Tryz.prog, 26, q1k, mvz, [], (fun _ => none)⟩
theorem qbni : cfg18.pins = [] ∧ cfg18.P = Tryz.prog ∧ cfg18.N = 26 ∧ cfg18.ti 34 = none ∧ cfg18.T 34 = e34 ∧ cfg18.mv 34 = (fun _ => []) ∧ cfg18.ti 35 = none ∧ cfg18.T 35 = e35 ∧ cfg18.mv 35 = (fun _ => []) ∧ cfg18.ti 36 = none ∧ cfg18.T 36 = e36z ∧ cfg18.mv 36 = (fun _ => []) ∧ cfg18.ti 49 = none ∧ cfg18.T 49 = e49 ∧ cfg18.mv 49 = (fun _ => []) := ⟨rfl, rfl, rfl, rfl, rfl, rfl, rfl, rfl, rfl, rfl, rfl, rfl, rfl, rfl, rfl⟩
section
attribute [local go_sem] qbni e34 e35 e36z e49
attribute [local go_sem] qgy dWZ1 dWZ2 dWZ3 dWZ4 dWZ5
theorem qbxk (hC : COk cfg18) (ts : List Table) (l : List Entry) (hp : okTs ts ∧ l.length ≤ 1000000) : Sem Tryz.prog 18 [.d (.sl 6 (ts.map q0g)), .d (.sl 8 (l.map q0r))] (.tup [.d (.sl 6 ((qib ts l).1.map q0g)), .d (.i .i64 (qib ts l).2.1), .d (.i .i64 (qib ts l).2.2)]) := by
  refine q0f (C := cfg18) (rs := [.tmp 4, .tmp 5, .tmp 6]) (fun _ => []) Tryz.func18 rfl rfl rfl rfl rfl rfl ?_
  refine inQ ?_
  repeat' first
    | (with_reducible first | apply q0j | apply q0c | apply AW.seq | apply AW.block)
    | (with_reducible refine AW.runK hC ?_; intro K hK)
    | ((with_reducible first | refine q0t ?_ | refine q0i ?_); refine siQ ?_; (try simp (disch := omega) only [w64, wu8]))
    | ((first | (refine AW.cond rfl (fun h => ?_) (fun h => ?_)) | (refine AW.cond_ub rfl (fun h => ?_) ?_) | (refine AW.cond_nb rfl ?_ (fun h => ?_))) <;> (try replace h := q0a h) <;> (try (exfalso; first | omega | exact absurd h (by decide))))
    | (with_reducible first | apply AW.skip | apply AW.exit | apply AW.ret | apply q0k | apply q0l | apply q0d | apply q0e | refine q0b rfl ?_ | apply q0m | apply q0n)
    | (refine q0h ?_; refine subQ ?_)
    | (with_reducible refine And.intro ?_ ?_)
    | (subst hK)
    | exact trivial
  all_goals (try (intros; assumption))
  all_goals (try refine q0v ?_)
  all_goals (try replace hp := q0a hp)
  all_goals (try (intros; trivial))
  all_goals (try (intros; omega))
  all_goals (try (rw [w64 (by omega) (by omega)]; first | done | omega))
  all_goals clear hC
  all_goals (try have CL := qnk (WantZ.save l).has false l)
  all_goals first
    | omega
    | exact hp.1
    | exact hp.2
    | exact ⟨hp.2, hp.2⟩
    | exact ⟨hp.1, by omega⟩
    | (rw [q91 (by assumption)]; first | done | rfl)
    | (rw [qbg4 (by assumption)]; first | done | rfl | exact q0p _)
end
noncomputable def cfg20 : Cfg := ⟨Tryz.prog, 54, q7n, mvz, [], (fun _ => none)⟩
theorem qbnj : cfg20.pins = [] ∧ cfg20.P = Tryz.prog ∧ cfg20.N = 54 ∧ cfg20.ti 39 = none ∧ cfg20.T 39 = e39 ∧ cfg20.mv 39 = (fun _ => []) ∧ cfg20.ti 42 = none ∧ cfg20.T 42 = e42 ∧ cfg20.mv 42 = (fun _ => []) ∧ cfg20.ti 52 = none ∧ cfg20.T 52 = e52 ∧ cfg20.mv 52 = (fun _ => []) := ⟨rfl, rfl, rfl, rfl, rfl, rfl, rfl, rfl, rfl, rfl, rfl, rfl⟩
section
attribute [local go_sem] qbnj e39 e42 e52
theorem qbxl (hC : COk cfg20) (ts : List Table) (l : List Entry) (hp : okTs ts ∧ l.length ≤ 1000000) : Sem Tryz.prog 20 [.d (.sl 6 (ts.map q0g)), .d (.sl 8 (l.map q0r))] (.d (qd2 (qe6 (qib ts l)))) := by
  refine q0f (C := cfg20) (rs := [.cell 4 33]) (fun _ => []) Tryz.func20 rfl rfl rfl rfl rfl rfl ?_
  refine inQ ?_
  repeat' first
    | (with_reducible first | apply q0j | apply q0c | apply AW.seq | apply AW.block)
    | (with_reducible first | (refine AW.runK hC ?_; intro K hK) | (refine AW.drawK hC (by kernel_rfl) ?_; intro K hK))
    | ((with_reducible first | refine q0t ?_ | refine qb2 ?_ | refine q0i ?_); refine siQ ?_; (try simp (disch := omega) only [w64, wu8]))
    | (with_reducible refine qbn (by kernel_rfl) ?_)
    | ((first | (refine AW.cond rfl (fun h => ?_) (fun h => ?_)) | (refine AW.cond_ub rfl (fun h => ?_) ?_) | (refine AW.cond_nb rfl ?_ (fun h => ?_))) <;> (try replace h := q0a h) <;> (try (exfalso; first | omega | exact absurd h (by decide))))
    | (with_reducible first | apply AW.skip | apply AW.exit | apply AW.ret | apply q0k | apply q0l | apply q0d | apply q0e | refine q0b rfl ?_ | apply q0m | apply q0n)
    | (refine AW.loopN 6 rfl (ι := Nat) (fun i => mkS [(0, V.d (.sl 6 (ts.map q0g))), (1, V.d (.sl 8 (l.map q0r))), (4, V.ptr 64 0), (6, V.row 96 5 0 (qe7 (qjx l) false (l.take i)).length), (7, V.d (.i .i64 (i : Int)))] ([(64, .live (.box 33 [.d .nil, .d (.i .i64 0), .d .nil, .d (.i .i64 0)])), (96, .live (.row 48 5 false ((qe7 (qjx l) false (l.take i)).map q0u)))])) (fun i => i ≤ l.length ∧ chkE ts l = 0) (fun i => l.length - i) (0) ?_ ?_ (fun i hi => ?_) <;> (try dsimp only) <;> (try dsimp only at hi))
    | (refine LoopNext.mk1 6 (i + 1) ?_ ?_ ?_ <;> (try dsimp only))
    | (refine q0h ?_; refine subQ ?_)
    | (with_reducible refine And.intro ?_ ?_)
    | (subst hK)
    | exact trivial
  all_goals (try (intros; assumption))
  all_goals (try refine q0v ?_)
  all_goals (try replace hp := q0a hp)
  all_goals (try replace hi := q0a hi)
  all_goals (try (intros; trivial))
  all_goals (try (intros; omega))
  all_goals (try (rw [w64 (by omega) (by omega)]; first | done | omega))
  all_goals clear hC
  all_goals (try have CL := qmd (p := qjx l) (back := false) (l := l) (i := i))
  all_goals first
    | omega
    | exact hp.1
    | exact hp.2
    | exact q0p _
    | (rw [qbpt (by assumption)]; first | done | rfl)
    | (intro d hd; subst hd; exact ⟨rfl, by simp [D.cells, D.one]⟩)
    | (rw [qks (by omega) h.1 (by unfold qjx; simpa using h.2), List.length_append]; rfl)
    | (rw [qks (by omega) h.1 (by unfold qjx; simpa using h.2), List.map_append]; exact q0p _)
    | (rw [qnl (by omega) (h.imp id (fun q => by unfold qjx; simpa using q))]; first | done | exact q0p _)
    | (rw [qbve (i := i) (by assumption) (by omega)]; first | done | exact q0p _)
end
noncomputable def cfg5 : Cfg := ⟨Tryz.prog, 71, q7o, mvz, [], (fun _ => none)⟩
theorem qbr2 : cfg5.pins = [] ∧ cfg5.P = Tryz.prog ∧ cfg5.N = 71 ∧ cfg5.ti 8 = none ∧ cfg5.T 8 = e8 ∧ cfg5.mv 8 = (fun _ => []) ∧ cfg5.ti 9 = none ∧ cfg5.T 9 = e9 ∧ cfg5.mv 9 = (fun _ => []) ∧ cfg5.ti 11 = none ∧ cfg5.T 11 = e11 ∧ cfg5.mv 11 = (fun _ => []) ∧ cfg5.ti 12 = none ∧ cfg5.T 12 = e12 ∧ cfg5.mv 12 = (fun _ => []) ∧ cfg5.ti 14 = none ∧ cfg5.T 14 = e14 ∧ cfg5.mv 14 = (fun _ => []) ∧ cfg5.ti 17 = none ∧ cfg5.T 17 = e17 ∧ cfg5.mv 17 = (fun _ => []) ∧ cfg5.ti 18 = none ∧ cfg5.T 18 = e18 ∧ cfg5.mv 18 = (fun _ => []) ∧ cfg5.ti 19 = none ∧ cfg5.T 19 = e19 ∧ cfg5.mv 19 = (fun _ => []) ∧ cfg5.ti 20 = none ∧ cfg5.T 20 = e20 ∧ cfg5.mv 20 = (fun _ => []) := ⟨rfl, rfl, rfl, rfl, rfl, rfl, rfl, rfl, rfl, rfl, rfl, rfl, rfl, rfl, rfl, rfl, rfl, rfl, rfl, rfl, rfl, rfl, rfl, rfl, rfl, rfl, rfl, rfl, rfl, rfl⟩
section
attribute [local go_sem] qbr2 e8 e9 e11 e12 e14 e17 e18 e19 e20
attribute [local go_sem] qe6
theorem con5 (hC : COk cfg5) (ts : List Table) (l : List Entry) (file : ByteArray) : Sem Tryz.prog 5 [.d (.sl 6 (ts.map q0g)), .d (.sl 8 (l.map q0r)), .d (.s file)] (.d (.b true)) := by
  refine q0f (C := cfg5) (rs := [.tmp 6]) (fun _ => []) Tryz.func5 rfl rfl rfl rfl rfl rfl ?_
  refine inQ ?_
  repeat' first
    | (with_reducible first | apply q0j | apply q0c | apply AW.seq | apply AW.block)
    | (with_reducible refine AW.runK hC ?_; intro K hK)
    | ((with_reducible first | refine q0t ?_ | refine q0i ?_); refine siQ ?_; (try simp (disch := omega) only [w64, wu8]))
    | ((first | (refine AW.cond rfl (fun h => ?_) (fun h => ?_)) | (refine AW.cond_ub rfl (fun h => ?_) ?_) | (refine AW.cond_nb rfl ?_ (fun h => ?_))) <;> (try replace h := q0a h) <;> (try (exfalso; first | omega | exact absurd h (by decide))))
    | (with_reducible first | apply AW.skip | apply AW.exit | apply AW.ret | apply q0k | apply q0l | apply q0d | apply q0e | refine q0b rfl ?_ | apply q0m | apply q0n)
    | (refine q0h ?_; refine subQ ?_)
    | (with_reducible refine And.intro ?_ ?_)
    | (subst hK)
    | exact trivial
  all_goals (try (intros; assumption))
  all_goals (try refine q0v ?_)
  all_goals (try (intros; trivial))
  all_goals (try (intros; omega))
  all_goals (try (rw [w64 (by omega) (by omega)]; first | done | omega))
  all_goals clear hC
  all_goals (try have HF : qhz ts = true ∧ qlw l = true := by grind)
  all_goals (try have FL := qny HF.2)
  all_goals (try have FT := (qlq HF.1).1)
  all_goals first
    | omega
    | exact FT
    | exact FT.1
    | exact qw3 FT
    | exact fun _ => qw3 FT
    | exact qh1 FT
    | exact qg8 FT
    | exact fun _ => qh1 FT
    | exact fun _ => qg8 FT
    | exact fun _ => ⟨FT.1, by omega⟩
end
end Go.Ev
