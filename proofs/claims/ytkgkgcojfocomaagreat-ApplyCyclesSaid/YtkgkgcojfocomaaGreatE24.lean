/- Tools and contracts under the laws of this seat: Dyc48 to Dyc5. -/
import Derived.Test.YtkgkgcojfocomaaGreatE09
import Derived.Test.YtkgkgcojfocomaaGreatE18
set_option linter.unusedVariables false
set_option linter.unusedSimpArgs false
namespace Go.Ev
open Go.Proofs Ty
set_option maxRecDepth 10000
set_option maxHeartbeats 4000000
attribute [local go_sem] qbe qbg qcg qc2 qb7 qde qdo qei Int.toNat_natCast qdd qd7 qer qcv qch qbn qb2 decI List.length_map nc0 qbf qbm q05 qb5 qc8 qds qbw qb3 qec qe9 q06 qbx qcq qdc qb6 qci qdt qed qbp qc5 qee qfa qb1 qbr qcu qda qcs qeg qdb qct qeh qc9 qcr qef List.length_take qck Int.toNat_zero Nat.sub_zero List.drop_zero q0g q0y qdf qdy q0u q00 qba qbh qcy qcz List.length_set Nat.le_refl qc0 qcm q0r q0w qb4 qcl qcn qdu qdz qd4 qgm qjs qlh qjt qju qlo qjx qjy qea
attribute [local go_sem ←] List.map_take List.map_drop
noncomputable def cfg48 : Cfg := ⟨Tryz.prog, 30, q82, mvz, [], (fun _ => none)⟩
theorem qbpe : cfg48.pins = [] ∧ cfg48.P = Tryz.prog ∧ cfg48.N = 30 := ⟨rfl, rfl, rfl⟩
section
attribute [local go_sem] qbpe
theorem qbzl (hC : COk cfg48) (l : List Entry) (file : ByteArray) (hp : l.length ≤ 1000000) : Sem Tryz.prog 48 [.d (.sl 8 (l.map q0r)), .d (.s file)] (.d (.i .i64 (sIdx l file l.length))) := by
  refine q0f (C := cfg48) (rs := [.tmp 4]) (fun _ => []) Tryz.func48 rfl rfl rfl rfl rfl rfl ?_
  refine inQ ?_
  repeat' first
  | (with_reducible first | apply q0l | apply q0c | apply AW.seq | apply AW.block | apply AW.skip | apply AW.exit | apply AW.ret | apply q0m | apply q0n | apply q0d | apply q0e | refine q0b rfl ?_ | apply q0o | apply q0p | apply And.intro)
  | (with_reducible refine AW.runK hC ?_; intro K hK)
  | ((with_reducible first | refine q0t ?_ | refine q0k ?_); refine siQ ?_; (try simp (disch := omega) only [w64, wu8]))
  | ((first | refine AW.cond rfl (fun h => ?_) fun h => ?_ | refine AW.cond_ub rfl (fun h => ?_) ?_ | refine AW.cond_nb rfl ?_ fun h => ?_) <;> (try replace h := q0a h) <;> try (exfalso; first | omega | exact absurd h (by decide)))
  | (refine AW.loopN 2 rfl (ι := Nat) (fun j => mkS [(0, V.d (.sl 8 (l.map q0r))), (1, V.d (.s file)), (5, V.d (.i .i64 ((j : Int) - 1)))] ([])) (fun j => j ≤ l.length ∧ sIdx l file j = sIdx l file l.length) (fun j => j) (l.length) ?_ ?_ (fun j hi => ?_) <;> (try dsimp only) <;> (try dsimp only at hi))
  | (refine LoopNext.mk1 2 (j - 1) ?_ ?_ ?_ <;> (try dsimp only))
  | (refine q0h ?_; refine subQ ?_)
  | (subst hK)
  | exact trivial
  all_goals try (intros; assumption)
  all_goals try refine q0v ?_
  all_goals try replace hp := q0a hp
  all_goals try replace hi := q0a hi
  all_goals try (intros; first | trivial | omega)
  all_goals (try (rw [w64 (by omega) (by omega)]; first | done | omega))
  all_goals clear hC
  all_goals (try simp only [qjr] at *)
  all_goals first
  | omega
  | rfl
  | (rw [← hi.2]; have e := qbf7 (l := l) (f := file) (i := j - 1) (by assumption); rw [show j - 1 + 1 = j by omega] at e; rw [e]; omega)
  | (rw [← hi.2]; have e := qbnb (l := l) (f := file) (i := j - 1) (by assumption); rw [show j - 1 + 1 = j by omega] at e; exact e.symm)
  | (rw [← hi.2, show j = 0 by omega]; rfl)
end
noncomputable def cfg17 : Cfg := ⟨Tryz.prog, 33, q83, mvz, [], (fun _ => none)⟩
theorem qbpf : cfg17.pins = [] ∧ cfg17.P = Tryz.prog ∧ cfg17.N = 33 ∧ cfg17.T 46 = e46 ∧ cfg17.mv 46 = (fun _ => []) ∧ cfg17.T 47 = e47 ∧ cfg17.mv 47 = (fun _ => []) ∧ cfg17.T 48 = e48 ∧ cfg17.mv 48 = (fun _ => []) ∧ cfg17.ti = fun _ => none := by and_intros <;> exact rfl
section
attribute [local go_sem] qbpf e46 e47 e48
theorem qbzm (hC : COk cfg17) (l : List Entry) (file : ByteArray) (hp : l.length ≤ 1000000) : Sem Tryz.prog 17 [.d (.sl 8 (l.map q0r)), .d (.s file)] (.tup [.d (.i .i64 (qhv l file).1), .d (.i .i64 (qhv l file).2)]) := by
  have hs := qsn l file l.length
  refine q0f (C := cfg17) (rs := [.tmp 4, .tmp 5]) (fun _ => []) Tryz.func17 rfl rfl rfl rfl rfl rfl ?_
  refine inQ ?_
  repeat' first
  | (with_reducible first | apply q0l | apply q0c | apply AW.seq | apply AW.block | apply AW.skip | apply AW.exit | apply AW.ret | apply q0m | apply q0n | apply q0d | apply q0e | refine q0b rfl ?_ | apply q0o | apply q0p | apply And.intro)
  | (with_reducible refine AW.runK hC ?_; intro K hK)
  | ((with_reducible first | refine q0t ?_ | refine q0k ?_); refine siQ ?_; (try simp (disch := omega) only [w64, wu8]))
  | ((first | refine AW.cond rfl (fun h => ?_) fun h => ?_ | refine AW.cond_ub rfl (fun h => ?_) ?_ | refine AW.cond_nb rfl ?_ fun h => ?_) <;> (try replace h := q0a h) <;> try (exfalso; first | omega | exact absurd h (by decide)))
  | (refine q0h ?_; refine subQ ?_)
  | (subst hK)
  | exact trivial
  all_goals try (intros; assumption)
  all_goals try refine q0v ?_
  all_goals try replace hp := q0a hp
  all_goals try (intros; first | trivial | omega)
  all_goals (try (rw [w64 (by omega) (by omega)]; first | done | omega))
  all_goals clear hC
  all_goals first
  | omega
  | (rw [q2t (by assumption)]; done)
  | (have q : qbb file = false := by revert h; split <;> simp_all
     rw [qyc (by assumption) q]; first | done | simp [q])
  | (have q : ¬qbb file = false := by intro e; simp_all
     rw [qyd (by assumption) q (by omega)]; done)
  | (have q : ¬qbb file = false := by intro e; simp_all
     rw [qye (by assumption) q (by omega)]; done)
end
noncomputable def cfg52 : Cfg := ⟨Tryz.prog, 35, q84, mvz, [], (fun _ => none)⟩
theorem qbpg : cfg52.pins = [] ∧ cfg52.P = Tryz.prog ∧ cfg52.N = 35 := ⟨rfl, rfl, rfl⟩
section
attribute [local go_sem] qbpg
theorem qbzn (hC : COk cfg52) (l : List Entry) (file : ByteArray) (hp : l.length ≤ 1000000) : Sem Tryz.prog 52 [.d (.sl 8 (l.map q0r)), .d (.s file)] (.d (.i .i64 (sNum l file l.length))) := by
  refine q0f (C := cfg52) (rs := [.tmp 4]) (fun _ => []) Tryz.func52 rfl rfl rfl rfl rfl rfl ?_
  refine inQ ?_
  repeat' first
  | (with_reducible first | apply q0l | apply q0c | apply AW.seq | apply AW.block | apply AW.skip | apply AW.exit | apply AW.ret | apply q0m | apply q0n | apply q0d | apply q0e | refine q0b rfl ?_ | apply q0o | apply q0p | apply And.intro)
  | (with_reducible refine AW.runK hC ?_; intro K hK)
  | ((with_reducible first | refine q0t ?_ | refine q0k ?_); refine siQ ?_; (try simp (disch := omega) only [w64, wu8]))
  | ((first | refine AW.cond rfl (fun h => ?_) fun h => ?_ | refine AW.cond_ub rfl (fun h => ?_) ?_ | refine AW.cond_nb rfl ?_ fun h => ?_) <;> (try replace h := q0a h) <;> try (exfalso; first | omega | exact absurd h (by decide)))
  | (refine AW.loopN 3 rfl (ι := Nat) (fun i => mkS [(0, V.d (.sl 8 (l.map q0r))), (1, V.d (.s file)), (5, V.d (.i .i64 (sNum l file i))), (6, V.d (.i .i64 (i : Int)))] ([])) (fun i => i ≤ l.length) (fun i => l.length - i) (0) ?_ ?_ (fun i hi => ?_) <;> (try dsimp only) <;> (try dsimp only at hi))
  | (refine LoopNext.mk1 3 (i + 1) ?_ ?_ ?_ <;> (try dsimp only))
  | (refine q0h ?_; refine subQ ?_)
  | (subst hK)
  | exact trivial
  all_goals try (intros; assumption)
  all_goals try refine q0v ?_
  all_goals try replace hp := q0a hp
  all_goals try replace hi := q0a hi
  all_goals try (intros; first | trivial | omega)
  all_goals (try (rw [w64 (by omega) (by omega)]; first | done | omega))
  all_goals clear hC
  all_goals first
  | omega
  | rfl
  | (rw [qbf8 (by assumption)]; done)
  | (rw [qbnc (by assumption)]; done)
  | (rw [show l.length = i by omega]; done)
end
noncomputable def cfg19 : Cfg := ⟨Tryz.prog, 22, q85, mvz, [], (fun _ => none)⟩
theorem qbph : cfg19.pins = [] ∧ cfg19.P = Tryz.prog ∧ cfg19.N = 22 ∧ cfg19.T 50 = e50 ∧ cfg19.mv 50 = (fun _ => []) ∧ cfg19.T 51 = e51 ∧ cfg19.mv 51 = (fun _ => []) ∧ cfg19.T 52 = e52 ∧ cfg19.mv 52 = (fun _ => []) ∧ cfg19.ti = fun _ => none := by and_intros <;> exact rfl
section
attribute [local go_sem] qbph e50 e51 e52
theorem qbzo (hC : COk cfg19) (l : List Entry) (file : ByteArray) (hp : l.length ≤ 1000000) : Sem Tryz.prog 19 [.d (.sl 8 (l.map q0r)), .d (.s file)] (.tup [.d (.i .i64 (qhv l file).1), .d (.i .i64 (qhv l file).2)]) := by
  refine q0f (C := cfg19) (rs := [.tmp 4, .tmp 5]) (fun _ => []) Tryz.func19 rfl rfl rfl rfl rfl rfl ?_
  refine inQ ?_
  repeat' first
  | (with_reducible first | apply q0l | apply q0c | apply AW.seq | apply AW.block | apply AW.skip | apply AW.exit | apply AW.ret | apply q0m | apply q0n | apply q0d | apply q0e | refine q0b rfl ?_ | apply q0o | apply q0p | apply And.intro)
  | (with_reducible refine AW.runK hC ?_; intro K hK)
  | ((with_reducible first | refine q0t ?_ | refine q0k ?_); refine siQ ?_; (try simp (disch := omega) only [w64, wu8]))
  | ((first | refine AW.cond rfl (fun h => ?_) fun h => ?_ | refine AW.cond_ub rfl (fun h => ?_) ?_ | refine AW.cond_nb rfl ?_ fun h => ?_) <;> (try replace h := q0a h) <;> try (exfalso; first | omega | exact absurd h (by decide)))
  | (refine q0h ?_; refine subQ ?_)
  | (subst hK)
  | exact trivial
  all_goals try (intros; assumption)
  all_goals try refine q0v ?_
  all_goals try replace hp := q0a hp
  all_goals try (intros; first | trivial | omega)
  all_goals (try (rw [w64 (by omega) (by omega)]; first | done | omega))
  all_goals clear hC
  all_goals first
  | omega
  | (rw [q2t (by assumption)]; done)
  | (rw [qyc (by assumption) (by assumption)]; done)
  | (have q : qbb file = true := by assumption
     rw [q8z (by assumption) (by rw [q]; decide) (by omega)]; done)
  | (have q : qbb file = true := by assumption
     rw [q8y (by assumption) (by rw [q]; decide) (by omega)]; done)
end
noncomputable def cfg37z : Cfg := ⟨Tryz.prog, 8, q86, mvz, [], (fun _ => none)⟩
theorem qbie : cfg37z.pins = [] ∧ cfg37z.P = Tryz.prog ∧ cfg37z.N = 8 := ⟨rfl, rfl, rfl⟩
section
attribute [local go_sem] qbie
attribute [local go_sem] qg8 dWZ1 dWZ2 dWZ3 dWZ4 dWZ5
theorem qbt6 (hC : COk cfg37z) (x : Entry) (n : Int) : Sem Tryz.prog 37 [.d (q0r x), .d (.cp [.i .i64 n])] (.d (.b ((WantZ.le n).has x))) := by
  refine q0f (C := cfg37z) (rs := [.tmp 3]) (fun _ => []) Tryz.func37 rfl rfl rfl rfl rfl rfl ?_
  refine inQ ?_
  repeat' first
  | (with_reducible first | apply q0l | apply q0c | apply AW.seq | apply AW.block | apply AW.skip | apply AW.exit | apply AW.ret | apply q0m | apply q0n | apply q0d | apply q0e | refine q0b rfl ?_ | apply q0o | apply q0p | apply And.intro)
  | (with_reducible refine AW.runK hC ?_; intro K hK)
  | ((with_reducible first | refine q0t ?_ | refine q0k ?_); refine siQ ?_; (try simp (disch := omega) only [w64, wu8]))
  | ((first | refine AW.cond rfl (fun h => ?_) fun h => ?_ | refine AW.cond_ub rfl (fun h => ?_) ?_ | refine AW.cond_nb rfl ?_ fun h => ?_) <;> (try replace h := q0a h) <;> try (exfalso; first | omega | exact absurd h (by decide)))
  | (refine q0h ?_; refine subQ ?_)
  | (subst hK)
  | exact trivial
  all_goals try (intros; assumption)
  all_goals try refine q0v ?_
  all_goals try (intros; first | trivial | omega)
  all_goals (try (rw [w64 (by omega) (by omega)]; first | done | omega))
  all_goals first | rfl
end
noncomputable def cfg44z : Cfg := ⟨Tryz.prog, 8, q2x, mvz, [], (fun _ => none)⟩
theorem qbif : cfg44z.pins = [] ∧ cfg44z.P = Tryz.prog ∧ cfg44z.N = 8 := ⟨rfl, rfl, rfl⟩
section
attribute [local go_sem] qbif
attribute [local go_sem] qg8 dWZ1 dWZ2 dWZ3 dWZ4 dWZ5
theorem qbt7 (hC : COk cfg44z) (x : Entry) (n : Int) : Sem Tryz.prog 44 [.d (q0r x), .d (.cp [.i .i64 n])] (.d (.b ((WantZ.ge n).has x))) := by
  refine q0f (C := cfg44z) (rs := [.tmp 3]) (fun _ => []) Tryz.func44 rfl rfl rfl rfl rfl rfl ?_
  refine inQ ?_
  repeat' first
  | (with_reducible first | apply q0l | apply q0c | apply AW.seq | apply AW.block | apply AW.skip | apply AW.exit | apply AW.ret | apply q0m | apply q0n | apply q0d | apply q0e | refine q0b rfl ?_ | apply q0o | apply q0p | apply And.intro)
  | (with_reducible refine AW.runK hC ?_; intro K hK)
  | ((with_reducible first | refine q0t ?_ | refine q0k ?_); refine siQ ?_; (try simp (disch := omega) only [w64, wu8]))
  | ((first | refine AW.cond rfl (fun h => ?_) fun h => ?_ | refine AW.cond_ub rfl (fun h => ?_) ?_ | refine AW.cond_nb rfl ?_ fun h => ?_) <;> (try replace h := q0a h) <;> try (exfalso; first | omega | exact absurd h (by decide)))
  | (refine q0h ?_; refine subQ ?_)
  | (subst hK)
  | exact trivial
  all_goals try (intros; assumption)
  all_goals try refine q0v ?_
  all_goals try (intros; first | trivial | omega)
  all_goals (try (rw [w64 (by omega) (by omega)]; first | done | omega))
  all_goals first | rfl
end
noncomputable def cfg49 : Cfg := ⟨Tryz.prog, 22, q2y, mvz, [], (fun _ => none)⟩
theorem qbpi : cfg49.pins = [] ∧ cfg49.P = Tryz.prog ∧ cfg49.N = 22 ∧ cfg49.ti 48 = none ∧ cfg49.T 48 = e48 ∧ cfg49.mv 48 = (fun _ => []) := by and_intros <;> exact rfl
section
attribute [local go_sem] qbpi e48
attribute [local go_sem] qg8 dWZ1 dWZ2 dWZ3 dWZ4 dWZ5
theorem qbzp (hC : COk cfg49) (x : Entry) (l : List Entry) (hp : l.length ≤ 1000000) : Sem Tryz.prog 49 [.d (q0r x), .d (.cp [.sl 8 (l.map q0r)])] (.d (.b ((WantZ.save l).has x))) := by
  have hs := qsn l x.change.file l.length
  refine q0f (C := cfg49) (rs := [.tmp 3]) (fun _ => []) Tryz.func49 rfl rfl rfl rfl rfl rfl ?_
  refine inQ ?_
  repeat' first
  | (with_reducible first | apply q0l | apply q0c | apply AW.seq | apply AW.block | apply AW.skip | apply AW.exit | apply AW.ret | apply q0m | apply q0n | apply q0d | apply q0e | refine q0b rfl ?_ | apply q0o | apply q0p | apply And.intro)
  | (with_reducible first | (refine AW.runK hC ?_; intro K hK) | (refine AW.drawK hC (by kernel_rfl) ?_; intro K hK))
  | ((with_reducible first | refine q0t ?_ | refine qbz ?_ | refine q0k ?_); refine siQ ?_; (try simp (disch := omega) only [w64, wu8]))
  | (with_reducible refine qbj (by kernel_rfl) ?_)
  | ((first | refine AW.cond rfl (fun h => ?_) fun h => ?_ | refine AW.cond_ub rfl (fun h => ?_) ?_ | refine AW.cond_nb rfl ?_ fun h => ?_) <;> (try replace h := q0a h) <;> try (exfalso; first | omega | exact absurd h (by decide)))
  | (refine q0h ?_; refine subQ ?_)
  | (subst hK)
  | exact trivial
  all_goals try (intros; assumption)
  all_goals try refine q0v ?_
  all_goals try replace hp := q0a hp
  all_goals try (intros; first | trivial | omega)
  all_goals (try (rw [w64 (by omega) (by omega)]; first | done | omega))
  all_goals clear hC
  all_goals first
  | omega
  | rfl
end
noncomputable def cfg54 : Cfg := ⟨Tryz.prog, 9, q87, mvz, [], (fun _ => none)⟩
theorem qbpj : cfg54.pins = [] ∧ cfg54.P = Tryz.prog ∧ cfg54.N = 9 ∧ cfg54.ti 55 = none ∧ cfg54.T 55 = e55 ∧ cfg54.mv 55 = (fun _ => []) := by and_intros <;> exact rfl
section
attribute [local go_sem] qbpj e55
attribute [local go_sem] qg8 dWZ1 dWZ2 dWZ3 dWZ4 dWZ5
theorem qbzq (hC : COk cfg54) (x : Entry) (u : List Int) (hp : u.length ≤ 1000000) : Sem Tryz.prog 54 [.d (q0r x), .d (.cp [.sl 1 (u.map (D.i .i64))])] (.d (.b ((WantZ.out u).has x))) := by
  refine q0f (C := cfg54) (rs := [.tmp 3]) (fun _ => []) Tryz.func54 rfl rfl rfl rfl rfl rfl ?_
  refine inQ ?_
  repeat' first
  | (with_reducible first | apply q0l | apply q0c | apply AW.seq | apply AW.block | apply AW.skip | apply AW.exit | apply AW.ret | apply q0m | apply q0n | apply q0d | apply q0e | refine q0b rfl ?_ | apply q0o | apply q0p | apply And.intro)
  | (with_reducible refine AW.runK hC ?_; intro K hK)
  | ((with_reducible first | refine q0t ?_ | refine q0k ?_); refine siQ ?_; (try simp (disch := omega) only [w64, wu8]))
  | ((first | refine AW.cond rfl (fun h => ?_) fun h => ?_ | refine AW.cond_ub rfl (fun h => ?_) ?_ | refine AW.cond_nb rfl ?_ fun h => ?_) <;> (try replace h := q0a h) <;> try (exfalso; first | omega | exact absurd h (by decide)))
  | (refine q0h ?_; refine subQ ?_)
  | (subst hK)
  | exact trivial
  all_goals try (intros; assumption)
  all_goals try refine q0v ?_
  all_goals try replace hp := q0a hp
  all_goals try (intros; first | trivial | omega)
  all_goals (try (rw [w64 (by omega) (by omega)]; first | done | omega))
  all_goals first | rfl | omega
end
noncomputable def cfg56 : Cfg := ⟨Tryz.prog, 8, q88, mvz, [], (fun _ => none)⟩
theorem qbpk : cfg56.pins = [] ∧ cfg56.P = Tryz.prog ∧ cfg56.N = 8 ∧ cfg56.ti 55 = none ∧ cfg56.T 55 = e55 ∧ cfg56.mv 55 = (fun _ => []) := by and_intros <;> exact rfl
section
attribute [local go_sem] qbpk e55
attribute [local go_sem] qg8 dWZ1 dWZ2 dWZ3 dWZ4 dWZ5
theorem qbzr (hC : COk cfg56) (x : Entry) (u : List Int) (hp : u.length ≤ 1000000) : Sem Tryz.prog 56 [.d (q0r x), .d (.cp [.sl 1 (u.map (D.i .i64))])] (.d (.b ((WantZ.inn u).has x))) := by
  refine q0f (C := cfg56) (rs := [.tmp 3]) (fun _ => []) Tryz.func56 rfl rfl rfl rfl rfl rfl ?_
  refine inQ ?_
  repeat' first
  | (with_reducible first | apply q0l | apply q0c | apply AW.seq | apply AW.block | apply AW.skip | apply AW.exit | apply AW.ret | apply q0m | apply q0n | apply q0d | apply q0e | refine q0b rfl ?_ | apply q0o | apply q0p | apply And.intro)
  | (with_reducible refine AW.runK hC ?_; intro K hK)
  | ((with_reducible first | refine q0t ?_ | refine q0k ?_); refine siQ ?_; (try simp (disch := omega) only [w64, wu8]))
  | ((first | refine AW.cond rfl (fun h => ?_) fun h => ?_ | refine AW.cond_ub rfl (fun h => ?_) ?_ | refine AW.cond_nb rfl ?_ fun h => ?_) <;> (try replace h := q0a h) <;> try (exfalso; first | omega | exact absurd h (by decide)))
  | (refine q0h ?_; refine subQ ?_)
  | (subst hK)
  | exact trivial
  all_goals try (intros; assumption)
  all_goals try refine q0v ?_
  all_goals try replace hp := q0a hp
  all_goals try (intros; first | trivial | omega)
  all_goals (try (rw [w64 (by omega) (by omega)]; first | done | omega))
  all_goals first | rfl | omega
end
noncomputable def cfg36z : Cfg := ⟨Tryz.prog, 43, q89, mvz, [], (fun _ => none)⟩
theorem qbig : cfg36z.pins = [] ∧ cfg36z.P = Tryz.prog ∧ cfg36z.N = 43 ∧ cfg36z.T 71 = e71 ∧ cfg36z.mv 71 = (fun _ => []) ∧ cfg36z.T 37 = e37z ∧ cfg36z.mv 37 = (fun _ => []) ∧ cfg36z.T 44 = e44z ∧ cfg36z.mv 44 = (fun _ => []) ∧ cfg36z.T 49 = e49 ∧ cfg36z.mv 49 = (fun _ => []) ∧ cfg36z.T 54 = e54 ∧ cfg36z.mv 54 = (fun _ => []) ∧ cfg36z.T 56 = e56 ∧ cfg36z.mv 56 = (fun _ => []) ∧ cfg36z.ti = fun _ => none := by and_intros <;> exact rfl
section
attribute [local go_sem] qbig e71 e37z e44z e49 e54 e56
attribute [local go_sem] qg8 dWZ1 dWZ2 dWZ3 dWZ4 dWZ5 List.length_reverse
theorem qbt8 (hC : COk cfg36z) (l : List Entry) (back : Bool) (w : WantZ) (hp : l.length ≤ 1000000 ∧ w.ok) : Sem Tryz.prog 36 [.d (.sl 8 (l.map q0r)), .d (.b back), .d (qg8 w)] (.d (.sl 5 ((qbo w.has back l).map q0u))) := by
  refine q0f (C := cfg36z) (rs := [.tmp 6]) (fun _ => []) Tryz.func36 rfl rfl rfl rfl rfl rfl ?_
  refine inQ ?_
  repeat' first
  | (refine AW.turnJ (id := 112) (qbi6 (qff w.has back (l.take i)) (by have := qmx (p := w.has) (back := back) (l := l) (i := i); omega)) ⟨_, Tryz.func72, rfl, rfl⟩ (qpb _) (by simp) (qpb _) rfl rfl rfl rfl rfl rfl (by show _ < 43; decide) (by rw [List.length_map]; rfl) rfl rfl rfl ?_)
  | (with_reducible first | apply q0l | apply q0c | apply AW.seq | apply AW.block | apply AW.skip | apply AW.exit | apply AW.ret | apply q0m | apply q0n | apply q0d | apply q0e | refine q0b rfl ?_ | apply q0o | apply q0p | apply And.intro)
  | (refine AW.atR 5 rfl ?_; cases w)
  | (with_reducible first | (refine AWh.runK hC ?_; intro K hK) | (refine AWh.drawK hC (by kernel_rfl) ?_; intro K hK))
  | (with_reducible refine AW.runK hC ?_; intro K hK)
  | ((with_reducible first | refine q0t ?_ | refine q0k ?_); refine siQ ?_; (try simp (disch := omega) only [w64, wu8]))
  | ((first | refine AW.cond rfl (fun h => ?_) fun h => ?_ | refine AW.cond_ub rfl (fun h => ?_) ?_ | refine AW.cond_nb rfl ?_ fun h => ?_) <;> (try replace h := q0a h) <;> try (exfalso; first | omega | exact absurd h (by decide)))
  | (refine AW.loopN 3 rfl (ι := Nat) (fun i => mkS [(1, V.d (.b back)), (2, V.d (qg8 w)), (7, V.row 112 5 0 (qff w.has back (l.take i)).length), (11, V.d (.sl 8 (l.map q0r))), (12, V.d (.i .i64 (l.length : Int))), (13, V.d (.i .i64 (i : Int)))] ([(112, .live (.row 48 5 false ((qff w.has back (l.take i)).map q0u)))])) (fun i => i ≤ l.length) (fun i => l.length - i) (0) ?_ ?_ (fun i hi => ?_) <;> (try dsimp only) <;> (try dsimp only at hi))
  | (refine LoopNext.mk1 3 (i + 1) ?_ ?_ ?_ <;> (try dsimp only))
  | (refine q0h ?_; refine subQ ?_)
  | (subst hK)
  | exact trivial
  all_goals try (intros; assumption)
  all_goals try refine q0v ?_
  all_goals try replace hp := q0a hp
  all_goals try replace hi := q0a hi
  all_goals try (intros; first | trivial | omega)
  all_goals (try (rw [w64 (by omega) (by omega)]; first | done | omega))
  all_goals clear hC
  all_goals (try have CL := fun p => qmx (p := p) (back := back) (l := l) (i := i))
  all_goals first
  | omega
  | (intro d hd; subst hd; exact ⟨rfl, by simp [D.cells, D.one]⟩)
  | exact q0q _
  | exact hp.2
  | (rw [qn5 (by omega) (by assumption)]; first | done | exact q0q _)
  | (rw [qn5 (by omega) (.inl (by assumption))]; first | done | exact q0q _)
  | (rw [qn5 (by omega) (.inr (by assumption))]; first | done | exact q0q _)
  | exact fun _ => hp.2
  | exact Nat.le_trans (CL _) (by omega)
  | exact Nat.le_trans (Nat.mul_le_mul_right 64 (Nat.add_le_add_right (CL _) 1)) (by omega)
  | (rename_i hq; subst h; rw [qk7 (by omega) hq.1 hq.2, List.length_append]; rfl)
  | (rename_i hq; subst h; rw [qk7 (by omega) hq.1 hq.2, List.map_append]; exact q0q _)
  | (subst h; rw [qvj (by omega)]; exact q0q _)
  | (subst h; rw [qni (by omega)]; exact q0q _)
  | (subst h; rw [q4a (by omega)]; exact q0q _)
end
noncomputable def cfg18 : Cfg := ⟨Tryz.prog, 26, q2z, mvz, [], (fun _ => none)⟩
theorem qbpl : cfg18.pins = [] ∧ cfg18.P = Tryz.prog ∧ cfg18.N = 26 ∧ cfg18.T 34 = e34 ∧ cfg18.mv 34 = (fun _ => []) ∧ cfg18.T 35 = e35 ∧ cfg18.mv 35 = (fun _ => []) ∧ cfg18.T 36 = e36z ∧ cfg18.mv 36 = (fun _ => []) ∧ cfg18.T 49 = e49 ∧ cfg18.mv 49 = (fun _ => []) ∧ cfg18.ti = fun _ => none := by and_intros <;> exact rfl
section
attribute [local go_sem] qbpl e34 e35 e36z e49
attribute [local go_sem] qg8 dWZ1 dWZ2 dWZ3 dWZ4 dWZ5
theorem qbzs (hC : COk cfg18) (ts : List Table) (l : List Entry) (hp : okTs ts ∧ l.length ≤ 1000000) : Sem Tryz.prog 18 [.d (.sl 6 (ts.map q0g)), .d (.sl 8 (l.map q0r))] (.tup [.d (.sl 6 ((qik ts l).1.map q0g)), .d (.i .i64 (qik ts l).2.1), .d (.i .i64 (qik ts l).2.2)]) := by
  refine q0f (C := cfg18) (rs := [.tmp 4, .tmp 5, .tmp 6]) (fun _ => []) Tryz.func18 rfl rfl rfl rfl rfl rfl ?_
  refine inQ ?_
  repeat' first
  | (with_reducible first | apply q0l | apply q0c | apply AW.seq | apply AW.block | apply AW.skip | apply AW.exit | apply AW.ret | apply q0m | apply q0n | apply q0d | apply q0e | refine q0b rfl ?_ | apply q0o | apply q0p | apply And.intro)
  | (with_reducible refine AW.runK hC ?_; intro K hK)
  | ((with_reducible first | refine q0t ?_ | refine q0k ?_); refine siQ ?_; (try simp (disch := omega) only [w64, wu8]))
  | ((first | refine AW.cond rfl (fun h => ?_) fun h => ?_ | refine AW.cond_ub rfl (fun h => ?_) ?_ | refine AW.cond_nb rfl ?_ fun h => ?_) <;> (try replace h := q0a h) <;> try (exfalso; first | omega | exact absurd h (by decide)))
  | (refine q0h ?_; refine subQ ?_)
  | (subst hK)
  | exact trivial
  all_goals try (intros; assumption)
  all_goals try refine q0v ?_
  all_goals try replace hp := q0a hp
  all_goals try (intros; first | trivial | omega)
  all_goals (try (rw [w64 (by omega) (by omega)]; first | done | omega))
  all_goals clear hC
  all_goals (try have CL := qn4 (WantZ.save l).has false l)
  all_goals first
  | omega
  | exact hp.1
  | exact hp.2
  | exact ⟨hp.2, hp.2⟩
  | exact ⟨hp.1, by omega⟩
  | (rw [qbbs (by assumption)]; first | done | rfl)
  | (rw [qbi4 (by assumption)]; first | done | rfl | exact q0q _)
end
noncomputable def cfg20 : Cfg := ⟨Tryz.prog, 54, q9a, mvz, [], (fun _ => none)⟩
theorem qbpm : cfg20.pins = [] ∧ cfg20.P = Tryz.prog ∧ cfg20.N = 54 ∧ cfg20.T 39 = e39 ∧ cfg20.mv 39 = (fun _ => []) ∧ cfg20.T 42 = e42 ∧ cfg20.mv 42 = (fun _ => []) ∧ cfg20.T 52 = e52 ∧ cfg20.mv 52 = (fun _ => []) ∧ cfg20.ti = fun _ => none := by and_intros <;> exact rfl
section
attribute [local go_sem] qbpm e39 e42 e52
theorem qbzt (hC : COk cfg20) (ts : List Table) (l : List Entry) (hp : okTs ts ∧ l.length ≤ 1000000) : Sem Tryz.prog 20 [.d (.sl 6 (ts.map q0g)), .d (.sl 8 (l.map q0r))] (.d (qd4 (qfc (qik ts l)))) := by
  refine q0f (C := cfg20) (rs := [.cell 4 33]) (fun _ => []) Tryz.func20 rfl rfl rfl rfl rfl rfl ?_
  refine inQ ?_
  repeat' first
  | (with_reducible first | apply q0l | apply q0c | apply AW.seq | apply AW.block | apply AW.skip | apply AW.exit | apply AW.ret | apply q0m | apply q0n | apply q0d | apply q0e | refine q0b rfl ?_ | apply q0o | apply q0p | apply And.intro)
  | (with_reducible first | (refine AW.runK hC ?_; intro K hK) | (refine AW.drawK hC (by kernel_rfl) ?_; intro K hK))
  | ((with_reducible first | refine q0t ?_ | refine qbz ?_ | refine q0k ?_); refine siQ ?_; (try simp (disch := omega) only [w64, wu8]))
  | (with_reducible refine qbj (by kernel_rfl) ?_)
  | ((first | refine AW.cond rfl (fun h => ?_) fun h => ?_ | refine AW.cond_ub rfl (fun h => ?_) ?_ | refine AW.cond_nb rfl ?_ fun h => ?_) <;> (try replace h := q0a h) <;> try (exfalso; first | omega | exact absurd h (by decide)))
  | (refine AW.loopN 6 rfl (ι := Nat) (fun i => mkS [(0, V.d (.sl 6 (ts.map q0g))), (1, V.d (.sl 8 (l.map q0r))), (4, V.ptr 64 0), (6, V.row 96 5 0 (qff (qj7 l) false (l.take i)).length), (7, V.d (.i .i64 (i : Int)))] ([(64, .live (.box 33 [.d .nil, .d (.i .i64 0), .d .nil, .d (.i .i64 0)])), (96, .live (.row 48 5 false ((qff (qj7 l) false (l.take i)).map q0u)))])) (fun i => i ≤ l.length ∧ chkE ts l = 0) (fun i => l.length - i) (0) ?_ ?_ (fun i hi => ?_) <;> (try dsimp only) <;> (try dsimp only at hi))
  | (refine LoopNext.mk1 6 (i + 1) ?_ ?_ ?_ <;> (try dsimp only))
  | (refine q0h ?_; refine subQ ?_)
  | (subst hK)
  | exact trivial
  all_goals try (intros; assumption)
  all_goals try refine q0v ?_
  all_goals try replace hp := q0a hp
  all_goals try replace hi := q0a hi
  all_goals try (intros; first | trivial | omega)
  all_goals (try (rw [w64 (by omega) (by omega)]; first | done | omega))
  all_goals clear hC
  all_goals (try have CL := qmx (p := qj7 l) (back := false) (l := l) (i := i))
  all_goals first
  | omega
  | exact hp.1
  | exact hp.2
  | exact q0q _
  | (rw [qbr0 (by assumption)]; first | done | rfl)
  | (intro d hd; subst hd; exact ⟨rfl, by simp [D.cells, D.one]⟩)
  | (rw [qk7 (by omega) h.1 (by unfold qj7; simpa using h.2), List.length_append]; rfl)
  | (rw [qk7 (by omega) h.1 (by unfold qj7; simpa using h.2), List.map_append]; exact q0q _)
  | (rw [qn5 (by omega) (h.imp id (fun q => by unfold qj7; simpa using q))]; first | done | exact q0q _)
  | (rw [qbxm (i := i) (by assumption) (by omega)]; first | done | exact q0q _)
end
noncomputable def cfg5 : Cfg := ⟨Tryz.prog, 71, q9b, mvz, [], (fun _ => none)⟩
theorem qbt9 : cfg5.pins = [] ∧ cfg5.P = Tryz.prog ∧ cfg5.N = 71 ∧ cfg5.T 8 = e8 ∧ cfg5.mv 8 = (fun _ => []) ∧ cfg5.T 9 = e9 ∧ cfg5.mv 9 = (fun _ => []) ∧ cfg5.T 11 = e11 ∧ cfg5.mv 11 = (fun _ => []) ∧ cfg5.T 12 = e12 ∧ cfg5.mv 12 = (fun _ => []) ∧ cfg5.T 14 = e14 ∧ cfg5.mv 14 = (fun _ => []) ∧ cfg5.T 17 = e17 ∧ cfg5.mv 17 = (fun _ => []) ∧ cfg5.T 18 = e18 ∧ cfg5.mv 18 = (fun _ => []) ∧ cfg5.T 19 = e19 ∧ cfg5.mv 19 = (fun _ => []) ∧ cfg5.T 20 = e20 ∧ cfg5.mv 20 = (fun _ => []) ∧ cfg5.ti = fun _ => none := by and_intros <;> exact rfl
section
attribute [local go_sem] qbt9 e8 e9 e11 e12 e14 e17 e18 e19 e20
attribute [local go_sem] qfc
theorem con5 (hC : COk cfg5) (ts : List Table) (l : List Entry) (file : ByteArray) : Sem Tryz.prog 5 [.d (.sl 6 (ts.map q0g)), .d (.sl 8 (l.map q0r)), .d (.s file)] (.d (.b true)) := by
  refine q0f (C := cfg5) (rs := [.tmp 6]) (fun _ => []) Tryz.func5 rfl rfl rfl rfl rfl rfl ?_
  refine inQ ?_
  repeat' first
  | (with_reducible first | apply q0l | apply q0c | apply AW.seq | apply AW.block | apply AW.skip | apply AW.exit | apply AW.ret | apply q0m | apply q0n | apply q0d | apply q0e | refine q0b rfl ?_ | apply q0o | apply q0p | apply And.intro)
  | (with_reducible refine AW.runK hC ?_; intro K hK)
  | ((with_reducible first | refine q0t ?_ | refine q0k ?_); refine siQ ?_; (try simp (disch := omega) only [w64, wu8]))
  | ((first | refine AW.cond rfl (fun h => ?_) fun h => ?_ | refine AW.cond_ub rfl (fun h => ?_) ?_ | refine AW.cond_nb rfl ?_ fun h => ?_) <;> (try replace h := q0a h) <;> try (exfalso; first | omega | exact absurd h (by decide)))
  | (refine q0h ?_; refine subQ ?_)
  | (subst hK)
  | exact trivial
  all_goals try (intros; assumption)
  all_goals try refine q0v ?_
  all_goals try (intros; first | trivial | omega)
  all_goals (try (rw [w64 (by omega) (by omega)]; first | done | omega))
  all_goals clear hC
  all_goals (try have HF : qhe ts = true ∧ qld l = true := by grind)
  all_goals (try have FL := qmp HF.2)
  all_goals (try have FT := (qkt HF.1).1)
  all_goals first
  | omega
  | exact FT
  | exact FT.1
  | exact qyf FT
  | exact fun _ => qyf FT
  | exact qfs FT
  | exact qhi FT
  | exact fun _ => qfs FT
  | exact fun _ => qhi FT
  | exact fun _ => ⟨FT.1, by omega⟩
end
end Go.Ev
