/- Tools and contracts under the laws of this seat: Dyc41 to Dyc103. -/
import Derived.Test.YtkgkgcojfocomaaGreatE05
set_option linter.unusedVariables false
set_option linter.unusedSimpArgs false
namespace Go.Ev
open Go.Proofs Ty
set_option maxRecDepth 10000
set_option maxHeartbeats 4000000
noncomputable def cfg41 : Cfg := ⟨Tryz.prog, 15, (fun _ _ => none), (fun _ _ => []), [], (fun _ => none)⟩
theorem qbnj : cfg41.pins = [] ∧ cfg41.P = Tryz.prog ∧ cfg41.N = 15 := ⟨rfl, rfl, rfl⟩
section
attribute [local go_sem] qbnj
theorem qbxq (hC : COk cfg41) (n : Int) (least : Int) (most : Int) : Sem Tryz.prog 41 [.d (.i .i64 n), .d (.i .i64 least), .d (.i .i64 most)] (.d (.b (decide (least ≤ n) && decide (n ≤ most)))) := by
  refine q0f (C := cfg41) (rs := [.tmp 6]) (fun _ => []) Tryz.func41 rfl rfl rfl rfl rfl rfl ?_
  refine inQ ?_
  repeat' first
  | (with_reducible first | apply q0l | apply q0c | apply AW.seq | apply AW.block | apply AW.skip | apply AW.exit | apply AW.ret | apply q0m | apply q0n | apply q0d | apply q0e | refine q0b rfl ?_ | apply q0o | apply q0p | apply And.intro)
  | (with_reducible refine AW.runK hC ?_; intro K hK)
  | ((with_reducible first | refine q0t ?_ | refine q0k ?_); refine siQ ?_; (try simp (disch := omega) only [w64, wu8]))
  | ((first | refine AW.cond rfl (fun h => ?_) fun h => ?_ | refine AW.cond_ub rfl (fun h => ?_) ?_ | refine AW.cond_nb rfl ?_ fun h => ?_) <;> (try replace h := q0a h) <;> try (exfalso; first | omega | exact absurd h (by decide)))
  | (refine q0h ?_; refine subQ ?_)
  | (subst hK)
  | exact trivial
  all_goals try (intros; assumption)
  all_goals try refine q0v ?_
  all_goals try (intros; first | trivial | omega)
  all_goals (try (rw [w64 (by omega) (by omega)]; first | done | omega))
 
end
noncomputable def cfg100 : Cfg := mkC 15 q6l
theorem qbgj : cfg100.pins = [] ∧ cfg100.P = Tryz.prog ∧ cfg100.N = 15 := ⟨rfl, rfl, rfl⟩
section
attribute [local go_sem] qbgj
theorem qbr8 (hC : COk cfg100) (n : Int) (least : Int) (most : Int) : Sem Tryz.prog 100 [.d (.i .i64 n), .d (.i .i64 least), .d (.i .i64 most)] (.d (.b (decide (least ≤ n) && decide (n ≤ most)))) := by
  refine q0f (C := cfg100) (rs := [.tmp 6]) (fun _ => []) Tryz.func100 rfl rfl rfl rfl rfl rfl ?_
  refine inQ ?_
  repeat' first
  | (with_reducible first | apply q0l | apply q0c | apply AW.seq | apply AW.block | apply AW.skip | apply AW.exit | apply AW.ret | apply q0m | apply q0n | apply q0d | apply q0e | refine q0b rfl ?_ | apply q0o | apply q0p | apply And.intro)
  | (with_reducible refine AW.runK hC ?_; intro K hK)
  | ((with_reducible first | refine q0t ?_ | refine q0k ?_); refine siQ ?_; (try simp (disch := omega) only [w64, wu8]))
  | ((first | refine AW.cond rfl (fun h => ?_) fun h => ?_ | refine AW.cond_ub rfl (fun h => ?_) ?_ | refine AW.cond_nb rfl ?_ fun h => ?_) <;> (try replace h := q0a h) <;> try (exfalso; first | omega | exact absurd h (by decide)))
  | (refine q0h ?_; refine subQ ?_)
  | (subst hK)
  | exact trivial
  all_goals try (intros; assumption)
  all_goals try refine q0v ?_
  all_goals try (intros; first | trivial | omega)
  all_goals (try (rw [w64 (by omega) (by omega)]; first | done | omega))
 
end
noncomputable def cfg76 : Cfg := mkC 4 q00b
theorem qbnk : cfg76.pins = [] ∧ cfg76.P = Tryz.prog ∧ cfg76.N = 4 := ⟨rfl, rfl, rfl⟩
section
attribute [local go_sem] qbnk
theorem qbxr (hC : COk cfg76) (b : Bool) : Sem Tryz.prog 76 [.d (.b b)] (.d (.i .i64 (if b = true then 1 else 0))) := by
  refine q0f (C := cfg76) (rs := [.tmp 2]) (fun _ => []) Tryz.func76 rfl rfl rfl rfl rfl rfl ?_
  refine inQ ?_
  repeat' first
  | (with_reducible first | apply q0l | apply q0c | apply AW.seq | apply AW.block | apply AW.skip | apply AW.exit | apply AW.ret | apply q0m | apply q0n | apply q0d | apply q0e | refine q0b rfl ?_ | apply q0o | apply q0p | apply And.intro)
  | (with_reducible refine AW.runK hC ?_; intro K hK)
  | ((with_reducible first | refine q0t ?_ | refine q0k ?_); refine siQ ?_; (try simp (disch := omega) only [w64, wu8]))
  | ((first | refine AW.cond rfl (fun h => ?_) fun h => ?_ | refine AW.cond_ub rfl (fun h => ?_) ?_ | refine AW.cond_nb rfl ?_ fun h => ?_) <;> (try replace h := q0a h) <;> try (exfalso; first | omega | exact absurd h (by decide)))
  | (refine q0h ?_; refine subQ ?_)
  | (subst hK)
  | exact trivial
  all_goals try (intros; assumption)
  all_goals try refine q0v ?_
  all_goals try (intros; first | trivial | omega)
  all_goals (try (rw [w64 (by omega) (by omega)]; first | done | omega))
  all_goals simp [*]
end
noncomputable def cfg81 : Cfg := mkC 9 q6m
theorem qbnl : cfg81.pins = [] ∧ cfg81.P = Tryz.prog ∧ cfg81.N = 9 := ⟨rfl, rfl, rfl⟩
section
attribute [local go_sem] qbnl
theorem qbxs (hC : COk cfg81) (c : Int) : Sem Tryz.prog 81 [.d (.i .u8 c)] (.d (.b (decide (65 ≤ c) && decide (c ≤ 90)))) := by
  refine q0f (C := cfg81) (rs := [.tmp 2]) (fun _ => []) Tryz.func81 rfl rfl rfl rfl rfl rfl ?_
  refine inQ ?_
  repeat' first
  | (with_reducible first | apply q0l | apply q0c | apply AW.seq | apply AW.block | apply AW.skip | apply AW.exit | apply AW.ret | apply q0m | apply q0n | apply q0d | apply q0e | refine q0b rfl ?_ | apply q0o | apply q0p | apply And.intro)
  | (with_reducible refine AW.runK hC ?_; intro K hK)
  | ((with_reducible first | refine q0t ?_ | refine q0k ?_); refine siQ ?_; (try simp (disch := omega) only [w64, wu8]))
  | ((first | refine AW.cond rfl (fun h => ?_) fun h => ?_ | refine AW.cond_ub rfl (fun h => ?_) ?_ | refine AW.cond_nb rfl ?_ fun h => ?_) <;> (try replace h := q0a h) <;> try (exfalso; first | omega | exact absurd h (by decide)))
  | (refine q0h ?_; refine subQ ?_)
  | (subst hK)
  | exact trivial
  all_goals try (intros; assumption)
  all_goals try refine q0v ?_
  all_goals try (intros; first | trivial | omega)
  all_goals (try (rw [w64 (by omega) (by omega)]; first | done | omega))
 
end
noncomputable def cfg82 : Cfg := mkC 9 q6n
theorem qbnm : cfg82.pins = [] ∧ cfg82.P = Tryz.prog ∧ cfg82.N = 9 := ⟨rfl, rfl, rfl⟩
section
attribute [local go_sem] qbnm
theorem qbxt (hC : COk cfg82) (c : Int) : Sem Tryz.prog 82 [.d (.i .u8 c)] (.d (.b (decide (48 ≤ c) && decide (c ≤ 57)))) := by
  refine q0f (C := cfg82) (rs := [.tmp 2]) (fun _ => []) Tryz.func82 rfl rfl rfl rfl rfl rfl ?_
  refine inQ ?_
  repeat' first
  | (with_reducible first | apply q0l | apply q0c | apply AW.seq | apply AW.block | apply AW.skip | apply AW.exit | apply AW.ret | apply q0m | apply q0n | apply q0d | apply q0e | refine q0b rfl ?_ | apply q0o | apply q0p | apply And.intro)
  | (with_reducible refine AW.runK hC ?_; intro K hK)
  | ((with_reducible first | refine q0t ?_ | refine q0k ?_); refine siQ ?_; (try simp (disch := omega) only [w64, wu8]))
  | ((first | refine AW.cond rfl (fun h => ?_) fun h => ?_ | refine AW.cond_ub rfl (fun h => ?_) ?_ | refine AW.cond_nb rfl ?_ fun h => ?_) <;> (try replace h := q0a h) <;> try (exfalso; first | omega | exact absurd h (by decide)))
  | (refine q0h ?_; refine subQ ?_)
  | (subst hK)
  | exact trivial
  all_goals try (intros; assumption)
  all_goals try refine q0v ?_
  all_goals try (intros; first | trivial | omega)
  all_goals (try (rw [w64 (by omega) (by omega)]; first | done | omega))
 
end
noncomputable def cfg51 : Cfg := mkC 52 q6o
theorem qbnn : cfg51.pins = [] ∧ cfg51.P = Tryz.prog ∧ cfg51.N = 52 ∧ cfg51.T 41 = e41 ∧ cfg51.T 81 = e81 ∧ cfg51.T 82 = e82 ∧ cfg51.ti = (fun _ => none) ∧ cfg51.mv = fun _ _ => [] := by and_intros <;> exact rfl
section
attribute [local go_sem] qbnn e41 e81 e82
attribute [local go_sem] Int.toNat_natCast qdd
theorem qbxu (hC : COk cfg51) (s : ByteArray) : Sem Tryz.prog 51 [.d (.s s)] (.d (.b (qbb s))) := by
  refine q0f (C := cfg51) (rs := [.tmp 2]) (fun _ => []) Tryz.func51 rfl rfl rfl rfl rfl rfl ?_
  refine inQ ?_
  repeat' first
  | (with_reducible first | apply q0l | apply q0c | apply AW.seq | apply AW.block | apply AW.skip | apply AW.exit | apply AW.ret | apply q0m | apply q0n | apply q0d | apply q0e | refine q0b rfl ?_ | apply q0o | apply q0p | apply And.intro)
  | (with_reducible refine AW.runK hC ?_; intro K hK)
  | ((with_reducible first | refine q0t ?_ | refine q0k ?_); refine siQ ?_; (try simp (disch := omega) only [w64, wu8]))
  | ((first | refine AW.cond rfl (fun h => ?_) fun h => ?_ | refine AW.cond_ub rfl (fun h => ?_) ?_ | refine AW.cond_nb rfl ?_ fun h => ?_) <;> (try replace h := q0a h) <;> try (exfalso; first | omega | exact absurd h (by decide)))
  | (refine AW.loopN 4 rfl (ι := Nat) (fun i => mkS [(0, V.d (.s s)), (3, V.d (.i .i64 (i : Int)))] ([])) (fun i => i ≤ s.size ∧ 1 ≤ s.size ∧ s.size ≤ 10 ∧ ∀ j, j < i → qog (j == 0) (chr s j) = true) (fun i => s.size - i) (0) ?_ ?_ (fun i hi => ?_) <;> (try dsimp only) <;> (try dsimp only at hi))
  | (refine LoopNext.mk1 4 (i + 1) ?_ ?_ ?_ <;> (try dsimp only))
  | (refine q0h ?_; refine subQ ?_)
  | (subst hK)
  | exact trivial
  all_goals try (intros; assumption)
  all_goals try refine q0v ?_
  all_goals try replace hi := q0a hi
  all_goals try replace hj := q0a hj
  all_goals try (intros; first | trivial | omega)
  all_goals (try (rw [w64 (by omega) (by omega)]; first | done | omega))
  all_goals (try simp only [qtj] at *)
  all_goals first
  | omega
  | exact qpt (by omega)
  | exact qq9 (i := i) (by omega) (by rw [← Bool.not_eq_true, qk0]; omega)
  | exact fun j hj => if e : j < i then hi.2.2.2 j e else by
      have : j = i := by omega
      subst this
      rw [qk0]
      omega
  | exact qps (by omega) (by omega) fun j hj => hi.2.2.2 j (by omega)
end
noncomputable def cfg101 : Cfg := mkC 62 q6p
theorem qbgk : cfg101.pins = [] ∧ cfg101.P = Tryz.prog ∧ cfg101.N = 62 := ⟨rfl, rfl, rfl⟩
section
attribute [local go_sem] qbgk
attribute [local go_sem] Int.toNat_natCast qdd
theorem qbr9 (hC : COk cfg101) (s : ByteArray) : Sem Tryz.prog 101 [.d (.s s)] (.d (.b (qbb s))) := by
  refine q0f (C := cfg101) (rs := [.tmp 2]) (fun _ => []) Tryz.func101 rfl rfl rfl rfl rfl rfl ?_
  refine inQ ?_
  repeat' first
  | (with_reducible first | apply q0l | apply q0c | apply AW.seq | apply AW.block | apply AW.skip | apply AW.exit | apply AW.ret | apply q0m | apply q0n | apply q0d | apply q0e | refine q0b rfl ?_ | apply q0o | apply q0p | apply And.intro)
  | (with_reducible refine AW.runK hC ?_; intro K hK)
  | ((with_reducible first | refine q0t ?_ | refine q0k ?_); refine siQ ?_; (try simp (disch := omega) only [w64, wu8]))
  | ((first | refine AW.cond rfl (fun h => ?_) fun h => ?_ | refine AW.cond_ub rfl (fun h => ?_) ?_ | refine AW.cond_nb rfl ?_ fun h => ?_) <;> (try replace h := q0a h) <;> try (exfalso; first | omega | exact absurd h (by decide)))
  | (refine AW.loopN 4 rfl (ι := Nat) (fun i => mkS [(0, V.d (.s s)), (14, V.d (.i .i64 (s.size : Int))), (15, V.d (.i .i64 (i : Int)))] ([])) (fun i => i ≤ s.size ∧ 1 ≤ s.size ∧ s.size ≤ 10 ∧ ∀ j, j < i → qog (j == 0) (chr s j) = true) (fun i => s.size - i) (0) ?_ ?_ (fun i hi => ?_) <;> (try dsimp only) <;> (try dsimp only at hi))
  | (refine LoopNext.mk1 4 (i + 1) ?_ ?_ ?_ <;> (try dsimp only))
  | (refine q0h ?_; refine subQ ?_)
  | (subst hK)
  | exact trivial
  all_goals try (intros; assumption)
  all_goals try refine q0v ?_
  all_goals try replace hi := q0a hi
  all_goals try replace hj := q0a hj
  all_goals try (intros; first | trivial | omega)
  all_goals (try (rw [w64 (by omega) (by omega)]; first | done | omega))
  all_goals (try simp only [qtj] at *)
  all_goals first
  | omega
  | exact qpt (by omega)
  | exact qq9 (i := i) (by omega) (by rw [← Bool.not_eq_true, qk0]; omega)
  | exact fun j hj => if e : j < i then hi.2.2.2 j e else by
      have : j = i := by omega
      subst this
      rw [qk0]
      omega
  | exact qps (by omega) (by omega) fun j hj => hi.2.2.2 j (by omega)
end
noncomputable def cfg128 : Cfg := mkC 41 q00c
theorem qbgl : cfg128.pins = [] ∧ cfg128.P = Tryz.prog ∧ cfg128.N = 41 ∧ cfg128.T 41 = e41 ∧ cfg128.T 76 = e76 ∧ cfg128.ti = (fun _ => none) ∧ cfg128.mv = fun _ _ => [] := by and_intros <;> exact rfl
section
attribute [local go_sem] qbgl e41 e76
attribute [local go_sem] q0u q0r qd5 qeo qba qb4 qbh qcl q00 q0w qdr
theorem qbsa (hC : COk cfg128) (c : Change) : Sem Tryz.prog 128 [.d (q0u c)] (.d (.i .i64 (qk1 c))) := by
  refine q0f (C := cfg128) (rs := [.tmp 2]) (fun _ => []) Tryz.func128 rfl rfl rfl rfl rfl rfl ?_
  refine inQ ?_
  repeat' first
  | (with_reducible first | apply q0l | apply q0c | apply AW.seq | apply AW.block | apply AW.skip | apply AW.exit | apply AW.ret | apply q0m | apply q0n | apply q0d | apply q0e | refine q0b rfl ?_ | apply q0o | apply q0p | apply And.intro)
  | (with_reducible refine AW.runK hC ?_; intro K hK)
  | ((with_reducible first | refine q0t ?_ | refine q0k ?_); refine siQ ?_; (try simp (disch := omega) only [w64, wu8]))
  | ((first | refine AW.cond rfl (fun h => ?_) fun h => ?_ | refine AW.cond_ub rfl (fun h => ?_) ?_ | refine AW.cond_nb rfl ?_ fun h => ?_) <;> (try replace h := q0a h) <;> try (exfalso; first | omega | exact absurd h (by decide)))
  | (refine q0h ?_; refine subQ ?_)
  | (subst hK)
  | exact trivial
  all_goals try (intros; assumption)
  all_goals try refine q0v ?_
  all_goals try (intros; first | trivial | omega)
  all_goals (try (rw [w64 (by omega) (by omega)]; first | done | omega))
  all_goals grind [qk1]
end
noncomputable def cfg127 : Cfg := mkC 38 q00d
theorem qbgm : cfg127.pins = [] ∧ cfg127.P = Tryz.prog ∧ cfg127.N = 38 ∧ cfg127.ti 76 = none ∧ cfg127.T 76 = e76 ∧ cfg127.mv 76 = (fun _ => []) := by and_intros <;> exact rfl
section
attribute [local go_sem] qbgm e76
attribute [local go_sem] q0u q0r qd5 qeo qba qb4 qbh qcl q00 q0w qdr
theorem qbsb (hC : COk cfg127) (e : Entry) : Sem Tryz.prog 127 [.d (q0r e)] (.d (.i .i64 (qsc e))) := by
  refine q0f (C := cfg127) (rs := [.tmp 2]) (fun _ => []) Tryz.func127 rfl rfl rfl rfl rfl rfl ?_
  refine inQ ?_
  repeat' first
  | (with_reducible first | apply q0l | apply q0c | apply AW.seq | apply AW.block | apply AW.skip | apply AW.exit | apply AW.ret | apply q0m | apply q0n | apply q0d | apply q0e | refine q0b rfl ?_ | apply q0o | apply q0p | apply And.intro)
  | (with_reducible first | (refine AW.runK hC ?_; intro K hK) | (refine AW.drawK hC (by kernel_rfl) ?_; intro K hK))
  | ((with_reducible first | refine q0t ?_ | refine qbz ?_ | refine q0k ?_); refine siQ ?_; (try simp (disch := omega) only [w64, wu8]))
  | (with_reducible refine qbj (by kernel_rfl) ?_)
  | ((first | refine AW.cond rfl (fun h => ?_) fun h => ?_ | refine AW.cond_ub rfl (fun h => ?_) ?_ | refine AW.cond_nb rfl ?_ fun h => ?_) <;> (try replace h := q0a h) <;> try (exfalso; first | omega | exact absurd h (by decide)))
  | (refine q0h ?_; refine subQ ?_)
  | (subst hK)
  | exact trivial
  all_goals try (intros; assumption)
  all_goals try refine q0v ?_
  all_goals try (intros; first | trivial | omega)
  all_goals (try (rw [w64 (by omega) (by omega)]; first | done | omega))
  all_goals simp only [qsc, qlz, qxg, qun, q09, decide_eq_false_iff_not]
  all_goals grind
end
noncomputable def cfg102 : Cfg := mkC 64 q00e
theorem qbgn : cfg102.pins = [] ∧ cfg102.P = Tryz.prog ∧ cfg102.N = 64 ∧ cfg102.T 41 = e41 ∧ cfg102.T 51 = e51 ∧ cfg102.T 76 = e76 ∧ cfg102.T 127 = e127 ∧ cfg102.T 128 = e128 ∧ cfg102.ti = (fun _ => none) ∧ cfg102.mv = fun _ _ => [] := by and_intros <;> exact rfl
section
attribute [local go_sem] qbgn e41 e51 e76 e127 e128
attribute [local go_sem] q0u q0r qd5 qeo qba qb4 qbh qcl q00 q0w qdr
theorem qbsc (hC : COk cfg102) (e : Entry) : Sem Tryz.prog 102 [.d (q0r e)] (.d (.i .i64 (qc7 e))) := by
  refine q0f (C := cfg102) (rs := [.tmp 2]) (fun _ => []) Tryz.func102 rfl rfl rfl rfl rfl rfl ?_
  refine inQ ?_
  repeat' first
  | (with_reducible first | apply q0l | apply q0c | apply AW.seq | apply AW.block | apply AW.skip | apply AW.exit | apply AW.ret | apply q0m | apply q0n | apply q0d | apply q0e | refine q0b rfl ?_ | apply q0o | apply q0p | apply And.intro)
  | (with_reducible first | (refine AW.runK hC ?_; intro K hK) | (refine AW.drawK hC (by kernel_rfl) ?_; intro K hK))
  | ((with_reducible first | refine q0t ?_ | refine qbz ?_ | refine q0k ?_); refine siQ ?_; (try simp (disch := omega) only [w64, wu8]))
  | (with_reducible refine qbj (by kernel_rfl) ?_)
  | ((first | refine AW.cond rfl (fun h => ?_) fun h => ?_ | refine AW.cond_ub rfl (fun h => ?_) ?_ | refine AW.cond_nb rfl ?_ fun h => ?_) <;> (try replace h := q0a h) <;> try (exfalso; first | omega | exact absurd h (by decide)))
  | (refine q0h ?_; refine subQ ?_)
  | (subst hK)
  | exact trivial
  all_goals try (intros; assumption)
  all_goals try refine q0v ?_
  all_goals try (intros; first | trivial | omega)
  all_goals (try (rw [w64 (by omega) (by omega)]; first | done | omega))
  all_goals grind [qc7, qsc]
end
noncomputable def cfg79 : Cfg := mkC 112 q00f
theorem qbno : cfg79.pins = [] ∧ cfg79.P = Tryz.prog ∧ cfg79.N = 112 ∧ cfg79.T 100 = e100 ∧ cfg79.T 101 = e101 ∧ cfg79.ti = (fun _ => none) ∧ cfg79.mv = fun _ _ => [] := by and_intros <;> exact rfl
section
attribute [local go_sem] qbno e100 e101
attribute [local go_sem] q0u q0r qd5 qeo qba qb4 qbh qcl q00 q0w qdr
set_option maxHeartbeats 2000000 in
theorem qbxv (hC : COk cfg79) (e : Entry) : Sem Tryz.prog 79 [.d (q0r e)] (.d (.i .i64 (qc7 e))) := by
  refine q0f (C := cfg79) (rs := [.tmp 2]) (fun _ => []) Tryz.func79 rfl rfl rfl rfl rfl rfl ?_
  refine inQ ?_
  repeat' first
  | (with_reducible first | apply q0l | apply q0c | apply AW.seq | apply AW.block | apply AW.skip | apply AW.exit | apply AW.ret | apply q0m | apply q0n | apply q0d | apply q0e | refine q0b rfl ?_ | apply q0o | apply q0p | apply And.intro)
  | (with_reducible refine AW.runK hC ?_; intro K hK)
  | ((with_reducible first | refine q0t ?_ | refine q0k ?_); refine siQ ?_; (try simp (disch := omega) only [w64, wu8]))
  | ((first | refine AW.cond rfl (fun h => ?_) fun h => ?_ | refine AW.cond_ub rfl (fun h => ?_) ?_ | refine AW.cond_nb rfl ?_ fun h => ?_) <;> (try replace h := q0a h) <;> try (exfalso; first | omega | exact absurd h (by decide)))
  | (refine q0h ?_; refine subQ ?_)
  | (subst hK)
  | exact trivial
  all_goals try (intros; assumption)
  all_goals try refine q0v ?_
  all_goals try (intros; first | trivial | omega)
  all_goals (try (rw [w64 (by omega) (by omega)]; first | done | omega))
  all_goals simp only [qc7, qlz, qxg, qun, decide_eq_false_iff_not, decide_eq_true_eq, q09, qk1] at *
  all_goals grind
end
noncomputable def cfg33 : Cfg := mkC 32 q6q
theorem qbnp : cfg33.pins = [] ∧ cfg33.P = Tryz.prog ∧ cfg33.N = 32 := ⟨rfl, rfl, rfl⟩
section
attribute [local go_sem] qbnp
attribute [local go_sem] q0u q0r qd5 qeo qba qb4 qbh qcl q00 q0w qdr qcn qdu List.length_map Int.toNat_natCast Int.toNat_zero Nat.sub_zero List.length_take qch qbn qb2 qd0 qdm qdz qe6 qgg
attribute [local go_sem ←] List.map_take List.map_drop
theorem qbxw (hC : COk cfg33) (l : List Entry) : Sem Tryz.prog 33 [.d (.sl 8 (l.map q0r))] (.d (.b (qld l))) := by
  refine q0f (C := cfg33) (rs := [.tmp 2]) (fun _ => []) Tryz.func33 rfl rfl rfl rfl rfl rfl ?_
  refine inQ ?_
  repeat' first
  | (with_reducible first | apply q0l | apply q0c | apply AW.seq | apply AW.block | apply AW.skip | apply AW.exit | apply AW.ret | apply q0m | apply q0n | apply q0d | apply q0e | refine q0b rfl ?_ | apply q0o | apply q0p | apply And.intro)
  | (with_reducible refine AW.runK hC ?_; intro K hK)
  | ((with_reducible first | refine q0t ?_ | refine q0k ?_); refine siQ ?_; (try simp (disch := omega) only [w64, wu8]))
  | ((first | refine AW.cond rfl (fun h => ?_) fun h => ?_ | refine AW.cond_ub rfl (fun h => ?_) ?_ | refine AW.cond_nb rfl ?_ fun h => ?_) <;> (try replace h := q0a h) <;> try (exfalso; first | omega | exact absurd h (by decide)))
  | (refine AW.loopN 2 rfl (ι := Nat) (fun i => mkS [(0, V.d (.sl 8 (l.map q0r))), (3, V.d (.i .i64 (i : Int)))] ([])) (fun i => i ≤ l.length ∧ qpr i (l.drop i) = qld l) (fun i => l.length - i) (0) ?_ ?_ (fun i hi => ?_) <;> (try dsimp only) <;> (try dsimp only at hi))
  | (refine LoopNext.mk1 2 (i + 1) ?_ ?_ ?_ <;> (try dsimp only))
  | (refine q0h ?_; refine subQ ?_)
  | (subst hK)
  | exact trivial
  all_goals try (intros; assumption)
  all_goals try refine q0v ?_
  all_goals try replace hi := q0a hi
  all_goals try (intros; first | trivial | omega)
  all_goals (try (rw [w64 (by omega) (by omega)]; first | done | omega))
  all_goals first
  | rfl
  | (rw [← hi.2, qe5 q0i (by omega), qpr]; grind)
  | (rw [← hi.2, List.drop_of_length_le (by omega)]; rfl)
  | (have := hi.2; rw [qe5 q0i (by omega), qpr] at this; grind)
end
noncomputable def cfg86 : Cfg := mkC 27 q6r
theorem qbnq : cfg86.pins = [] ∧ cfg86.P = Tryz.prog ∧ cfg86.N = 27 := ⟨rfl, rfl, rfl⟩
section
attribute [local go_sem] qbnq
attribute [local go_sem] q0u q0r qd5 qeo qba qb4 qbh qcl q00 q0w qdr qcn qdu List.length_map Int.toNat_natCast Int.toNat_zero Nat.sub_zero List.length_take qch qbn qb2 qd0 qdm qdz qe6 qgg
attribute [local go_sem ←] List.map_take List.map_drop
theorem qbxx (hC : COk cfg86) (l : List Entry) (unit : Int) (hp : l.length ≤ 1000000) : Sem Tryz.prog 86 [.d (.sl 8 (l.map q0r)), .d (.i .i64 unit)] (.d (.b (begins l unit))) := by
  refine q0f (C := cfg86) (rs := [.tmp 4]) (fun _ => []) Tryz.func86 rfl rfl rfl rfl rfl rfl ?_
  refine inQ ?_
  repeat' first
  | (with_reducible first | apply q0l | apply q0c | apply AW.seq | apply AW.block | apply AW.skip | apply AW.exit | apply AW.ret | apply q0m | apply q0n | apply q0d | apply q0e | refine q0b rfl ?_ | apply q0o | apply q0p | apply And.intro)
  | (with_reducible refine AW.runK hC ?_; intro K hK)
  | ((with_reducible first | refine q0t ?_ | refine q0k ?_); refine siQ ?_; (try simp (disch := omega) only [w64, wu8]))
  | ((first | refine AW.cond rfl (fun h => ?_) fun h => ?_ | refine AW.cond_ub rfl (fun h => ?_) ?_ | refine AW.cond_nb rfl ?_ fun h => ?_) <;> (try replace h := q0a h) <;> try (exfalso; first | omega | exact absurd h (by decide)))
  | (refine AW.loopN 2 rfl (ι := Nat) (fun i => mkS [(0, V.d (.sl 8 (l.map q0r))), (1, V.d (.i .i64 unit)), (5, V.d (.i .i64 (i : Int)))] ([])) (fun i => i ≤ l.length ∧ begins (l.take i) unit = false) (fun i => l.length - i) (0) ?_ ?_ (fun i hi => ?_) <;> (try dsimp only) <;> (try dsimp only at hi))
  | (refine LoopNext.mk1 2 (i + 1) ?_ ?_ ?_ <;> (try dsimp only))
  | (refine q0h ?_; refine subQ ?_)
  | (subst hK)
  | exact trivial
  all_goals try (intros; assumption)
  all_goals try refine q0v ?_
  all_goals try replace hp := q0a hp
  all_goals try replace hi := q0a hi
  all_goals try (intros; first | trivial | omega)
  all_goals (try (rw [w64 (by omega) (by omega)]; first | done | omega))
  all_goals first
  | rfl
  | exact qpu (i := i) (by omega) (by omega) (by omega)
  | exact q3q hi.2 (by omega) (by omega)
  | exact q6b hi.2 (by omega)
end
noncomputable def cfg87 : Cfg := mkC 40 q6s
theorem qbnr : cfg87.pins = [] ∧ cfg87.P = Tryz.prog ∧ cfg87.N = 40 := ⟨rfl, rfl, rfl⟩
section
attribute [local go_sem] qbnr
attribute [local go_sem] q0u q0r qd5 qeo qba qb4 qbh qcl q00 q0w qdr qcn qdu List.length_map Int.toNat_natCast Int.toNat_zero Nat.sub_zero List.length_take qch qbn qb2 qd0 qdm qdz qe6 qgg
attribute [local go_sem ←] List.map_take List.map_drop
theorem qbxy (hC : COk cfg87) (l : List Entry) (unit : Int) (hp : l.length ≤ 1000000) : Sem Tryz.prog 87 [.d (.sl 8 (l.map q0r)), .d (.i .i64 unit)] (.d (.i .i64 (ends l unit))) := by
  refine q0f (C := cfg87) (rs := [.tmp 4]) (fun _ => []) Tryz.func87 rfl rfl rfl rfl rfl rfl ?_
  refine inQ ?_
  repeat' first
  | (with_reducible first | apply q0l | apply q0c | apply AW.seq | apply AW.block | apply AW.skip | apply AW.exit | apply AW.ret | apply q0m | apply q0n | apply q0d | apply q0e | refine q0b rfl ?_ | apply q0o | apply q0p | apply And.intro)
  | (with_reducible refine AW.runK hC ?_; intro K hK)
  | ((with_reducible first | refine q0t ?_ | refine q0k ?_); refine siQ ?_; (try simp (disch := omega) only [w64, wu8]))
  | ((first | refine AW.cond rfl (fun h => ?_) fun h => ?_ | refine AW.cond_ub rfl (fun h => ?_) ?_ | refine AW.cond_nb rfl ?_ fun h => ?_) <;> (try replace h := q0a h) <;> try (exfalso; first | omega | exact absurd h (by decide)))
  | (refine AW.loopN 2 rfl (ι := Nat) (fun i => mkS [(0, V.d (.sl 8 (l.map q0r))), (1, V.d (.i .i64 unit)), (5, V.d (.i .i64 (i : Int)))] ([])) (fun i => i ≤ l.length ∧ qfr (l.take i) unit = none) (fun i => l.length - i) (0) ?_ ?_ (fun i hi => ?_) <;> (try dsimp only) <;> (try dsimp only at hi))
  | (refine LoopNext.mk1 2 (i + 1) ?_ ?_ ?_ <;> (try dsimp only))
  | (refine q0h ?_; refine subQ ?_)
  | (subst hK)
  | exact trivial
  all_goals try (intros; assumption)
  all_goals try refine q0v ?_
  all_goals try replace hp := q0a hp
  all_goals try replace hi := q0a hi
  all_goals try (intros; first | trivial | omega)
  all_goals (try (rw [w64 (by omega) (by omega)]; first | done | omega))
  all_goals first
  | rfl
  | exact qz1 (i := i) hi.2 (by omega) (by omega) (by omega)
  | exact (qz1 (i := i) hi.2 (by omega) (by omega) (by omega)).symm
  | exact qbao hi.2 (by omega) (by omega)
  | exact qbet hi.2 (by omega)
end
noncomputable def cfg57 : Cfg := mkC 14 q6t
theorem qbns : cfg57.pins = [] ∧ cfg57.P = Tryz.prog ∧ cfg57.N = 14 ∧ cfg57.T 86 = e86 ∧ cfg57.T 87 = e87 ∧ cfg57.ti = (fun _ => none) ∧ cfg57.mv = fun _ _ => [] := by and_intros <;> exact rfl
section
attribute [local go_sem] qbns e86 e87
attribute [local go_sem] q0u q0r qd5 qeo qba qb4 qbh qcl q00 q0w qdr qcn qdu List.length_map Int.toNat_natCast Int.toNat_zero Nat.sub_zero List.length_take qch qbn qb2 qd0 qdm qdz qe6 qgg
attribute [local go_sem ←] List.map_take List.map_drop
theorem qbxz (hC : COk cfg57) (l : List Entry) (unit : Int) (hp : l.length ≤ 1000000) : Sem Tryz.prog 57 [.d (.sl 8 (l.map q0r)), .d (.i .i64 unit)] (.d (.b (isOpen l unit))) := by
  refine q0f (C := cfg57) (rs := [.tmp 4]) (fun _ => []) Tryz.func57 rfl rfl rfl rfl rfl rfl ?_
  refine inQ ?_
  repeat' first
  | (with_reducible first | apply q0l | apply q0c | apply AW.seq | apply AW.block | apply AW.skip | apply AW.exit | apply AW.ret | apply q0m | apply q0n | apply q0d | apply q0e | refine q0b rfl ?_ | apply q0o | apply q0p | apply And.intro)
  | (with_reducible refine AW.runK hC ?_; intro K hK)
  | ((with_reducible first | refine q0t ?_ | refine q0k ?_); refine siQ ?_; (try simp (disch := omega) only [w64, wu8]))
  | ((first | refine AW.cond rfl (fun h => ?_) fun h => ?_ | refine AW.cond_ub rfl (fun h => ?_) ?_ | refine AW.cond_nb rfl ?_ fun h => ?_) <;> (try replace h := q0a h) <;> try (exfalso; first | omega | exact absurd h (by decide)))
  | (refine q0h ?_; refine subQ ?_)
  | (subst hK)
  | exact trivial
  all_goals try (intros; assumption)
  all_goals try refine q0v ?_
  all_goals try replace hp := q0a hp
  all_goals try (intros; first | trivial | omega)
  all_goals (try (rw [w64 (by omega) (by omega)]; first | done | omega))
  all_goals grind [isOpen]
end
noncomputable def cfg103 : Cfg := mkC 39 q6u
theorem qbgo : cfg103.pins = [] ∧ cfg103.P = Tryz.prog ∧ cfg103.N = 39 ∧ cfg103.T 57 = e57 ∧ cfg103.T 76 = e76 ∧ cfg103.T 86 = e86 ∧ cfg103.ti = (fun _ => none) ∧ cfg103.mv = fun _ _ => [] := by and_intros <;> exact rfl
section
attribute [local go_sem] qbgo e57 e76 e86
attribute [local go_sem] q0u q0r qd5 qeo qba qb4 qbh qcl q00 q0w qdr qcn qdu List.length_map Int.toNat_natCast Int.toNat_zero Nat.sub_zero List.length_take qch qbn qb2 qd0 qdm qdz qe6 qgg
attribute [local go_sem ←] List.map_take List.map_drop
theorem qbsd (hC : COk cfg103) (l : List Entry) (e : Entry) (hp : l.length ≤ 1000000) : Sem Tryz.prog 103 [.d (.sl 8 (l.map q0r)), .d (q0r e)] (.d (.i .i64 (qep l e))) := by
  refine q0f (C := cfg103) (rs := [.tmp 4]) (fun _ => []) Tryz.func103 rfl rfl rfl rfl rfl rfl ?_
  refine inQ ?_
  repeat' first
  | (with_reducible first | apply q0l | apply q0c | apply AW.seq | apply AW.block | apply AW.skip | apply AW.exit | apply AW.ret | apply q0m | apply q0n | apply q0d | apply q0e | refine q0b rfl ?_ | apply q0o | apply q0p | apply And.intro)
  | (with_reducible refine AW.runK hC ?_; intro K hK)
  | ((with_reducible first | refine q0t ?_ | refine q0k ?_); refine siQ ?_; (try simp (disch := omega) only [w64, wu8]))
  | ((first | refine AW.cond rfl (fun h => ?_) fun h => ?_ | refine AW.cond_ub rfl (fun h => ?_) ?_ | refine AW.cond_nb rfl ?_ fun h => ?_) <;> (try replace h := q0a h) <;> try (exfalso; first | omega | exact absurd h (by decide)))
  | (refine q0h ?_; refine subQ ?_)
  | (subst hK)
  | exact trivial
  all_goals try (intros; assumption)
  all_goals try refine q0v ?_
  all_goals try replace hp := q0a hp
  all_goals try (intros; first | trivial | omega)
  all_goals (try (rw [w64 (by omega) (by omega)]; first | done | omega))
  all_goals grind [qep]
end
end Go.Ev
