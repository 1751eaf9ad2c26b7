/- Tools and contracts under the laws of this seat: Dyc41 to Dyc103. -/
import Derived.Test.YtkgkgcojfocomaaGreatE05
set_option linter.unusedVariables false
set_option linter.unusedSimpArgs false
namespace Go.Ev
open Go.Proofs Ty
set_option maxRecDepth 10000
set_option maxHeartbeats 4000000
set_option linter.unusedSimpArgs false
set_option linter.unusedVariables false
noncomputable def cfg41 : Cfg := ⟨Tryz.prog, 15, (fun _ _ => none), (fun _ _ => []), [], (fun _ => none)⟩
theorem qblg : cfg41.pins = [] ∧ cfg41.P = Tryz.prog ∧ cfg41.N = 15 := ⟨rfl, rfl, rfl⟩
section
attribute [local go_sem] qblg
theorem qbvi (hC : COk cfg41) (n : Int) (least : Int) (most : Int) : Sem Tryz.prog 41 [.d (.i .i64 n), .d (.i .i64 least), .d (.i .i64 most)] (.d (.b (decide (least ≤ n) && decide (n ≤ most)))) := by
  refine q0f (C := cfg41) (rs := [.tmp 6]) (fun _ => []) Tryz.func41 rfl rfl rfl rfl rfl rfl ?_
  refine inQ ?_
  repeat' first
    | (with_reducible first | apply q0j | apply q0c | apply AW.seq | apply AW.block)
    | (with_reducible refine AW.runK hC ?_; intro K hK)
    | ((with_reducible first | refine q0t ?_ | refine q0i ?_); refine siQ ?_; (try simp (disch := omega) only [w64, wu8]))
    | ((first | (refine AW.cond rfl (fun h => ?_) (fun h => ?_)) | (refine AW.cond_ub rfl (fun h => ?_) ?_) | (refine AW.cond_nb rfl ?_ (fun h => ?_))) <;> (try replace h := q0a h) <;> (try (exfalso; first | omega | exact absurd h (by decide))))
    | (with_reducible first | apply AW.skip | apply AW.exit | apply AW.ret | apply q0k | apply q0l | apply q0d | apply q0e | refine q0b rfl ?_ | apply q0m | apply q0n)
    | (refine q0h ?_; refine subQ ?_)
    | (with_reducible refine And.intro ?_ ?_)
    | (subst hK)
    | exact trivial
  all_goals (try (intros; assumption))
  all_goals (try refine q0v ?_)
  all_goals (try (intros; trivial))
  all_goals (try (intros; omega))
  all_goals (try (rw [w64 (by omega) (by omega)]; first | done | omega))
 
end
noncomputable def cfg100 : Cfg := ⟨Tryz.prog, 15, q4z, (fun _ _ => []), [], (fun _ => none)⟩
theorem qbel : cfg100.pins = [] ∧ cfg100.P = Tryz.prog ∧ cfg100.N = 15 := ⟨rfl, rfl, rfl⟩
section
attribute [local go_sem] qbel
theorem qbp1 (hC : COk cfg100) (n : Int) (least : Int) (most : Int) : Sem Tryz.prog 100 [.d (.i .i64 n), .d (.i .i64 least), .d (.i .i64 most)] (.d (.b (decide (least ≤ n) && decide (n ≤ most)))) := by
  refine q0f (C := cfg100) (rs := [.tmp 6]) (fun _ => []) Tryz.func100 rfl rfl rfl rfl rfl rfl ?_
  refine inQ ?_
  repeat' first
    | (with_reducible first | apply q0j | apply q0c | apply AW.seq | apply AW.block)
    | (with_reducible refine AW.runK hC ?_; intro K hK)
    | ((with_reducible first | refine q0t ?_ | refine q0i ?_); refine siQ ?_; (try simp (disch := omega) only [w64, wu8]))
    | ((first | (refine AW.cond rfl (fun h => ?_) (fun h => ?_)) | (refine AW.cond_ub rfl (fun h => ?_) ?_) | (refine AW.cond_nb rfl ?_ (fun h => ?_))) <;> (try replace h := q0a h) <;> (try (exfalso; first | omega | exact absurd h (by decide))))
    | (with_reducible first | apply AW.skip | apply AW.exit | apply AW.ret | apply q0k | apply q0l | apply q0d | apply q0e | refine q0b rfl ?_ | apply q0m | apply q0n)
    | (refine q0h ?_; refine subQ ?_)
    | (with_reducible refine And.intro ?_ ?_)
    | (subst hK)
    | exact trivial
  all_goals (try (intros; assumption))
  all_goals (try refine q0v ?_)
  all_goals (try (intros; trivial))
  all_goals (try (intros; omega))
  all_goals (try (rw [w64 (by omega) (by omega)]; first | done | omega))
 
end
noncomputable def cfg76 : Cfg := ⟨Tryz.prog, 4, qyz, (fun _ _ => []), [], (fun _ => none)⟩
theorem qblh : cfg76.pins = [] ∧ cfg76.P = Tryz.prog ∧ cfg76.N = 4 := ⟨rfl, rfl, rfl⟩
section
attribute [local go_sem] qblh
theorem qbvj (hC : COk cfg76) (b : Bool) : Sem Tryz.prog 76 [.d (.b b)] (.d (.i .i64 (if b = true then 1 else 0))) := by
  refine q0f (C := cfg76) (rs := [.tmp 2]) (fun _ => []) Tryz.func76 rfl rfl rfl rfl rfl rfl ?_
  refine inQ ?_
  repeat' first
    | (with_reducible first | apply q0j | apply q0c | apply AW.seq | apply AW.block)
    | (with_reducible refine AW.runK hC ?_; intro K hK)
    | ((with_reducible first | refine q0t ?_ | refine q0i ?_); refine siQ ?_; (try simp (disch := omega) only [w64, wu8]))
    | ((first | (refine AW.cond rfl (fun h => ?_) (fun h => ?_)) | (refine AW.cond_ub rfl (fun h => ?_) ?_) | (refine AW.cond_nb rfl ?_ (fun h => ?_))) <;> (try replace h := q0a h) <;> (try (exfalso; first | omega | exact absurd h (by decide))))
    | (with_reducible first | apply AW.skip | apply AW.exit | apply AW.ret | apply q0k | apply q0l | apply q0d | apply q0e | refine q0b rfl ?_ | apply q0m | apply q0n)
    | (refine q0h ?_; refine subQ ?_)
    | (with_reducible refine And.intro ?_ ?_)
    | (subst hK)
    | exact trivial
  all_goals (try (intros; assumption))
  all_goals (try refine q0v ?_)
  all_goals (try (intros; trivial))
  all_goals (try (intros; omega))
  all_goals (try (rw [w64 (by omega) (by omega)]; first | done | omega))
  all_goals simp [*]
end
noncomputable def cfg81 : Cfg := ⟨Tryz.prog, 9, q40, (fun _ _ => []), [], (fun _ => none)⟩
theorem qbli : cfg81.pins = [] ∧ cfg81.P = Tryz.prog ∧ cfg81.N = 9 := ⟨rfl, rfl, rfl⟩
section
attribute [local go_sem] qbli
theorem qbvk (hC : COk cfg81) (c : Int) : Sem Tryz.prog 81 [.d (.i .u8 c)] (.d (.b (decide (65 ≤ c) && decide (c ≤ 90)))) := by
  refine q0f (C := cfg81) (rs := [.tmp 2]) (fun _ => []) Tryz.func81 rfl rfl rfl rfl rfl rfl ?_
  refine inQ ?_
  repeat' first
    | (with_reducible first | apply q0j | apply q0c | apply AW.seq | apply AW.block)
    | (with_reducible refine AW.runK hC ?_; intro K hK)
    | ((with_reducible first | refine q0t ?_ | refine q0i ?_); refine siQ ?_; (try simp (disch := omega) only [w64, wu8]))
    | ((first | (refine AW.cond rfl (fun h => ?_) (fun h => ?_)) | (refine AW.cond_ub rfl (fun h => ?_) ?_) | (refine AW.cond_nb rfl ?_ (fun h => ?_))) <;> (try replace h := q0a h) <;> (try (exfalso; first | omega | exact absurd h (by decide))))
    | (with_reducible first | apply AW.skip | apply AW.exit | apply AW.ret | apply q0k | apply q0l | apply q0d | apply q0e | refine q0b rfl ?_ | apply q0m | apply q0n)
    | (refine q0h ?_; refine subQ ?_)
    | (with_reducible refine And.intro ?_ ?_)
    | (subst hK)
    | exact trivial
  all_goals (try (intros; assumption))
  all_goals (try refine q0v ?_)
  all_goals (try (intros; trivial))
  all_goals (try (intros; omega))
  all_goals (try (rw [w64 (by omega) (by omega)]; first | done | omega))
 
end
noncomputable def cfg82 : Cfg := ⟨Tryz.prog, 9, q41, (fun _ _ => []), [], (fun _ => none)⟩
theorem qblj : cfg82.pins = [] ∧ cfg82.P = Tryz.prog ∧ cfg82.N = 9 := ⟨rfl, rfl, rfl⟩
section
attribute [local go_sem] qblj
theorem qbvl (hC : COk cfg82) (c : Int) : Sem Tryz.prog 82 [.d (.i .u8 c)] (.d (.b (decide (48 ≤ c) && decide (c ≤ 57)))) := by
  refine q0f (C := cfg82) (rs := [.tmp 2]) (fun _ => []) Tryz.func82 rfl rfl rfl rfl rfl rfl ?_
  refine inQ ?_
  repeat' first
    | (with_reducible first | apply q0j | apply q0c | apply AW.seq | apply AW.block)
    | (with_reducible refine AW.runK hC ?_; intro K hK)
    | ((with_reducible first | refine q0t ?_ | refine q0i ?_); refine siQ ?_; (try simp (disch := omega) only [w64, wu8]))
    | ((first | (refine AW.cond rfl (fun h => ?_) (fun h => ?_)) | (refine AW.cond_ub rfl (fun h => ?_) ?_) | (refine AW.cond_nb rfl ?_ (fun h => ?_))) <;> (try replace h := q0a h) <;> (try (exfalso; first | omega | exact absurd h (by decide))))
    | (with_reducible first | apply AW.skip | apply AW.exit | apply AW.ret | apply q0k | apply q0l | apply q0d | apply q0e | refine q0b rfl ?_ | apply q0m | apply q0n)
    | (refine q0h ?_; refine subQ ?_)
    | (with_reducible refine And.intro ?_ ?_)
    | (subst hK)
    | exact trivial
  all_goals (try (intros; assumption))
  all_goals (try refine q0v ?_)
  all_goals (try (intros; trivial))
  all_goals (try (intros; omega))
  all_goals (try (rw [w64 (by omega) (by omega)]; first | done | omega))
 
end
noncomputable def cfg51 : Cfg := ⟨Tryz.prog, 52, q42, (fun _ _ => []), [], (fun _ => none)⟩
theorem qblk : cfg51.pins = [] ∧ cfg51.P = Tryz.prog ∧ cfg51.N = 52 ∧ cfg51.ti 41 = none ∧ cfg51.T 41 = e41 ∧ cfg51.mv 41 = (fun _ => []) ∧ cfg51.ti 81 = none ∧ cfg51.T 81 = e81 ∧ cfg51.mv 81 = (fun _ => []) ∧ cfg51.ti 82 = none ∧ cfg51.T 82 = e82 ∧ cfg51.mv 82 = (fun _ => []) := ⟨rfl, rfl, rfl, rfl, rfl, rfl, rfl, rfl, rfl, rfl, rfl, rfl⟩
section
attribute [local go_sem] qblk e41 e81 e82
attribute [local go_sem] Int.toNat_natCast qc9
theorem qbvm (hC : COk cfg51) (s : ByteArray) : Sem Tryz.prog 51 [.d (.s s)] (.d (.b (qbb s))) := by
  refine q0f (C := cfg51) (rs := [.tmp 2]) (fun _ => []) Tryz.func51 rfl rfl rfl rfl rfl rfl ?_
  refine inQ ?_
  repeat' first
    | (with_reducible first | apply q0j | apply q0c | apply AW.seq | apply AW.block)
    | (with_reducible refine AW.runK hC ?_; intro K hK)
    | ((with_reducible first | refine q0t ?_ | refine q0i ?_); refine siQ ?_; (try simp (disch := omega) only [w64, wu8]))
    | ((first | (refine AW.cond rfl (fun h => ?_) (fun h => ?_)) | (refine AW.cond_ub rfl (fun h => ?_) ?_) | (refine AW.cond_nb rfl ?_ (fun h => ?_))) <;> (try replace h := q0a h) <;> (try (exfalso; first | omega | exact absurd h (by decide))))
    | (with_reducible first | apply AW.skip | apply AW.exit | apply AW.ret | apply q0k | apply q0l | apply q0d | apply q0e | refine q0b rfl ?_ | apply q0m | apply q0n)
    | (refine AW.loopN 4 rfl (ι := Nat) (fun i => mkS [(0, V.d (.s s)), (3, V.d (.i .i64 (i : Int)))] ([])) (fun i => i ≤ s.size ∧ 1 ≤ s.size ∧ s.size ≤ 10 ∧ ∀ j, j < i → qnv (j == 0) (chr s j) = true) (fun i => s.size - i) (0) ?_ ?_ (fun i hi => ?_) <;> (try dsimp only) <;> (try dsimp only at hi))
    | (refine LoopNext.mk1 4 (i + 1) ?_ ?_ ?_ <;> (try dsimp only))
    | (refine q0h ?_; refine subQ ?_)
    | (with_reducible refine And.intro ?_ ?_)
    | (subst hK)
    | exact trivial
  all_goals (try (intros; assumption))
  all_goals (try refine q0v ?_)
  all_goals (try replace hi := q0a hi)
  all_goals (try replace hj := q0a hj)
  all_goals (try (intros; trivial))
  all_goals (try (intros; omega))
  all_goals (try (rw [w64 (by omega) (by omega)]; first | done | omega))
  all_goals (try simp only [qsn] at *)
  all_goals first
    | omega
    | exact qpa (by omega)
    | exact qqj (i := i) (by omega) (by rw [← Bool.not_eq_true, qkm]; omega)
    | exact fun j hj => if e : j < i then hi.2.2.2 j e else by
        have : j = i := by omega
        subst this
        rw [qkm]
        omega
    | exact qo9 (by omega) (by omega) fun j hj => hi.2.2.2 j (by omega)
end
noncomputable def cfg101 : Cfg := ⟨Tryz.prog, 62, q43, (fun _ _ => []), [], (fun _ => none)⟩
theorem qbem : cfg101.pins = [] ∧ cfg101.P = Tryz.prog ∧ cfg101.N = 62 := ⟨rfl, rfl, rfl⟩
section
attribute [local go_sem] qbem
attribute [local go_sem] Int.toNat_natCast qc9
theorem qbp2 (hC : COk cfg101) (s : ByteArray) : Sem Tryz.prog 101 [.d (.s s)] (.d (.b (qbb s))) := by
  refine q0f (C := cfg101) (rs := [.tmp 2]) (fun _ => []) Tryz.func101 rfl rfl rfl rfl rfl rfl ?_
  refine inQ ?_
  repeat' first
    | (with_reducible first | apply q0j | apply q0c | apply AW.seq | apply AW.block)
    | (with_reducible refine AW.runK hC ?_; intro K hK)
    | ((with_reducible first | refine q0t ?_ | refine q0i ?_); refine siQ ?_; (try simp (disch := omega) only [w64, wu8]))
    | ((first | (refine AW.cond rfl (fun h => ?_) (fun h => ?_)) | (refine AW.cond_ub rfl (fun h => ?_) ?_) | (refine AW.cond_nb rfl ?_ (fun h => ?_))) <;> (try replace h := q0a h) <;> (try (exfalso; first | omega | exact absurd h (by decide))))
    | (with_reducible first | apply AW.skip | apply AW.exit | apply AW.ret | apply q0k | apply q0l | apply q0d | apply q0e | refine q0b rfl ?_ | apply q0m | apply q0n)
    | (refine AW.loopN 4 rfl (ι := Nat) (fun i => mkS [(0, V.d (.s s)), (14, V.d (.i .i64 (s.size : Int))), (15, V.d (.i .i64 (i : Int)))] ([])) (fun i => i ≤ s.size ∧ 1 ≤ s.size ∧ s.size ≤ 10 ∧ ∀ j, j < i → qnv (j == 0) (chr s j) = true) (fun i => s.size - i) (0) ?_ ?_ (fun i hi => ?_) <;> (try dsimp only) <;> (try dsimp only at hi))
    | (refine LoopNext.mk1 4 (i + 1) ?_ ?_ ?_ <;> (try dsimp only))
    | (refine q0h ?_; refine subQ ?_)
    | (with_reducible refine And.intro ?_ ?_)
    | (subst hK)
    | exact trivial
  all_goals (try (intros; assumption))
  all_goals (try refine q0v ?_)
  all_goals (try replace hi := q0a hi)
  all_goals (try replace hj := q0a hj)
  all_goals (try (intros; trivial))
  all_goals (try (intros; omega))
  all_goals (try (rw [w64 (by omega) (by omega)]; first | done | omega))
  all_goals (try simp only [qsn] at *)
  all_goals first
    | omega
    | exact qpa (by omega)
    | exact qqj (i := i) (by omega) (by rw [← Bool.not_eq_true, qkm]; omega)
    | exact fun j hj => if e : j < i then hi.2.2.2 j e else by
        have : j = i := by omega
        subst this
        rw [qkm]
        omega
    | exact qo9 (by omega) (by omega) fun j hj => hi.2.2.2 j (by omega)
end
noncomputable def cfg128 : Cfg := ⟨Tryz.prog, 41, qy0, (fun _ _ => []), [], (fun _ => none)⟩
theorem qben : cfg128.pins = [] ∧ cfg128.P = Tryz.prog ∧ cfg128.N = 41 ∧ cfg128.ti 41 = none ∧ cfg128.T 41 = e41 ∧ cfg128.mv 41 = (fun _ => []) ∧ cfg128.ti 76 = none ∧ cfg128.T 76 = e76 ∧ cfg128.mv 76 = (fun _ => []) := ⟨rfl, rfl, rfl, rfl, rfl, rfl, rfl, rfl, rfl⟩
section
attribute [local go_sem] qben e41 e76
attribute [local go_sem] q0u q0r qd3 qem q08 qb3 qbh qcf q0z q0w qdq
theorem qbp3 (hC : COk cfg128) (c : Change) : Sem Tryz.prog 128 [.d (q0u c)] (.d (.i .i64 (qkn c))) := by
  refine q0f (C := cfg128) (rs := [.tmp 2]) (fun _ => []) Tryz.func128 rfl rfl rfl rfl rfl rfl ?_
  refine inQ ?_
  repeat' first
    | (with_reducible first | apply q0j | apply q0c | apply AW.seq | apply AW.block)
    | (with_reducible refine AW.runK hC ?_; intro K hK)
    | ((with_reducible first | refine q0t ?_ | refine q0i ?_); refine siQ ?_; (try simp (disch := omega) only [w64, wu8]))
    | ((first | (refine AW.cond rfl (fun h => ?_) (fun h => ?_)) | (refine AW.cond_ub rfl (fun h => ?_) ?_) | (refine AW.cond_nb rfl ?_ (fun h => ?_))) <;> (try replace h := q0a h) <;> (try (exfalso; first | omega | exact absurd h (by decide))))
    | (with_reducible first | apply AW.skip | apply AW.exit | apply AW.ret | apply q0k | apply q0l | apply q0d | apply q0e | refine q0b rfl ?_ | apply q0m | apply q0n)
    | (refine q0h ?_; refine subQ ?_)
    | (with_reducible refine And.intro ?_ ?_)
    | (subst hK)
    | exact trivial
  all_goals (try (intros; assumption))
  all_goals (try refine q0v ?_)
  all_goals (try (intros; trivial))
  all_goals (try (intros; omega))
  all_goals (try (rw [w64 (by omega) (by omega)]; first | done | omega))
  all_goals grind [qkn]
end
noncomputable def cfg127 : Cfg := ⟨Tryz.prog, 38, qy1, (fun _ _ => []), [], (fun _ => none)⟩
theorem qbeo : cfg127.pins = [] ∧ cfg127.P = Tryz.prog ∧ cfg127.N = 38 ∧ cfg127.ti 76 = none ∧ cfg127.T 76 = e76 ∧ cfg127.mv 76 = (fun _ => []) := ⟨rfl, rfl, rfl, rfl, rfl, rfl⟩
section
attribute [local go_sem] qbeo e76
attribute [local go_sem] q0u q0r qd3 qem q08 qb3 qbh qcf q0z q0w qdq
theorem qbp4 (hC : COk cfg127) (e : Entry) : Sem Tryz.prog 127 [.d (q0r e)] (.d (.i .i64 (qri e))) := by
  refine q0f (C := cfg127) (rs := [.tmp 2]) (fun _ => []) Tryz.func127 rfl rfl rfl rfl rfl rfl ?_
  refine inQ ?_
  repeat' first
    | (with_reducible first | apply q0j | apply q0c | apply AW.seq | apply AW.block)
    | (with_reducible first | (refine AW.runK hC ?_; intro K hK) | (refine AW.drawK hC (by kernel_rfl) ?_; intro K hK))
    | ((with_reducible first | refine q0t ?_ | refine qb2 ?_ | refine q0i ?_); refine siQ ?_; (try simp (disch := omega) only [w64, wu8]))
    | (with_reducible refine qbn (by kernel_rfl) ?_)
    | ((first | (refine AW.cond rfl (fun h => ?_) (fun h => ?_)) | (refine AW.cond_ub rfl (fun h => ?_) ?_) | (refine AW.cond_nb rfl ?_ (fun h => ?_))) <;> (try replace h := q0a h) <;> (try (exfalso; first | omega | exact absurd h (by decide))))
    | (with_reducible first | apply AW.skip | apply AW.exit | apply AW.ret | apply q0k | apply q0l | apply q0d | apply q0e | refine q0b rfl ?_ | apply q0m | apply q0n)
    | (refine q0h ?_; refine subQ ?_)
    | (with_reducible refine And.intro ?_ ?_)
    | (subst hK)
    | exact trivial
  all_goals (try (intros; assumption))
  all_goals (try refine q0v ?_)
  all_goals (try (intros; trivial))
  all_goals (try (intros; omega))
  all_goals (try (rw [w64 (by omega) (by omega)]; first | done | omega))
  all_goals simp only [qri, qlg, qv7, qto, qba, decide_eq_false_iff_not]
  all_goals grind
end
noncomputable def cfg102 : Cfg := ⟨Tryz.prog, 64, qy2, (fun _ _ => []), [], (fun _ => none)⟩
theorem qbep : cfg102.pins = [] ∧ cfg102.P = Tryz.prog ∧ cfg102.N = 64 ∧ cfg102.ti 41 = none ∧ cfg102.T 41 = e41 ∧ cfg102.mv 41 = (fun _ => []) ∧ cfg102.ti 51 = none ∧ cfg102.T 51 = e51 ∧ cfg102.mv 51 = (fun _ => []) ∧ cfg102.ti 76 = none ∧ cfg102.T 76 = e76 ∧ cfg102.mv 76 = (fun _ => []) ∧ cfg102.ti 127 = none ∧ cfg102.T 127 = e127 ∧ cfg102.mv 127 = (fun _ => []) ∧ cfg102.ti 128 = none ∧ cfg102.T 128 = e128 ∧ cfg102.mv 128 = (fun _ => []) := ⟨rfl, rfl, rfl, rfl, rfl, rfl, rfl, rfl, rfl, rfl, rfl, rfl, rfl, rfl, rfl, rfl, rfl, rfl⟩
section
attribute [local go_sem] qbep e41 e51 e76 e127 e128
attribute [local go_sem] q0u q0r qd3 qem q08 qb3 qbh qcf q0z q0w qdq
theorem qbp5 (hC : COk cfg102) (e : Entry) : Sem Tryz.prog 102 [.d (q0r e)] (.d (.i .i64 (qc3 e))) := by
  refine q0f (C := cfg102) (rs := [.tmp 2]) (fun _ => []) Tryz.func102 rfl rfl rfl rfl rfl rfl ?_
  refine inQ ?_
  repeat' first
    | (with_reducible first | apply q0j | apply q0c | apply AW.seq | apply AW.block)
    | (with_reducible first | (refine AW.runK hC ?_; intro K hK) | (refine AW.drawK hC (by kernel_rfl) ?_; intro K hK))
    | ((with_reducible first | refine q0t ?_ | refine qb2 ?_ | refine q0i ?_); refine siQ ?_; (try simp (disch := omega) only [w64, wu8]))
    | (with_reducible refine qbn (by kernel_rfl) ?_)
    | ((first | (refine AW.cond rfl (fun h => ?_) (fun h => ?_)) | (refine AW.cond_ub rfl (fun h => ?_) ?_) | (refine AW.cond_nb rfl ?_ (fun h => ?_))) <;> (try replace h := q0a h) <;> (try (exfalso; first | omega | exact absurd h (by decide))))
    | (with_reducible first | apply AW.skip | apply AW.exit | apply AW.ret | apply q0k | apply q0l | apply q0d | apply q0e | refine q0b rfl ?_ | apply q0m | apply q0n)
    | (refine q0h ?_; refine subQ ?_)
    | (with_reducible refine And.intro ?_ ?_)
    | (subst hK)
    | exact trivial
  all_goals (try (intros; assumption))
  all_goals (try refine q0v ?_)
  all_goals (try (intros; trivial))
  all_goals (try (intros; omega))
  all_goals (try (rw [w64 (by omega) (by omega)]; first | done | omega))
  all_goals grind [qc3, qri]
end
noncomputable def cfg79 : Cfg := ⟨Tryz.prog, 112, qy3, (fun _ _ => []), [], (fun _ => none)⟩
theorem qbll : cfg79.pins = [] ∧ cfg79.P = Tryz.prog ∧ cfg79.N = 112 ∧ cfg79.ti 100 = none ∧ cfg79.T 100 = e100 ∧ cfg79.mv 100 = (fun _ => []) ∧ cfg79.ti 101 = none ∧ cfg79.T 101 = e101 ∧ cfg79.mv 101 = (fun _ => []) := ⟨rfl, rfl, rfl, rfl, rfl, rfl, rfl, rfl, rfl⟩
section
attribute [local go_sem] qbll e100 e101
attribute [local go_sem] q0u q0r qd3 qem q08 qb3 qbh qcf q0z q0w qdq
set_option maxHeartbeats 2000000 in
theorem qbvn (hC : COk cfg79) (e : Entry) : Sem Tryz.prog 79 [.d (q0r e)] (.d (.i .i64 (qc3 e))) := by
  refine q0f (C := cfg79) (rs := [.tmp 2]) (fun _ => []) Tryz.func79 rfl rfl rfl rfl rfl rfl ?_
  refine inQ ?_
  repeat' first
    | (with_reducible first | apply q0j | apply q0c | apply AW.seq | apply AW.block)
    | (with_reducible refine AW.runK hC ?_; intro K hK)
    | ((with_reducible first | refine q0t ?_ | refine q0i ?_); refine siQ ?_; (try simp (disch := omega) only [w64, wu8]))
    | ((first | (refine AW.cond rfl (fun h => ?_) (fun h => ?_)) | (refine AW.cond_ub rfl (fun h => ?_) ?_) | (refine AW.cond_nb rfl ?_ (fun h => ?_))) <;> (try replace h := q0a h) <;> (try (exfalso; first | omega | exact absurd h (by decide))))
    | (with_reducible first | apply AW.skip | apply AW.exit | apply AW.ret | apply q0k | apply q0l | apply q0d | apply q0e | refine q0b rfl ?_ | apply q0m | apply q0n)
    | (refine q0h ?_; refine subQ ?_)
    | (with_reducible refine And.intro ?_ ?_)
    | (subst hK)
    | exact trivial
  all_goals (try (intros; assumption))
  all_goals (try refine q0v ?_)
  all_goals (try (intros; trivial))
  all_goals (try (intros; omega))
  all_goals (try (rw [w64 (by omega) (by omega)]; first | done | omega))
  all_goals simp only [qc3, qlg, qv7, qto, decide_eq_false_iff_not, decide_eq_true_eq, qba, qkn] at *
  all_goals grind
end
noncomputable def cfg33 : Cfg := ⟨Tryz.prog, 32, q44, (fun _ _ => []), [], (fun _ => none)⟩
theorem qblm : cfg33.pins = [] ∧ cfg33.P = Tryz.prog ∧ cfg33.N = 32 := ⟨rfl, rfl, rfl⟩
section
attribute [local go_sem] qblm
attribute [local go_sem] q0u q0r qd3 qem q08 qb3 qbh qcf q0z q0w qdq qci qdt List.length_map Int.toNat_natCast Int.toNat_zero Nat.sub_zero List.length_take qcc qbm qb0 qdz qdk qdx qe1 qga
attribute [local go_sem ←] List.map_take List.map_drop
theorem qbvo (hC : COk cfg33) (l : List Entry) : Sem Tryz.prog 33 [.d (.sl 8 (l.map q0r))] (.d (.b (qlw l))) := by
  refine q0f (C := cfg33) (rs := [.tmp 2]) (fun _ => []) Tryz.func33 rfl rfl rfl rfl rfl rfl ?_
  refine inQ ?_
  repeat' first
    | (with_reducible first | apply q0j | apply q0c | apply AW.seq | apply AW.block)
    | (with_reducible refine AW.runK hC ?_; intro K hK)
    | ((with_reducible first | refine q0t ?_ | refine q0i ?_); refine siQ ?_; (try simp (disch := omega) only [w64, wu8]))
    | ((first | (refine AW.cond rfl (fun h => ?_) (fun h => ?_)) | (refine AW.cond_ub rfl (fun h => ?_) ?_) | (refine AW.cond_nb rfl ?_ (fun h => ?_))) <;> (try replace h := q0a h) <;> (try (exfalso; first | omega | exact absurd h (by decide))))
    | (with_reducible first | apply AW.skip | apply AW.exit | apply AW.ret | apply q0k | apply q0l | apply q0d | apply q0e | refine q0b rfl ?_ | apply q0m | apply q0n)
    | (refine AW.loopN 2 rfl (ι := Nat) (fun i => mkS [(0, V.d (.sl 8 (l.map q0r))), (3, V.d (.i .i64 (i : Int)))] ([])) (fun i => i ≤ l.length ∧ qo8 i (l.drop i) = qlw l) (fun i => l.length - i) (0) ?_ ?_ (fun i hi => ?_) <;> (try dsimp only) <;> (try dsimp only at hi))
    | (refine LoopNext.mk1 2 (i + 1) ?_ ?_ ?_ <;> (try dsimp only))
    | (refine q0h ?_; refine subQ ?_)
    | (with_reducible refine And.intro ?_ ?_)
    | (subst hK)
    | exact trivial
  all_goals (try (intros; assumption))
  all_goals (try refine q0v ?_)
  all_goals (try replace hi := q0a hi)
  all_goals (try (intros; trivial))
  all_goals (try (intros; omega))
  all_goals (try (rw [w64 (by omega) (by omega)]; first | done | omega))
  all_goals first
    | rfl
    | (rw [← hi.2, qe0 q0q (by omega), qo8]; grind)
    | (rw [← hi.2, List.drop_of_length_le (by omega)]; rfl)
    | (have := hi.2; rw [qe0 q0q (by omega), qo8] at this; grind)
end
noncomputable def cfg86 : Cfg := ⟨Tryz.prog, 27, q45, (fun _ _ => []), [], (fun _ => none)⟩
theorem qbln : cfg86.pins = [] ∧ cfg86.P = Tryz.prog ∧ cfg86.N = 27 := ⟨rfl, rfl, rfl⟩
section
attribute [local go_sem] qbln
attribute [local go_sem] q0u q0r qd3 qem q08 qb3 qbh qcf q0z q0w qdq qci qdt List.length_map Int.toNat_natCast Int.toNat_zero Nat.sub_zero List.length_take qcc qbm qb0 qdz qdk qdx qe1 qga
attribute [local go_sem ←] List.map_take List.map_drop
theorem qbvp (hC : COk cfg86) (l : List Entry) (unit : Int) (hp : l.length ≤ 1000000) : Sem Tryz.prog 86 [.d (.sl 8 (l.map q0r)), .d (.i .i64 unit)] (.d (.b (begins l unit))) := by
  refine q0f (C := cfg86) (rs := [.tmp 4]) (fun _ => []) Tryz.func86 rfl rfl rfl rfl rfl rfl ?_
  refine inQ ?_
  repeat' first
    | (with_reducible first | apply q0j | apply q0c | apply AW.seq | apply AW.block)
    | (with_reducible refine AW.runK hC ?_; intro K hK)
    | ((with_reducible first | refine q0t ?_ | refine q0i ?_); refine siQ ?_; (try simp (disch := omega) only [w64, wu8]))
    | ((first | (refine AW.cond rfl (fun h => ?_) (fun h => ?_)) | (refine AW.cond_ub rfl (fun h => ?_) ?_) | (refine AW.cond_nb rfl ?_ (fun h => ?_))) <;> (try replace h := q0a h) <;> (try (exfalso; first | omega | exact absurd h (by decide))))
    | (with_reducible first | apply AW.skip | apply AW.exit | apply AW.ret | apply q0k | apply q0l | apply q0d | apply q0e | refine q0b rfl ?_ | apply q0m | apply q0n)
    | (refine AW.loopN 2 rfl (ι := Nat) (fun i => mkS [(0, V.d (.sl 8 (l.map q0r))), (1, V.d (.i .i64 unit)), (5, V.d (.i .i64 (i : Int)))] ([])) (fun i => i ≤ l.length ∧ begins (l.take i) unit = false) (fun i => l.length - i) (0) ?_ ?_ (fun i hi => ?_) <;> (try dsimp only) <;> (try dsimp only at hi))
    | (refine LoopNext.mk1 2 (i + 1) ?_ ?_ ?_ <;> (try dsimp only))
    | (refine q0h ?_; refine subQ ?_)
    | (with_reducible refine And.intro ?_ ?_)
    | (subst hK)
    | exact trivial
  all_goals (try (intros; assumption))
  all_goals (try refine q0v ?_)
  all_goals (try replace hp := q0a hp)
  all_goals (try replace hi := q0a hi)
  all_goals (try (intros; trivial))
  all_goals (try (intros; omega))
  all_goals (try (rw [w64 (by omega) (by omega)]; first | done | omega))
  all_goals first
    | rfl
    | exact qpb (i := i) (by omega) (by omega) (by omega)
    | exact q16 hi.2 (by omega) (by omega)
    | exact q4p hi.2 (by omega)
end
noncomputable def cfg87 : Cfg := ⟨Tryz.prog, 40, q46, (fun _ _ => []), [], (fun _ => none)⟩
theorem qblo : cfg87.pins = [] ∧ cfg87.P = Tryz.prog ∧ cfg87.N = 40 := ⟨rfl, rfl, rfl⟩
section
attribute [local go_sem] qblo
attribute [local go_sem] q0u q0r qd3 qem q08 qb3 qbh qcf q0z q0w qdq qci qdt List.length_map Int.toNat_natCast Int.toNat_zero Nat.sub_zero List.length_take qcc qbm qb0 qdz qdk qdx qe1 qga
attribute [local go_sem ←] List.map_take List.map_drop
theorem qbvq (hC : COk cfg87) (l : List Entry) (unit : Int) (hp : l.length ≤ 1000000) : Sem Tryz.prog 87 [.d (.sl 8 (l.map q0r)), .d (.i .i64 unit)] (.d (.i .i64 (ends l unit))) := by
  refine q0f (C := cfg87) (rs := [.tmp 4]) (fun _ => []) Tryz.func87 rfl rfl rfl rfl rfl rfl ?_
  refine inQ ?_
  repeat' first
    | (with_reducible first | apply q0j | apply q0c | apply AW.seq | apply AW.block)
    | (with_reducible refine AW.runK hC ?_; intro K hK)
    | ((with_reducible first | refine q0t ?_ | refine q0i ?_); refine siQ ?_; (try simp (disch := omega) only [w64, wu8]))
    | ((first | (refine AW.cond rfl (fun h => ?_) (fun h => ?_)) | (refine AW.cond_ub rfl (fun h => ?_) ?_) | (refine AW.cond_nb rfl ?_ (fun h => ?_))) <;> (try replace h := q0a h) <;> (try (exfalso; first | omega | exact absurd h (by decide))))
    | (with_reducible first | apply AW.skip | apply AW.exit | apply AW.ret | apply q0k | apply q0l | apply q0d | apply q0e | refine q0b rfl ?_ | apply q0m | apply q0n)
    | (refine AW.loopN 2 rfl (ι := Nat) (fun i => mkS [(0, V.d (.sl 8 (l.map q0r))), (1, V.d (.i .i64 unit)), (5, V.d (.i .i64 (i : Int)))] ([])) (fun i => i ≤ l.length ∧ qfn (l.take i) unit = none) (fun i => l.length - i) (0) ?_ ?_ (fun i hi => ?_) <;> (try dsimp only) <;> (try dsimp only at hi))
    | (refine LoopNext.mk1 2 (i + 1) ?_ ?_ ?_ <;> (try dsimp only))
    | (refine q0h ?_; refine subQ ?_)
    | (with_reducible refine And.intro ?_ ?_)
    | (subst hK)
    | exact trivial
  all_goals (try (intros; assumption))
  all_goals (try refine q0v ?_)
  all_goals (try replace hp := q0a hp)
  all_goals (try replace hi := q0a hi)
  all_goals (try (intros; trivial))
  all_goals (try (intros; omega))
  all_goals (try (rw [w64 (by omega) (by omega)]; first | done | omega))
  all_goals first
    | rfl
    | exact qyp (i := i) hi.2 (by omega) (by omega) (by omega)
    | exact (qyp (i := i) hi.2 (by omega) (by omega) (by omega)).symm
    | exact q8w hi.2 (by omega) (by omega)
    | exact qbc3 hi.2 (by omega)
end
noncomputable def cfg57 : Cfg := ⟨Tryz.prog, 14, q47, (fun _ _ => []), [], (fun _ => none)⟩
theorem qblp : cfg57.pins = [] ∧ cfg57.P = Tryz.prog ∧ cfg57.N = 14 ∧ cfg57.ti 86 = none ∧ cfg57.T 86 = e86 ∧ cfg57.mv 86 = (fun _ => []) ∧ cfg57.ti 87 = none ∧ cfg57.T 87 = e87 ∧ cfg57.mv 87 = (fun _ => []) := ⟨rfl, rfl, rfl, rfl, rfl, rfl, rfl, rfl, rfl⟩
section
attribute [local go_sem] qblp e86 e87
attribute [local go_sem] q0u q0r qd3 qem q08 qb3 qbh qcf q0z q0w qdq qci qdt List.length_map Int.toNat_natCast Int.toNat_zero Nat.sub_zero List.length_take qcc qbm qb0 qdz qdk qdx qe1 qga
attribute [local go_sem ←] List.map_take List.map_drop
theorem qbvr (hC : COk cfg57) (l : List Entry) (unit : Int) (hp : l.length ≤ 1000000) : Sem Tryz.prog 57 [.d (.sl 8 (l.map q0r)), .d (.i .i64 unit)] (.d (.b (isOpen l unit))) := by
  refine q0f (C := cfg57) (rs := [.tmp 4]) (fun _ => []) Tryz.func57 rfl rfl rfl rfl rfl rfl ?_
  refine inQ ?_
  repeat' first
    | (with_reducible first | apply q0j | apply q0c | apply AW.seq | apply AW.block)
    | (with_reducible refine AW.runK hC ?_; intro K hK)
    | ((with_reducible first | refine q0t ?_ | refine q0i ?_); refine siQ ?_; (try simp (disch := omega) only [w64, wu8]))
    | ((first | (refine AW.cond rfl (fun h => ?_) (fun h => ?_)) | (refine AW.cond_ub rfl (fun h => ?_) ?_) | (refine AW.cond_nb rfl ?_ (fun h => ?_))) <;> (try replace h := q0a h) <;> (try (exfalso; first | omega | exact absurd h (by decide))))
    | (with_reducible first | apply AW.skip | apply AW.exit | apply AW.ret | apply q0k | apply q0l | apply q0d | apply q0e | refine q0b rfl ?_ | apply q0m | apply q0n)
    | (refine q0h ?_; refine subQ ?_)
    | (with_reducible refine And.intro ?_ ?_)
    | (subst hK)
    | exact trivial
  all_goals (try (intros; assumption))
  all_goals (try refine q0v ?_)
  all_goals (try replace hp := q0a hp)
  all_goals (try (intros; trivial))
  all_goals (try (intros; omega))
  all_goals (try (rw [w64 (by omega) (by omega)]; first | done | omega))
  all_goals grind [isOpen]
end
noncomputable def cfg103 : Cfg := ⟨Tryz.prog, 39, q48, (fun _ _ => []), [], (fun _ => none)⟩
theorem qbeq : cfg103.pins = [] ∧ cfg103.P = Tryz.prog ∧ cfg103.N = 39 ∧ cfg103.ti 57 = none ∧ cfg103.T 57 = e57 ∧ cfg103.mv 57 = (fun _ => []) ∧ cfg103.ti 76 = none ∧ cfg103.T 76 = e76 ∧ cfg103.mv 76 = (fun _ => []) ∧ cfg103.ti 86 = none ∧ cfg103.T 86 = e86 ∧ cfg103.mv 86 = (fun _ => []) := ⟨rfl, rfl, rfl, rfl, rfl, rfl, rfl, rfl, rfl, rfl, rfl, rfl⟩
section
attribute [local go_sem] qbeq e57 e76 e86
attribute [local go_sem] q0u q0r qd3 qem q08 qb3 qbh qcf q0z q0w qdq qci qdt List.length_map Int.toNat_natCast Int.toNat_zero Nat.sub_zero List.length_take qcc qbm qb0 qdz qdk qdx qe1 qga
attribute [local go_sem ←] List.map_take List.map_drop
theorem qbp6 (hC : COk cfg103) (l : List Entry) (e : Entry) (hp : l.length ≤ 1000000) : Sem Tryz.prog 103 [.d (.sl 8 (l.map q0r)), .d (q0r e)] (.d (.i .i64 (qen l e))) := by
  refine q0f (C := cfg103) (rs := [.tmp 4]) (fun _ => []) Tryz.func103 rfl rfl rfl rfl rfl rfl ?_
  refine inQ ?_
  repeat' first
    | (with_reducible first | apply q0j | apply q0c | apply AW.seq | apply AW.block)
    | (with_reducible refine AW.runK hC ?_; intro K hK)
    | ((with_reducible first | refine q0t ?_ | refine q0i ?_); refine siQ ?_; (try simp (disch := omega) only [w64, wu8]))
    | ((first | (refine AW.cond rfl (fun h => ?_) (fun h => ?_)) | (refine AW.cond_ub rfl (fun h => ?_) ?_) | (refine AW.cond_nb rfl ?_ (fun h => ?_))) <;> (try replace h := q0a h) <;> (try (exfalso; first | omega | exact absurd h (by decide))))
    | (with_reducible first | apply AW.skip | apply AW.exit | apply AW.ret | apply q0k | apply q0l | apply q0d | apply q0e | refine q0b rfl ?_ | apply q0m | apply q0n)
    | (refine q0h ?_; refine subQ ?_)
    | (with_reducible refine And.intro ?_ ?_)
    | (subst hK)
    | exact trivial
  all_goals (try (intros; assumption))
  all_goals (try refine q0v ?_)
  all_goals (try replace hp := q0a hp)
  all_goals (try (intros; trivial))
  all_goals (try (intros; omega))
  all_goals (try (rw [w64 (by omega) (by omega)]; first | done | omega))
  all_goals grind [qen]
end
end Go.Ev
