/- Tools and contracts under the laws of this seat: Dyc197 to Dyc118. -/
import Derived.Test.YtkgkgcojfocomaaGreatE05
set_option linter.unusedVariables false
set_option linter.unusedSimpArgs false
namespace Go.Ev
open Go.Proofs Ty
set_option maxRecDepth 10000
set_option maxHeartbeats 4000000
set_option linter.unusedSimpArgs false
set_option linter.unusedVariables false
attribute [local go_sem] qbe qbg qcb qcy qb6 qda qdn qef Int.toNat_natCast qc9 qd4 qep qcq qcc qbm qb0 decI List.length_map qbf qbl
noncomputable def cfg197 : Cfg := ⟨Tryz.prog, 12, qze, (fun _ _ => []), [], (fun _ => none)⟩
theorem qbe1 : cfg197.pins = [] ∧ cfg197.P = Tryz.prog ∧ cfg197.N = 12 := ⟨rfl, rfl, rfl⟩
section
attribute [local go_sem] qbe1
attribute [local go_sem] qbu
theorem qbqh (hC : COk cfg197) (n : Int) : Sem Tryz.prog 197 [.d (.i .i64 n)] (.d (.i .i64 (p10 n))) := by
  refine q0f (C := cfg197) (rs := [.tmp 2]) (fun _ => []) Tryz.func197 rfl rfl rfl rfl rfl rfl ?_
  refine inQ ?_
  repeat' first
    | (with_reducible first | apply q0j | apply q0c | apply AW.seq | apply AW.block)
    | (with_reducible refine AW.runK hC ?_; intro K hK)
    | ((with_reducible first | refine q0t ?_ | refine q0i ?_); refine siQ ?_; (try simp (disch := omega) only [w64, wu8]))
    | ((first | (refine AW.cond rfl (fun h => ?_) (fun h => ?_)) | (refine AW.cond_ub rfl (fun h => ?_) ?_) | (refine AW.cond_nb rfl ?_ (fun h => ?_))) <;> (try replace h := q0a h) <;> (try (exfalso; first | omega | exact absurd h (by decide))))
    | (with_reducible first | apply AW.skip | apply AW.exit | apply AW.ret | apply q0k | apply q0l | apply q0d | apply q0e | refine q0b rfl ?_ | apply q0m | apply q0n)
    | (refine AW.loopN 3 rfl (ι := Nat) (fun i => mkS [(3, V.d (.i .i64 (10 ^ i : Int))), (5, V.d (.i .i64 (min n 18))), (6, V.d (.i .i64 (i : Int)))] ([])) (fun i => (i : Int) ≤ max 0 (min n 18)) (fun i => (min n 18).toNat - i) (0) ?_ ?_ (fun i hi => ?_) <;> (try dsimp only) <;> (try dsimp only at hi))
    | (refine LoopNext.mk1 3 (i + 1) ?_ ?_ ?_ <;> (try dsimp only))
    | (refine q0h ?_; refine subQ ?_)
    | (with_reducible refine And.intro ?_ ?_)
    | (subst hK)
    | exact trivial
  all_goals (try (intros; assumption))
  all_goals (try refine q0v ?_)
  all_goals (try replace hi := q0a hi)
  all_goals (try (intros; trivial))
  all_goals (try (intros; omega))
  all_goals (try (rw [w64 (by omega) (by omega)]; first | done | omega))
  all_goals clear hC
  all_goals first
    | omega
    | exact qy5 (by omega)
    | exact q3i hi h
    | (intro d hd; first | (subst hd; exact ⟨rfl, by simp [D.cells, D.one]⟩) | (rcases hd with rfl | rfl <;> exact ⟨rfl, by simp [D.cells, D.one]⟩) | (rcases hd with rfl | rfl | rfl <;> exact ⟨rfl, by simp [D.cells, D.one]⟩) | (rcases hd with rfl | rfl | rfl | rfl <;> exact ⟨rfl, by simp [D.cells, D.one]⟩))
end
noncomputable def cfg190 : Cfg := ⟨Tryz.prog, 52, qzf, (fun _ _ => []), [], (fun _ => none)⟩
theorem qbe2 : cfg190.pins = [] ∧ cfg190.P = Tryz.prog ∧ cfg190.N = 52 ∧ cfg190.ti 172 = none ∧ cfg190.T 172 = e172 ∧ cfg190.mv 172 = (fun _ => []) ∧ cfg190.ti 185 = none ∧ cfg190.T 185 = e185 ∧ cfg190.mv 185 = (fun _ => []) ∧ cfg190.ti 186 = none ∧ cfg190.T 186 = e186 ∧ cfg190.mv 186 = (fun _ => []) ∧ cfg190.ti 187 = none ∧ cfg190.T 187 = e187 ∧ cfg190.mv 187 = (fun _ => []) ∧ cfg190.ti 197 = none ∧ cfg190.T 197 = e197 ∧ cfg190.mv 197 = (fun _ => []) := ⟨rfl, rfl, rfl, rfl, rfl, rfl, rfl, rfl, rfl, rfl, rfl, rfl, rfl, rfl, rfl, rfl, rfl, rfl⟩
section
attribute [local go_sem] qbe2 e172 e185 e186 e187 e197
attribute [local go_sem] qbu
theorem qbqi (hC : COk cfg190) (t : DType) (v : Val) : Sem Tryz.prog 190 [.d (qbe t), .d (qb6 v)] (.d (.i .i64 (qiq t v))) := by
  refine q0f (C := cfg190) (rs := [.tmp 4]) (fun _ => []) Tryz.func190 rfl rfl rfl rfl rfl rfl ?_
  refine inQ ?_
  repeat' first
    | (with_reducible first | apply q0j | apply q0c | apply AW.seq | apply AW.block)
    | (with_reducible first | (refine AW.runK hC ?_; intro K hK) | (refine AW.drawK hC (by kernel_rfl) ?_; intro K hK))
    | ((with_reducible first | refine q0t ?_ | refine qb2 ?_ | refine q0i ?_); refine siQ ?_; (try simp (disch := omega) only [w64, wu8]))
    | (with_reducible refine qbn (by kernel_rfl) ?_)
    | ((first | (refine AW.cond rfl (fun h => ?_) (fun h => ?_)) | (refine AW.cond_ub rfl (fun h => ?_) ?_) | (refine AW.cond_nb rfl ?_ (fun h => ?_))) <;> (try replace h := q0a h) <;> (try (exfalso; first | omega | exact absurd h (by decide))))
    | (with_reducible first | apply AW.skip | apply AW.exit | apply AW.ret | apply q0k | apply q0l | apply q0d | apply q0e | refine q0b rfl ?_ | apply q0m | apply q0n)
    | (refine q0h ?_; refine subQ ?_)
    | (with_reducible refine And.intro ?_ ?_)
    | (subst hK)
    | exact trivial
  all_goals (try (intros; assumption))
  all_goals (try refine q0v ?_)
  all_goals (try (intros; trivial))
  all_goals (try (intros; omega))
  all_goals (try (rw [w64 (by omega) (by omega)]; first | done | omega))
  all_goals clear hC
  all_goals have PW := qtz t.length
  all_goals (try simp only [qiq])
  all_goals first
    | omega
    | grind
    | (rename_i hq; simp (disch := omega) only [w64]; revert hq; (repeat' split) <;> intros <;> first | rfl | omega | (exfalso; omega) | (simp_all; done))
    | (intro d hd; first | (subst hd; exact ⟨rfl, by simp [D.cells, D.one]⟩) | (rcases hd with rfl | rfl <;> exact ⟨rfl, by simp [D.cells, D.one]⟩) | (rcases hd with rfl | rfl | rfl <;> exact ⟨rfl, by simp [D.cells, D.one]⟩) | (rcases hd with rfl | rfl | rfl | rfl <;> exact ⟨rfl, by simp [D.cells, D.one]⟩))
end
noncomputable def cfg189 : Cfg := ⟨Tryz.prog, 25, qzg, (fun _ _ => []), [], (fun _ => none)⟩
theorem qbe3 : cfg189.pins = [] ∧ cfg189.P = Tryz.prog ∧ cfg189.N = 25 := ⟨rfl, rfl, rfl⟩
section
attribute [local go_sem] qbe3
attribute [local go_sem] qbu
theorem qbqj (hC : COk cfg189) (b : ByteArray) (hp : 0 < b.size ∧ b.size ≤ 1000) : Sem Tryz.prog 189 [.d (.s b)] (.d (.i .i64 (binN b))) := by
  refine q0f (C := cfg189) (rs := [.tmp 2]) (fun _ => []) Tryz.func189 rfl rfl rfl rfl rfl rfl ?_
  refine inQ ?_
  repeat' first
    | (with_reducible first | apply q0j | apply q0c | apply AW.seq | apply AW.block)
    | (with_reducible refine AW.runK hC ?_; intro K hK)
    | ((with_reducible first | refine q0t ?_ | refine q0i ?_); refine siQ ?_; (try simp (disch := omega) only [w64, wu8]))
    | ((first | (refine AW.cond rfl (fun h => ?_) (fun h => ?_)) | (refine AW.cond_ub rfl (fun h => ?_) ?_) | (refine AW.cond_nb rfl ?_ (fun h => ?_))) <;> (try replace h := q0a h) <;> (try (exfalso; first | omega | exact absurd h (by decide))))
    | (with_reducible first | apply AW.skip | apply AW.exit | apply AW.ret | apply q0k | apply q0l | apply q0d | apply q0e | refine q0b rfl ?_ | apply q0m | apply q0n)
    | (refine AW.loopN 3 rfl (ι := Nat) (fun i => mkS [(3, V.d (.i .i64 (qmq b i))), (12, V.d (.sl 1 (qhb (b.extract 1 b.size)))), (13, V.d (.i .i64 ((b.size - 1 : Nat) : Int))), (14, V.d (.i .i64 (i : Int)))] ([])) (fun i => i ≤ b.size - 1) (fun i => b.size - 1 - i) (0) ?_ ?_ (fun i hi => ?_) <;> (try dsimp only) <;> (try dsimp only at hi))
    | (refine LoopNext.mk1 3 (i + 1) ?_ ?_ ?_ <;> (try dsimp only))
    | (refine q0h ?_; refine subQ ?_)
    | (with_reducible refine And.intro ?_ ?_)
    | (subst hK)
    | exact trivial
  all_goals (try (intros; assumption))
  all_goals (try refine q0v ?_)
  all_goals (try replace hp := q0a hp)
  all_goals (try replace hi := q0a hi)
  all_goals (try (intros; trivial))
  all_goals (try (intros; omega))
  all_goals (try (rw [w64 (by omega) (by omega)]; first | done | omega))
  all_goals clear hC
  all_goals first
    | omega
    | exact q0p _
    | (rw [qsp]; omega)
    | (rw [qsp]; done)
    | (show qmq b 0 = IntKind.i64.wrap (IntKind.i8.wrap (chr b 0)); rw [w64 (by have := q3j (chr b 0); omega) (by have := q3j (chr b 0); omega)]; rfl)
    | (show ((b.size - 1 : Nat) : Int) = ((b.extract 1 b.size).size : Int); rw [qsp])
    | (rw [qk1 b i (by omega), qbkm b i (by omega), w64 (n := chr b (i + 1)) (by have := qyo b (i + 1); omega) (by have := qyo b (i + 1); omega)]; rfl)
    | (rw [qqs b i (by omega)]; done)
    | (intro d hd; first | (subst hd; exact ⟨rfl, by simp [D.cells, D.one]⟩) | (rcases hd with rfl | rfl <;> exact ⟨rfl, by simp [D.cells, D.one]⟩) | (rcases hd with rfl | rfl | rfl <;> exact ⟨rfl, by simp [D.cells, D.one]⟩) | (rcases hd with rfl | rfl | rfl | rfl <;> exact ⟨rfl, by simp [D.cells, D.one]⟩))
end
noncomputable def cfg198 : Cfg := ⟨Tryz.prog, 65, qzh, (fun _ _ => []), [], (fun _ => none)⟩
theorem qbe4 : cfg198.pins = [] ∧ cfg198.P = Tryz.prog ∧ cfg198.N = 65 := ⟨rfl, rfl, rfl⟩
section
attribute [local go_sem] qbe4
attribute [local go_sem] qbu
theorem qbqk (hC : COk cfg198) (t : DType) (b : ByteArray) (hp : 0 < b.size ∧ b.size ≤ 1000) : Sem Tryz.prog 198 [.d (qbe t), .d (.s b)] (.tup [.d (.sl 1 ((qbq t b).1.map (D.i .u8))), .d (.sl 1 ((qbq t b).2.map (D.i .i64)))]) := by
  refine q0f (C := cfg198) (rs := [.tmp 4, .tmp 5]) (fun _ => []) Tryz.func198 rfl rfl rfl rfl rfl rfl ?_
  refine inQ ?_
  repeat' first
    | (with_reducible first | apply q0j | apply q0c | apply AW.seq | apply AW.block)
    | (with_reducible first | (refine AW.runK hC ?_; intro K hK) | (refine AW.drawK hC (by kernel_rfl) ?_; intro K hK))
    | ((with_reducible first | refine q0t ?_ | refine qb2 ?_ | refine q0i ?_); refine siQ ?_; (try simp (disch := omega) only [w64, wu8]))
    | (with_reducible refine qbn (by kernel_rfl) ?_)
    | ((first | (refine AW.cond rfl (fun h => ?_) (fun h => ?_)) | (refine AW.cond_ub rfl (fun h => ?_) ?_) | (refine AW.cond_nb rfl ?_ (fun h => ?_))) <;> (try replace h := q0a h) <;> (try (exfalso; first | omega | exact absurd h (by decide))))
    | (with_reducible first | apply AW.skip | apply AW.exit | apply AW.ret | apply q0k | apply q0l | apply q0d | apply q0e | refine q0b rfl ?_ | apply q0m | apply q0n)
    | (refine AW.loopN 2 rfl (ι := Nat) (fun i => mkS [(1, V.d (.s b)), (2, V.ptr 32 0), (4, V.row 64 1 0 (qfy t b i).length), (5, V.row 80 1 0 (qgk t i).length), (10, V.d (.i .i64 (b.size : Int))), (11, V.d (.i .i64 (i : Int)))] ([(32, .live (.box 108 [.d (.i .i64 t.kind), .d (.i .i64 t.length), .d (.i .i64 t.scale)])), (64, .live (.row 5 1 false ((qfy t b i).map (D.i .u8)))), (80, .live (.row 3 1 false ((qgk t i).map (D.i .i64))))])) (fun i => i ≤ b.size) (fun i => b.size - i) (0) ?_ ?_ (fun i hi => ?_) <;> (try dsimp only) <;> (try dsimp only at hi))
    | (refine LoopNext.mk1 2 (i + 1) ?_ ?_ ?_ <;> (try dsimp only))
    | (refine q0h ?_; refine subQ ?_)
    | (with_reducible refine And.intro ?_ ?_)
    | (subst hK)
    | exact trivial
  all_goals (try (intros; assumption))
  all_goals (try refine q0v ?_)
  all_goals (try replace hp := q0a hp)
  all_goals (try replace hi := q0a hi)
  all_goals (try (intros; trivial))
  all_goals (try (intros; omega))
  all_goals (try (rw [w64 (by omega) (by omega)]; first | done | omega))
  all_goals (try have L1 := qfw t b i)
  all_goals (try have L2 := qhw t i)
  all_goals clear hC
  all_goals first
    | omega
    | (split at L1 <;> split at L2 <;> omega)
    | (rw [qu6 (by assumption)]; simp; done)
    | (rw [qu7 (by assumption)]; simp; done)
    | (rw [qu8 (by assumption)]; simp; done)
    | (rw [qu9 (by assumption)]; simp; done)
    | (rw [qu6 (by assumption), List.map_append]; exact q0p _)
    | (rw [qu7 (by assumption), List.map_append]; exact q0p _)
    | (rw [qu8 (by assumption), List.map_append]; exact q0p _)
    | (rw [qu9 (by assumption), List.map_append]; exact q0p _)
    | (rw [List.take_of_length_le (by simp), qli (by assumption), show i = b.size by omega, qjh, List.map_append]; exact q0p _)
    | (rw [List.take_of_length_le (by simp), qli (by assumption), show i = b.size by omega, List.map_append]; exact q0p _)
    | (rw [List.take_of_length_le (by simp), qnf (by assumption), show i = b.size by omega]; exact q0p _)
    | (intro d hd; first | (subst hd; exact ⟨rfl, by simp [D.cells, D.one]⟩) | (rcases hd with rfl | rfl <;> exact ⟨rfl, by simp [D.cells, D.one]⟩) | (rcases hd with rfl | rfl | rfl <;> exact ⟨rfl, by simp [D.cells, D.one]⟩) | (rcases hd with rfl | rfl | rfl | rfl <;> exact ⟨rfl, by simp [D.cells, D.one]⟩))
end
noncomputable def cfg191 : Cfg := ⟨Tryz.prog, 81, qzi, (fun _ _ => []), [], (fun _ => none)⟩
theorem qbe5 : cfg191.pins = [] ∧ cfg191.P = Tryz.prog ∧ cfg191.N = 81 ∧ cfg191.ti 198 = none ∧ cfg191.T 198 = e198 ∧ cfg191.mv 198 = (fun _ => []) := ⟨rfl, rfl, rfl, rfl, rfl, rfl⟩
section
attribute [local go_sem] qbe5 e198
attribute [local go_sem] qbu qbde List.length_take
attribute [local go_sem ←] List.map_take
theorem qbql (hC : COk cfg191) (t : DType) (b : ByteArray) (hp : 0 < b.size ∧ b.size ≤ 1000 ∧ 0 ≤ t.length ∧ t.length ≤ 1000) : Sem Tryz.prog 191 [.d (qbe t), .d (.s b)] (.tup [.d (.i .i64 (decN t b).1), .d (.i .i64 (decN t b).2.1), .d (.i .i64 (decN t b).2.2)]) := by
  obtain ⟨q1, q2, q3, q4⟩ := hp
  have HLN := qpj t b
  have HL1 : 1 ≤ (qbq t b).1.length ∧ (qbq t b).1.length ≤ 3000 := by rw [HLN.1]; (repeat' split) <;> omega
  refine q0f (C := cfg191) (rs := [.tmp 4, .tmp 5, .tmp 6]) (fun _ => []) Tryz.func191 rfl rfl rfl rfl rfl rfl ?_
  refine inQ ?_
  repeat' first
    | (with_reducible first | apply q0j | apply q0c | apply AW.seq | apply AW.block)
    | (with_reducible first | (refine AW.runK hC ?_; intro K hK) | (refine AW.drawK hC (by kernel_rfl) ?_; intro K hK))
    | ((with_reducible first | refine q0t ?_ | refine qb2 ?_ | refine q0i ?_); refine siQ ?_; (try simp (disch := omega) only [w64, wu8]))
    | (with_reducible refine qbn (by kernel_rfl) ?_)
    | ((first | (refine AW.cond rfl (fun h => ?_) (fun h => ?_)) | (refine AW.cond_ub rfl (fun h => ?_) ?_) | (refine AW.cond_nb rfl ?_ (fun h => ?_))) <;> (try replace h := q0a h) <;> (try (exfalso; first | omega | exact absurd h (by decide))))
    | (with_reducible first | apply AW.skip | apply AW.exit | apply AW.ret | apply q0k | apply q0l | apply q0d | apply q0e | refine q0b rfl ?_ | apply q0m | apply q0n)
    | (refine AW.loopN 5 rfl (ι := Nat × Int) (fun p => mkS [(2, V.ptr 32 0), (7, V.d (.sl 1 ((qbq t b).1.map (D.i .u8)))), (8, V.d (.sl 1 ((qbq t b).2.map (D.i .i64)))), (9, V.d (.i .i64 (((qbq t b).1.length : Int) - 1))), (10, V.d (.i .i64 p.2)), (24, V.d (.sl 1 (((qbq t b).1.take ((qbq t b).1.length - 1)).map (D.i .u8)))), (25, V.d (.i .i64 (((qbq t b).1.length - 1 : Nat) : Int))), (26, V.d (.i .i64 (p.1 : Int)))] ([(32, .live (.box 108 [.d (.i .i64 t.kind), .d (.i .i64 t.length), .d (.i .i64 t.scale)]))])) (fun p => p.1 ≤ (qbq t b).1.length - 1 ∧ qg4 t.length (qbq t b).1 (qbq t b).2 (((qbq t b).1.length : Int) - 1) (((qbq t b).1.take ((qbq t b).1.length - 1)).drop p.1) p.1 p.2 = decN t b) (fun p => (qbq t b).1.length - 1 - p.1) ((0, 0)) ?_ ?_ (fun p hi => ?_) <;> (try dsimp only) <;> (try dsimp only at hi))
    | (refine LoopNext.mk1 5 ((p.1 + 1, IntKind.i64.wrap (IntKind.i64.wrap (p.2 * 10) + IntKind.i64.wrap (((qbq t b).1.take ((qbq t b).1.length - 1)).getD p.1 0)))) ?_ ?_ ?_ <;> (try dsimp only))
    | (refine q0h ?_; refine subQ ?_)
    | (with_reducible refine And.intro ?_ ?_)
    | (subst hK)
    | exact trivial
  all_goals (try (intros; assumption))
  all_goals (try refine q0v ?_)
  all_goals (try replace hp := q0a hp)
  all_goals (try replace hi := q0a hi)
  all_goals (try (intros; trivial))
  all_goals (try (intros; omega))
  all_goals (try (rw [w64 (by omega) (by omega)]; first | done | omega))
  all_goals clear hC
  all_goals have RL : ((qbq t b).1.take ((qbq t b).1.length - 1)).length = (qbq t b).1.length - 1 := by rw [List.length_take]; omega
  all_goals first
    | omega
    | (refine qjt ?_; simp only [Int.toNat_zero, List.drop_zero, Nat.sub_zero, qjh, List.map_take])
    | (simp only [Int.toNat_zero, List.drop_zero, Nat.sub_zero, qjh, List.length_map]; omega)
    | rfl
    | (rw [q86 hi.2 (by omega) (by omega)]; done)
    | exact q5l hi.2 (by omega) (by omega)
    | (rw [q5m hi.2 (by omega) (by omega)]; done)
    | (rw [q5n hi.2 (by omega) (by omega) (by omega)]; done)
    | (rw [q5o hi.2 (by omega) (by omega) (by omega)]; done)
    | (intro d hd; first | (subst hd; exact ⟨rfl, by simp [D.cells, D.one]⟩) | (rcases hd with rfl | rfl <;> exact ⟨rfl, by simp [D.cells, D.one]⟩) | (rcases hd with rfl | rfl | rfl <;> exact ⟨rfl, by simp [D.cells, D.one]⟩) | (rcases hd with rfl | rfl | rfl | rfl <;> exact ⟨rfl, by simp [D.cells, D.one]⟩))
end
noncomputable def cfg174 : Cfg := ⟨Tryz.prog, 63, qzj, (fun _ _ => []), [], (fun _ => none)⟩
theorem qbe6 : cfg174.pins = [] ∧ cfg174.P = Tryz.prog ∧ cfg174.N = 63 ∧ cfg174.ti 172 = none ∧ cfg174.T 172 = e172 ∧ cfg174.mv 172 = (fun _ => []) ∧ cfg174.ti 186 = none ∧ cfg174.T 186 = e186 ∧ cfg174.mv 186 = (fun _ => []) ∧ cfg174.ti 187 = none ∧ cfg174.T 187 = e187 ∧ cfg174.mv 187 = (fun _ => []) ∧ cfg174.ti 188 = none ∧ cfg174.T 188 = e188 ∧ cfg174.mv 188 = (fun _ => []) ∧ cfg174.ti 189 = none ∧ cfg174.T 189 = e189 ∧ cfg174.mv 189 = (fun _ => []) ∧ cfg174.ti 190 = none ∧ cfg174.T 190 = e190 ∧ cfg174.mv 190 = (fun _ => []) ∧ cfg174.ti 191 = none ∧ cfg174.T 191 = e191 ∧ cfg174.mv 191 = (fun _ => []) := ⟨rfl, rfl, rfl, rfl, rfl, rfl, rfl, rfl, rfl, rfl, rfl, rfl, rfl, rfl, rfl, rfl, rfl, rfl, rfl, rfl, rfl, rfl, rfl, rfl⟩
section
attribute [local go_sem] qbe6 e172 e186 e187 e188 e189 e190 e191
attribute [local go_sem] qbu
theorem qbqm (hC : COk cfg174) (t : DType) (b : ByteArray) : Sem Tryz.prog 174 [.d (qbe t), .d (.s b)] (.tup [.d (qb6 (qdg t b).1), .d (.i .i64 (qdg t b).2.1), .d (.i .i64 (qdg t b).2.2)]) := by
  refine q0f (C := cfg174) (rs := [.cell 4 212, .tmp 5, .tmp 6]) (fun _ => []) Tryz.func174 rfl rfl rfl rfl rfl rfl ?_
  refine inQ ?_
  repeat' first
    | (with_reducible first | apply q0j | apply q0c | apply AW.seq | apply AW.block)
    | (with_reducible first | (refine AW.runK hC ?_; intro K hK) | (refine AW.drawK hC (by kernel_rfl) ?_; intro K hK))
    | ((with_reducible first | refine q0t ?_ | refine qb2 ?_ | refine q0i ?_); refine siQ ?_; (try simp (disch := omega) only [w64, wu8]))
    | (with_reducible refine qbn (by kernel_rfl) ?_)
    | ((first | (refine AW.cond rfl (fun h => ?_) (fun h => ?_)) | (refine AW.cond_ub rfl (fun h => ?_) ?_) | (refine AW.cond_nb rfl ?_ (fun h => ?_))) <;> (try replace h := q0a h) <;> (try (exfalso; first | omega | exact absurd h (by decide))))
    | (with_reducible first | apply AW.skip | apply AW.exit | apply AW.ret | apply q0k | apply q0l | apply q0d | apply q0e | refine q0b rfl ?_ | apply q0m | apply q0n)
    | (refine q0h ?_; refine subQ ?_)
    | (with_reducible refine And.intro ?_ ?_)
    | (subst hK)
    | exact trivial
  all_goals (try (intros; assumption))
  all_goals (try refine q0v ?_)
  all_goals (try (intros; trivial))
  all_goals (try (intros; omega))
  all_goals (try (rw [w64 (by omega) (by omega)]; first | done | omega))
  all_goals clear hC
  all_goals (try have T0 : qbi t = 0 := by grind)
  all_goals (try (have SZ := qlh T0; have TO := qju T0))
  all_goals first
    | omega
    | (simp only [qdg, zVal]; grind)
    | (exact T0)
    | grind
    | ((try split at h) <;> omega)
    | (intro d hd; first | (subst hd; exact ⟨rfl, by simp [D.cells, D.one]⟩) | (rcases hd with rfl | rfl <;> exact ⟨rfl, by simp [D.cells, D.one]⟩) | (rcases hd with rfl | rfl | rfl <;> exact ⟨rfl, by simp [D.cells, D.one]⟩) | (rcases hd with rfl | rfl | rfl | rfl <;> exact ⟨rfl, by simp [D.cells, D.one]⟩))
end
noncomputable def cfg163 : Cfg := ⟨Tryz.prog, 12, qzk, (fun _ _ => []), [], (fun _ => none)⟩
theorem qbe7 : cfg163.pins = [] ∧ cfg163.P = Tryz.prog ∧ cfg163.N = 12 ∧ cfg163.ti 173 = none ∧ cfg163.T 173 = e173 ∧ cfg163.mv 173 = (fun _ => []) := ⟨rfl, rfl, rfl, rfl, rfl, rfl⟩
section
attribute [local go_sem] qbe7 e173
attribute [local go_sem] q03 qb4 qc4 qdr qbt qb1 qd9 qe4 q06 qbv qcl qc8 qb5 qcd qds qea qbo qc0 qeb qe5 qbz qbp qcp qc6 qcn qed qc7 qco qee qc5 qcm qec List.length_take qce Int.toNat_zero Nat.sub_zero List.drop_zero
attribute [local go_sem ←] List.map_take List.map_drop
theorem qbqn (hC : COk cfg163) (x : Field) : Sem Tryz.prog 163 [.d (q03 x)] (.d (.i .i64 (qfl x))) := by
  refine q0f (C := cfg163) (rs := [.tmp 2]) (fun _ => []) Tryz.func163 rfl rfl rfl rfl rfl rfl ?_
  refine inQ ?_
  repeat' first
    | (with_reducible first | apply q0j | apply q0c | apply AW.seq | apply AW.block)
    | (with_reducible refine AW.runK hC ?_; intro K hK)
    | ((with_reducible first | refine q0t ?_ | refine q0i ?_); refine siQ ?_; (try simp (disch := omega) only [w64, wu8]))
    | ((first | (refine AW.cond rfl (fun h => ?_) (fun h => ?_)) | (refine AW.cond_ub rfl (fun h => ?_) ?_) | (refine AW.cond_nb rfl ?_ (fun h => ?_))) <;> (try replace h := q0a h) <;> (try (exfalso; first | omega | exact absurd h (by decide))))
    | (with_reducible first | apply AW.skip | apply AW.exit | apply AW.ret | apply q0k | apply q0l | apply q0d | apply q0e | refine q0b rfl ?_ | apply q0m | apply q0n)
    | (refine q0h ?_; refine subQ ?_)
    | (with_reducible refine And.intro ?_ ?_)
    | (subst hK)
    | exact trivial
  all_goals (try (intros; assumption))
  all_goals (try refine q0v ?_)
  all_goals (try (intros; trivial))
  all_goals (try (intros; omega))
  all_goals (try (rw [w64 (by omega) (by omega)]; first | done | omega))
  all_goals first
    | rfl
end
noncomputable def cfg154 : Cfg := ⟨Tryz.prog, 29, qzo, (fun _ _ => []), [], (fun _ => none)⟩
theorem qbe8 : cfg154.pins = [] ∧ cfg154.P = Tryz.prog ∧ cfg154.N = 29 ∧ cfg154.ti 163 = none ∧ cfg154.T 163 = e163 ∧ cfg154.mv 163 = (fun _ => []) := ⟨rfl, rfl, rfl, rfl, rfl, rfl⟩
section
attribute [local go_sem] qbe8 e163
attribute [local go_sem] q03 qb4 qc4 qdr qbt qb1 qd9 qe4 q06 qbv qcl qc8 qb5 qcd qds qea qbo qc0 qeb qe5 qbz qbp qcp qc6 qcn qed qc7 qco qee qc5 qcm qec List.length_take qce Int.toNat_zero Nat.sub_zero List.drop_zero
attribute [local go_sem ←] List.map_take List.map_drop
theorem qbqo (hC : COk cfg154) (f : Fmt) (name : ByteArray) (hp : f.fields.length ≤ 1000000) : Sem Tryz.prog 154 [.d (qbt f), .d (.s name)] (.tup [.d (.i .i64 (atF f.fields name).1), .d (.i .i64 (atF f.fields name).2.1), .d (.b (atF f.fields name).2.2)]) := by
  refine q0f (C := cfg154) (rs := [.tmp 4, .tmp 5, .tmp 6]) (fun _ => []) Tryz.func154 rfl rfl rfl rfl rfl rfl ?_
  refine inQ ?_
  repeat' first
    | (with_reducible first | apply q0j | apply q0c | apply AW.seq | apply AW.block)
    | (with_reducible refine AW.runK hC ?_; intro K hK)
    | ((with_reducible first | refine q0t ?_ | refine q0i ?_); refine siQ ?_; (try simp (disch := omega) only [w64, wu8]))
    | ((first | (refine AW.cond rfl (fun h => ?_) (fun h => ?_)) | (refine AW.cond_ub rfl (fun h => ?_) ?_) | (refine AW.cond_nb rfl ?_ (fun h => ?_))) <;> (try replace h := q0a h) <;> (try (exfalso; first | omega | exact absurd h (by decide))))
    | (with_reducible first | apply AW.skip | apply AW.exit | apply AW.ret | apply q0k | apply q0l | apply q0d | apply q0e | refine q0b rfl ?_ | apply q0m | apply q0n)
    | (refine AW.loopN 3 rfl (ι := Nat) (fun i => mkS [(1, V.d (.s name)), (7, V.d (.i .i64 (qb8 f.fields i))), (11, V.d (.sl 4 (f.fields.map q03))), (12, V.d (.i .i64 (f.fields.length : Int))), (13, V.d (.i .i64 (i : Int)))] ([])) (fun i => i ≤ f.fields.length ∧ idxF (f.fields.take i) name = none) (fun i => f.fields.length - i) (0) ?_ ?_ (fun i hi => ?_) <;> (try dsimp only) <;> (try dsimp only at hi))
    | (refine LoopNext.mk1 3 (i + 1) ?_ ?_ ?_ <;> (try dsimp only))
    | (refine q0h ?_; refine subQ ?_)
    | (with_reducible refine And.intro ?_ ?_)
    | (subst hK)
    | exact trivial
  all_goals (try (intros; assumption))
  all_goals (try refine q0v ?_)
  all_goals (try replace hp := q0a hp)
  all_goals (try replace hi := q0a hi)
  all_goals (try (intros; trivial))
  all_goals (try (intros; omega))
  all_goals (try (rw [w64 (by omega) (by omega)]; first | done | omega))
  all_goals (try have O1 := qgh f.fields i)
  all_goals (try have W1 := qik (f.fields.getD i q02))
  all_goals clear hC
  all_goals first
    | rfl
    | (rw [qbkn hi.2 (by omega) (by assumption)]; done)
    | exact qwh hi.2 (by omega) (by assumption)
    | (rw [qbpc hi.2 (by omega)]; done)
    | (rw [qb8, w64 (by omega) (by omega)]; done)
end
noncomputable def cfg164 : Cfg := ⟨Tryz.prog, 19, qzp, (fun _ _ => []), [], (fun _ => none)⟩
theorem qbe9 : cfg164.pins = [] ∧ cfg164.P = Tryz.prog ∧ cfg164.N = 19 ∧ cfg164.ti 163 = none ∧ cfg164.T 163 = e163 ∧ cfg164.mv 163 = (fun _ => []) := ⟨rfl, rfl, rfl, rfl, rfl, rfl⟩
section
attribute [local go_sem] qbe9 e163
attribute [local go_sem] q03 qb4 qc4 qdr qbt qb1 qd9 qe4 q06 qbv qcl qc8 qb5 qcd qds qea qbo qc0 qeb qe5 qbz qbp qcp qc6 qcn qed qc7 qco qee qc5 qcm qec List.length_take qce Int.toNat_zero Nat.sub_zero List.drop_zero
attribute [local go_sem ←] List.map_take List.map_drop
theorem qbqp (hC : COk cfg164) (f : Fmt) (hp : f.fields.length ≤ 1000000) : Sem Tryz.prog 164 [.d (qbt f)] (.d (.i .i64 (qfc f))) := by
  refine q0f (C := cfg164) (rs := [.tmp 2]) (fun _ => []) Tryz.func164 rfl rfl rfl rfl rfl rfl ?_
  refine inQ ?_
  repeat' first
    | (with_reducible first | apply q0j | apply q0c | apply AW.seq | apply AW.block)
    | (with_reducible refine AW.runK hC ?_; intro K hK)
    | ((with_reducible first | refine q0t ?_ | refine q0i ?_); refine siQ ?_; (try simp (disch := omega) only [w64, wu8]))
    | ((first | (refine AW.cond rfl (fun h => ?_) (fun h => ?_)) | (refine AW.cond_ub rfl (fun h => ?_) ?_) | (refine AW.cond_nb rfl ?_ (fun h => ?_))) <;> (try replace h := q0a h) <;> (try (exfalso; first | omega | exact absurd h (by decide))))
    | (with_reducible first | apply AW.skip | apply AW.exit | apply AW.ret | apply q0k | apply q0l | apply q0d | apply q0e | refine q0b rfl ?_ | apply q0m | apply q0n)
    | (refine AW.loopN 3 rfl (ι := Nat) (fun i => mkS [(3, V.d (.i .i64 (qb8 f.fields i))), (7, V.d (.sl 4 (f.fields.map q03))), (8, V.d (.i .i64 (f.fields.length : Int))), (9, V.d (.i .i64 (i : Int)))] ([])) (fun i => i ≤ f.fields.length) (fun i => f.fields.length - i) (0) ?_ ?_ (fun i hi => ?_) <;> (try dsimp only) <;> (try dsimp only at hi))
    | (refine LoopNext.mk1 3 (i + 1) ?_ ?_ ?_ <;> (try dsimp only))
    | (refine q0h ?_; refine subQ ?_)
    | (with_reducible refine And.intro ?_ ?_)
    | (subst hK)
    | exact trivial
  all_goals (try (intros; assumption))
  all_goals (try refine q0v ?_)
  all_goals (try replace hp := q0a hp)
  all_goals (try replace hi := q0a hi)
  all_goals (try (intros; trivial))
  all_goals (try (intros; omega))
  all_goals (try (rw [w64 (by omega) (by omega)]; first | done | omega))
  all_goals (try have O1 := qgh f.fields i)
  all_goals (try have W1 := qik (f.fields.getD i q02))
  all_goals clear hC
  all_goals first
    | rfl
    | (rw [qb8, w64 (by omega) (by omega)]; done)
    | (rw [qfc, show i = f.fields.length by omega]; done)
end
noncomputable def cfg162 : Cfg := ⟨Tryz.prog, 81, qzq, (fun _ _ => []), [], (fun _ => none)⟩
theorem qbfa : cfg162.pins = [] ∧ cfg162.P = Tryz.prog ∧ cfg162.N = 81 ∧ cfg162.ti 117 = none ∧ cfg162.T 117 = e117 ∧ cfg162.mv 117 = (fun _ => []) ∧ cfg162.ti 119 = none ∧ cfg162.T 119 = e119 ∧ cfg162.mv 119 = (fun _ => []) ∧ cfg162.ti 152 = none ∧ cfg162.T 152 = e152 ∧ cfg162.mv 152 = (fun _ => []) ∧ cfg162.ti 154 = none ∧ cfg162.T 154 = e154 ∧ cfg162.mv 154 = (fun _ => []) ∧ cfg162.ti 163 = none ∧ cfg162.T 163 = e163 ∧ cfg162.mv 163 = (fun _ => []) ∧ cfg162.ti 172 = none ∧ cfg162.T 172 = e172 ∧ cfg162.mv 172 = (fun _ => []) := ⟨rfl, rfl, rfl, rfl, rfl, rfl, rfl, rfl, rfl, rfl, rfl, rfl, rfl, rfl, rfl, rfl, rfl, rfl, rfl, rfl, rfl⟩
section
attribute [local go_sem] qbfa e117 e119 e152 e154 e163 e172
attribute [local go_sem] q03 qb4 qc4 qdr qbt qb1 qd9 qe4 q06 qbv qcl qc8 qb5 qcd qds qea qbo qc0 qeb qe5 qbz qbp qcp qc6 qcn qed qc7 qco qee qc5 qcm qec List.length_take qce Int.toNat_zero Nat.sub_zero List.drop_zero
attribute [local go_sem ←] List.map_take List.map_drop
theorem qbqq (hC : COk cfg162) (f : Fmt) (hp : f.fields.length ≤ 1000000) : Sem Tryz.prog 162 [.d (qbt f)] (.tup [.d (.i .i64 (qca f).1), .d (.i .i64 (qca f).2)]) := by
  refine q0f (C := cfg162) (rs := [.tmp 2, .tmp 3]) (fun _ => []) Tryz.func162 rfl rfl rfl rfl rfl rfl ?_
  refine inQ ?_
  repeat' first
    | (with_reducible first | apply q0j | apply q0c | apply AW.seq | apply AW.block)
    | (with_reducible first | (refine AW.runK hC ?_; intro K hK) | (refine AW.drawK hC (by kernel_rfl) ?_; intro K hK))
    | ((with_reducible first | refine q0t ?_ | refine qb2 ?_ | refine q0i ?_); refine siQ ?_; (try simp (disch := omega) only [w64, wu8]))
    | (with_reducible refine qbn (by kernel_rfl) ?_)
    | ((first | (refine AW.cond rfl (fun h => ?_) (fun h => ?_)) | (refine AW.cond_ub rfl (fun h => ?_) ?_) | (refine AW.cond_nb rfl ?_ (fun h => ?_))) <;> (try replace h := q0a h) <;> (try (exfalso; first | omega | exact absurd h (by decide))))
    | (with_reducible first | apply AW.skip | apply AW.exit | apply AW.ret | apply q0k | apply q0l | apply q0d | apply q0e | refine q0b rfl ?_ | apply q0m | apply q0n)
    | (refine AW.loopN 6 rfl (ι := Nat) (fun i => mkS [(1, V.ptr 16 0), (5, V.d (.i .i64 (qb8 f.fields i))), (33, V.d (.sl 4 (f.fields.map q03))), (34, V.d (.i .i64 (f.fields.length : Int))), (35, V.d (.i .i64 (i : Int)))] ([(16, .live (.box 74 [.d (.s f.name), .d (.sl 4 (f.fields.map q03))]))])) (fun i => i ≤ f.fields.length ∧ (qbb f.name = true ∧ 1 ≤ f.fields.length ∧ f.fields.length ≤ 20) ∧ ∀ j, j < i → qeg f.fields j = 0) (fun i => f.fields.length - i) (0) ?_ ?_ (fun i hi => ?_) <;> (try dsimp only) <;> (try dsimp only at hi))
    | (refine LoopNext.mk1 6 (i + 1) ?_ ?_ ?_ <;> (try dsimp only))
    | (refine q0h ?_; refine subQ ?_)
    | (with_reducible refine And.intro ?_ ?_)
    | (subst hK)
    | exact trivial
  all_goals (try (intros; assumption))
  all_goals (try refine q0v ?_)
  all_goals (try replace hp := q0a hp)
  all_goals (try replace hi := q0a hi)
  all_goals (try (intros; trivial))
  all_goals (try (intros; omega))
  all_goals (try (rw [w64 (by omega) (by omega)]; first | done | omega))
  all_goals (try have O1 := qgh f.fields i)
  all_goals (try have W1 := qik (f.fields.getD i q02))
  all_goals clear hC
  all_goals (try simp only [qbkp, qbpd] at *)
  all_goals first
    | rfl
    | (rw [qzl (by assumption)]; done)
    | (rw [qzl (by assumption)]; rfl)
    | exact (qva (by assumption)).1
    | exact (qva (by assumption)).2.1
    | exact (qva (by assumption)).2.2
    | exact hi.2.1.1
    | exact hi.2.1.2.1
    | exact hi.2.1.2.2
    | (rw [qbko hi.2.1 hi.2.2 (by omega) (by assumption)]; done)
    | exact qe3 hi.2.2 (by assumption)
    | (rw [q3k hi.2.1 hi.2.2 (by omega)]; done)
    | (rw [q3k hi.2.1 hi.2.2 (by omega), show f.fields.length = i by omega]; done)
    | (intro d hd; first | (subst hd; exact ⟨rfl, by simp [D.cells, D.one]⟩) | (rcases hd with rfl | rfl <;> exact ⟨rfl, by simp [D.cells, D.one]⟩) | (rcases hd with rfl | rfl | rfl <;> exact ⟨rfl, by simp [D.cells, D.one]⟩) | (rcases hd with rfl | rfl | rfl | rfl <;> exact ⟨rfl, by simp [D.cells, D.one]⟩))
    | (rw [qb8, w64 (by omega) (by omega)]; done)
end
noncomputable def cfg153 : Cfg := ⟨Tryz.prog, 11, qzr, (fun _ _ => []), [], (fun _ => none)⟩
theorem qbfb : cfg153.pins = [] ∧ cfg153.P = Tryz.prog ∧ cfg153.N = 11 ∧ cfg153.ti 162 = none ∧ cfg153.T 162 = e162 ∧ cfg153.mv 162 = (fun _ => []) := ⟨rfl, rfl, rfl, rfl, rfl, rfl⟩
section
attribute [local go_sem] qbfb e162
attribute [local go_sem] q03 qb4 qc4 qdr qbt qb1 qd9 qe4 q06 qbv qcl qc8 qb5 qcd qds qea qbo qc0 qeb qe5 qbz qbp qcp qc6 qcn qed qc7 qco qee qc5 qcm qec List.length_take qce Int.toNat_zero Nat.sub_zero List.drop_zero
attribute [local go_sem ←] List.map_take List.map_drop
theorem qbqr (hC : COk cfg153) (f : Fmt) (hp : f.fields.length ≤ 1000000) : Sem Tryz.prog 153 [.d (qbt f)] (.d (.i .i64 (qca f).2)) := by
  refine q0f (C := cfg153) (rs := [.tmp 2]) (fun _ => []) Tryz.func153 rfl rfl rfl rfl rfl rfl ?_
  refine inQ ?_
  repeat' first
    | (with_reducible first | apply q0j | apply q0c | apply AW.seq | apply AW.block)
    | (with_reducible refine AW.runK hC ?_; intro K hK)
    | ((with_reducible first | refine q0t ?_ | refine q0i ?_); refine siQ ?_; (try simp (disch := omega) only [w64, wu8]))
    | ((first | (refine AW.cond rfl (fun h => ?_) (fun h => ?_)) | (refine AW.cond_ub rfl (fun h => ?_) ?_) | (refine AW.cond_nb rfl ?_ (fun h => ?_))) <;> (try replace h := q0a h) <;> (try (exfalso; first | omega | exact absurd h (by decide))))
    | (with_reducible first | apply AW.skip | apply AW.exit | apply AW.ret | apply q0k | apply q0l | apply q0d | apply q0e | refine q0b rfl ?_ | apply q0m | apply q0n)
    | (refine q0h ?_; refine subQ ?_)
    | (with_reducible refine And.intro ?_ ?_)
    | (subst hK)
    | exact trivial
  all_goals (try (intros; assumption))
  all_goals (try refine q0v ?_)
  all_goals (try replace hp := q0a hp)
  all_goals (try (intros; trivial))
  all_goals (try (intros; omega))
  all_goals (try (rw [w64 (by omega) (by omega)]; first | done | omega))
end
noncomputable def cfg136 : Cfg := ⟨Tryz.prog, 66, qzs, (fun _ _ => []), [], (fun _ => none)⟩
theorem qbfc : cfg136.pins = [] ∧ cfg136.P = Tryz.prog ∧ cfg136.N = 66 ∧ cfg136.ti 117 = none ∧ cfg136.T 117 = e117 ∧ cfg136.mv 117 = (fun _ => []) ∧ cfg136.ti 119 = none ∧ cfg136.T 119 = e119 ∧ cfg136.mv 119 = (fun _ => []) ∧ cfg136.ti 152 = none ∧ cfg136.T 152 = e152 ∧ cfg136.mv 152 = (fun _ => []) ∧ cfg136.ti 153 = none ∧ cfg136.T 153 = e153 ∧ cfg136.mv 153 = (fun _ => []) ∧ cfg136.ti 154 = none ∧ cfg136.T 154 = e154 ∧ cfg136.mv 154 = (fun _ => []) := ⟨rfl, rfl, rfl, rfl, rfl, rfl, rfl, rfl, rfl, rfl, rfl, rfl, rfl, rfl, rfl, rfl, rfl, rfl⟩
section
attribute [local go_sem] qbfc e117 e119 e152 e153 e154
attribute [local go_sem] q03 qb4 qc4 qdr qbt qb1 qd9 qe4 q06 qbv qcl qc8 qb5 qcd qds qea qbo qc0 qeb qe5 qbz qbp qcp qc6 qcn qed qc7 qco qee qc5 qcm qec List.length_take qce Int.toNat_zero Nat.sub_zero List.drop_zero isKs q5r qbdm
attribute [local go_sem ←] List.map_take List.map_drop
attribute [local go_sem ↓] qbdk
theorem qbqs (hC : COk cfg136) (f : File) (hp : f.format.fields.length ≤ 1000000 ∧ f.keys.length ≤ 1000000) : Sem Tryz.prog 136 [.d (qb5 f)] (.tup [.d (.i .i64 (qch f).1), .d (.i .i64 (qch f).2)]) := by
  refine q0f (C := cfg136) (rs := [.tmp 2, .tmp 3]) (fun _ => []) Tryz.func136 rfl rfl rfl rfl rfl rfl ?_
  refine inQ ?_
  repeat' first
    | (with_reducible first | apply q0j | apply q0c | apply AW.seq | apply AW.block)
    | (refine AW.atR 12 rfl ?_; have hE : keyE f i = 0 := (by rw [← q88]; exact h); have hk := qwm (f := f) (i := i) (by omega) hE; have hv := q5q (f := f) (i := i) (by omega) hE; have hx := qod (qvd hE); have hy := q2i (f := f) (i := i) (by omega); have hz := q2j (f := f) (i := i) (by omega))
    | (with_reducible first | (refine AWh.runK hC ?_; intro K hK) | (refine AWh.drawK hC (by kernel_rfl) ?_; intro K hK))
    | (with_reducible first | (refine AW.runK hC ?_; intro K hK) | (refine AW.drawK hC (by kernel_rfl) ?_; intro K hK))
    | ((with_reducible first | refine q0t ?_ | refine qb2 ?_ | refine q0i ?_); (first | (simp (maxSteps := 1000000) only [go_sem, ↓reduceIte, reduceCtorEq, Nat.reduceEqDiff, Nat.reduceLT, Nat.reduceLeDiff, Nat.reduceMul, Nat.reduceAdd, Nat.reduceSub, reduceDIte, Nat.reduceBEq, Nat.reduceBNe, hk, hv, hx, hy, hz]) | (refine siQ ?_)); (try simp (disch := omega) only [w64, wu8]))
    | (with_reducible refine qbn (by kernel_rfl) ?_)
    | ((first | (refine AW.cond rfl (fun h => ?_) (fun h => ?_)) | (refine AW.cond_ub rfl (fun h => ?_) ?_) | (refine AW.cond_nb rfl ?_ (fun h => ?_))) <;> (try replace h := q0a h) <;> (try (exfalso; first | omega | exact absurd h (by decide))))
    | (with_reducible first | apply AW.skip | apply AW.exit | apply AW.ret | apply q0k | apply q0l | apply q0d | apply q0e | refine q0b rfl ?_ | apply q0m | apply q0n)
    | (refine AW.loopN 6 rfl (ι := Nat) (fun i => mkS [(1, V.ptr 16 0), (5, V.mref 80), (32, V.d (.sl 2 (f.keys.map q06))), (33, V.d (.i .i64 (f.keys.length : Int))), (34, V.d (.i .i64 (i : Int)))] ([(16, .live (.box 77 [.d (.s f.name), .d (.s f.format.name), .d (.sl 4 (f.format.fields.map q03)), .d (.sl 2 (f.keys.map q06)), .d (.b f.unique)])), (80, .live (.mp 197 ((f.keys.take i).map keyD) (qhk (f.keys.take i))))])) (fun i => i ≤ f.keys.length ∧ (qbb f.name = true ∧ (qca f.format).2 = 0 ∧ f.keys.length ≤ 4) ∧ ∀ j, j < i → keyE f j = 0) (fun i => f.keys.length - i) (0) ?_ ?_ (fun i hi => ?_) <;> (try dsimp only) <;> (try dsimp only at hi))
    | (refine LoopNext.mk1 6 (i + 1) ?_ ?_ ?_ <;> (try dsimp only))
    | (refine q0h ?_; refine subQ ?_)
    | (with_reducible refine And.intro ?_ ?_)
    | (subst hK)
    | exact trivial
  all_goals (try (intros; assumption))
  all_goals (try refine q0v ?_)
  all_goals (try replace hp := q0a hp)
  all_goals (try replace hi := q0a hi)
  all_goals (try replace hk := q0a hk)
  all_goals (try (intros; trivial))
  all_goals (try (intros; omega))
  all_goals (try (rw [w64 (by omega) (by omega)]; first | done | omega))
  all_goals clear hC
  all_goals (try simp only [qbdg, q88] at *)
  all_goals first
    | rfl
    | exact qbu5 _
    | exact qbdl _
    | (rw [qwk (by assumption)]; done)
    | (rw [qwk (by assumption)]; rfl)
    | exact (qsq (by assumption)).1
    | exact (qsq (by assumption)).2.1
    | exact (qsq (by assumption)).2.2
    | exact hi.2.1.1
    | exact hi.2.1.2.1
    | exact hi.2.1.2.2
    | (rw [qbdh hi.2.1 hi.2.2 (by omega) (by assumption)]; done)
    | exact qe3 hi.2.2 (by assumption)
    | (rw [qbdi hi.2.1 hi.2.2 (by omega)]; done)
    | (rw [qwm (by omega) (by assumption)]; exact q0p _)
    | (intro d hd; first | (subst hd; exact ⟨rfl, by simp [D.cells, D.one]⟩) | (rcases hd with rfl | rfl <;> exact ⟨rfl, by simp [D.cells, D.one]⟩) | (rcases hd with rfl | rfl | rfl <;> exact ⟨rfl, by simp [D.cells, D.one]⟩) | (rcases hd with rfl | rfl | rfl | rfl <;> exact ⟨rfl, by simp [D.cells, D.one]⟩))
end
noncomputable def cfg118 : Cfg := ⟨Tryz.prog, 11, qzt, (fun _ _ => []), [], (fun _ => none)⟩
theorem qbfd : cfg118.pins = [] ∧ cfg118.P = Tryz.prog ∧ cfg118.N = 11 ∧ cfg118.ti 136 = none ∧ cfg118.T 136 = e136 ∧ cfg118.mv 136 = (fun _ => []) := ⟨rfl, rfl, rfl, rfl, rfl, rfl⟩
section
attribute [local go_sem] qbfd e136
attribute [local go_sem] q03 qb4 qc4 qdr qbt qb1 qd9 qe4 q06 qbv qcl qc8 qb5 qcd qds qea qbo qc0 qeb qe5 qbz qbp qcp qc6 qcn qed qc7 qco qee qc5 qcm qec List.length_take qce Int.toNat_zero Nat.sub_zero List.drop_zero
attribute [local go_sem ←] List.map_take List.map_drop
theorem qbqt (hC : COk cfg118) (f : File) (hp : f.format.fields.length ≤ 1000000 ∧ f.keys.length ≤ 1000000) : Sem Tryz.prog 118 [.d (qb5 f)] (.d (.i .i64 (qch f).2)) := by
  refine q0f (C := cfg118) (rs := [.tmp 2]) (fun _ => []) Tryz.func118 rfl rfl rfl rfl rfl rfl ?_
  refine inQ ?_
  repeat' first
    | (with_reducible first | apply q0j | apply q0c | apply AW.seq | apply AW.block)
    | (with_reducible refine AW.runK hC ?_; intro K hK)
    | ((with_reducible first | refine q0t ?_ | refine q0i ?_); refine siQ ?_; (try simp (disch := omega) only [w64, wu8]))
    | ((first | (refine AW.cond rfl (fun h => ?_) (fun h => ?_)) | (refine AW.cond_ub rfl (fun h => ?_) ?_) | (refine AW.cond_nb rfl ?_ (fun h => ?_))) <;> (try replace h := q0a h) <;> (try (exfalso; first | omega | exact absurd h (by decide))))
    | (with_reducible first | apply AW.skip | apply AW.exit | apply AW.ret | apply q0k | apply q0l | apply q0d | apply q0e | refine q0b rfl ?_ | apply q0m | apply q0n)
    | (refine q0h ?_; refine subQ ?_)
    | (with_reducible refine And.intro ?_ ?_)
    | (subst hK)
    | exact trivial
  all_goals (try (intros; assumption))
  all_goals (try refine q0v ?_)
  all_goals (try replace hp := q0a hp)
  all_goals (try (intros; trivial))
  all_goals (try (intros; omega))
  all_goals (try (rw [w64 (by omega) (by omega)]; first | done | omega))
end
end Go.Ev
