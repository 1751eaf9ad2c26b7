/- Tools and contracts under the laws of this seat: Dyc197 to Dyc118. -/
import Derived.Test.YtkgkgcojfocomaaGreatE05
set_option linter.unusedVariables false
set_option linter.unusedSimpArgs false
namespace Go.Ev
open Go.Proofs Ty
set_option maxRecDepth 10000
set_option maxHeartbeats 4000000
attribute [local go_sem] qbe qbg qcg qc2 qb7 qde qdo qei Int.toNat_natCast qdd qd7 qer qcv qch qbn qb2 decI List.length_map nc0 qbf qbm
noncomputable def cfg197 : Cfg := mkC 12 q00q
theorem qbgz : cfg197.pins = [] ∧ cfg197.P = Tryz.prog ∧ cfg197.N = 12 := ⟨rfl, rfl, rfl⟩
section
attribute [local go_sem] qbgz
attribute [local go_sem] qbs
theorem qbso (hC : COk cfg197) (n : Int) : Sem Tryz.prog 197 [.d (.i .i64 n)] (.d (.i .i64 (p10 n))) := by
  refine q0f (C := cfg197) (rs := [.tmp 2]) (fun _ => []) Tryz.func197 rfl rfl rfl rfl rfl rfl ?_
  refine inQ ?_
  repeat' first
  | (with_reducible first | apply q0l | apply q0c | apply AW.seq | apply AW.block | apply AW.skip | apply AW.exit | apply AW.ret | apply q0m | apply q0n | apply q0d | apply q0e | refine q0b rfl ?_ | apply q0o | apply q0p | apply And.intro)
  | (with_reducible refine AW.runK hC ?_; intro K hK)
  | ((with_reducible first | refine q0t ?_ | refine q0k ?_); refine siQ ?_; (try simp (disch := omega) only [w64, wu8]))
  | ((first | refine AW.cond rfl (fun h => ?_) fun h => ?_ | refine AW.cond_ub rfl (fun h => ?_) ?_ | refine AW.cond_nb rfl ?_ fun h => ?_) <;> (try replace h := q0a h) <;> try (exfalso; first | omega | exact absurd h (by decide)))
  | (refine AW.loopN 3 rfl (ι := Nat) (fun i => mkS [(3, V.d (.i .i64 (10 ^ i : Int))), (5, V.d (.i .i64 (min n 18))), (6, V.d (.i .i64 (i : Int)))] ([])) (fun i => (i : Int) ≤ max 0 (min n 18)) (fun i => (min n 18).toNat - i) (0) ?_ ?_ (fun i hi => ?_) <;> (try dsimp only) <;> (try dsimp only at hi))
  | (refine LoopNext.mk1 3 (i + 1) ?_ ?_ ?_ <;> (try dsimp only))
  | (refine q0h ?_; refine subQ ?_)
  | (subst hK)
  | exact trivial
  all_goals try (intros; assumption)
  all_goals try refine q0v ?_
  all_goals try replace hi := q0a hi
  all_goals try (intros; first | trivial | omega)
  all_goals (try (rw [w64 (by omega) (by omega)]; first | done | omega))
  all_goals clear hC
  all_goals first
  | omega
  | exact q00h (by omega)
  | exact q43 hi h
  | (intro d hd; first | (subst hd; exact ⟨rfl, by simp [D.cells, D.one]⟩) | (rcases hd with rfl | rfl <;> exact ⟨rfl, by simp [D.cells, D.one]⟩) | (rcases hd with rfl | rfl | rfl <;> exact ⟨rfl, by simp [D.cells, D.one]⟩) | (rcases hd with rfl | rfl | rfl | rfl <;> exact ⟨rfl, by simp [D.cells, D.one]⟩))
end
noncomputable def cfg190 : Cfg := mkC 52 q00r
theorem qbg0 : cfg190.pins = [] ∧ cfg190.P = Tryz.prog ∧ cfg190.N = 52 ∧ cfg190.T 172 = e172 ∧ cfg190.T 185 = e185 ∧ cfg190.T 186 = e186 ∧ cfg190.T 187 = e187 ∧ cfg190.T 197 = e197 ∧ cfg190.ti = (fun _ => none) ∧ cfg190.mv = fun _ _ => [] := by and_intros <;> exact rfl
section
attribute [local go_sem] qbg0 e172 e185 e186 e187 e197
attribute [local go_sem] qbs
theorem qbsp (hC : COk cfg190) (t : DType) (v : Val) : Sem Tryz.prog 190 [.d (qbe t), .d (qb7 v)] (.d (.i .i64 (qi2 t v))) := by
  refine q0f (C := cfg190) (rs := [.tmp 4]) (fun _ => []) Tryz.func190 rfl rfl rfl rfl rfl rfl ?_
  refine inQ ?_
  repeat' first
  | (with_reducible first | apply q0l | apply q0c | apply AW.seq | apply AW.block | apply AW.skip | apply AW.exit | apply AW.ret | apply q0m | apply q0n | apply q0d | apply q0e | refine q0b rfl ?_ | apply q0o | apply q0p | apply And.intro)
  | (with_reducible first | (refine AW.runK hC ?_; intro K hK) | (refine AW.drawK hC (by kernel_rfl) ?_; intro K hK))
  | ((with_reducible first | refine q0t ?_ | refine qbz ?_ | refine q0k ?_); refine siQ ?_; (try simp (disch := omega) only [w64, wu8]))
  | (with_reducible refine qbj (by kernel_rfl) ?_)
  | ((first | refine AW.cond rfl (fun h => ?_) fun h => ?_ | refine AW.cond_ub rfl (fun h => ?_) ?_ | refine AW.cond_nb rfl ?_ fun h => ?_) <;> (try replace h := q0a h) <;> try (exfalso; first | omega | exact absurd h (by decide)))
  | (refine q0h ?_; refine subQ ?_)
  | (subst hK)
  | exact trivial
  all_goals try (intros; assumption)
  all_goals try refine q0v ?_
  all_goals try (intros; first | trivial | omega)
  all_goals (try (rw [w64 (by omega) (by omega)]; first | done | omega))
  all_goals clear hC
  all_goals have PW := qu0 t.length
  all_goals (try simp only [qi2])
  all_goals first
  | omega
  | grind
  | (rename_i hq; simp (disch := omega) only [w64]; revert hq; (repeat' split) <;> intros <;> first | rfl | omega | (exfalso; omega) | (simp_all; done))
  | (intro d hd; first | (subst hd; exact ⟨rfl, by simp [D.cells, D.one]⟩) | (rcases hd with rfl | rfl <;> exact ⟨rfl, by simp [D.cells, D.one]⟩) | (rcases hd with rfl | rfl | rfl <;> exact ⟨rfl, by simp [D.cells, D.one]⟩) | (rcases hd with rfl | rfl | rfl | rfl <;> exact ⟨rfl, by simp [D.cells, D.one]⟩))
end
noncomputable def cfg189 : Cfg := mkC 25 q00s
theorem qbg1 : cfg189.pins = [] ∧ cfg189.P = Tryz.prog ∧ cfg189.N = 25 := ⟨rfl, rfl, rfl⟩
section
attribute [local go_sem] qbg1
attribute [local go_sem] qbs
theorem qbsq (hC : COk cfg189) (b : ByteArray) (hp : 0 < b.size ∧ b.size ≤ 1000) : Sem Tryz.prog 189 [.d (.s b)] (.d (.i .i64 (binN b))) := by
  refine q0f (C := cfg189) (rs := [.tmp 2]) (fun _ => []) Tryz.func189 rfl rfl rfl rfl rfl rfl ?_
  refine inQ ?_
  repeat' first
  | (with_reducible first | apply q0l | apply q0c | apply AW.seq | apply AW.block | apply AW.skip | apply AW.exit | apply AW.ret | apply q0m | apply q0n | apply q0d | apply q0e | refine q0b rfl ?_ | apply q0o | apply q0p | apply And.intro)
  | (with_reducible refine AW.runK hC ?_; intro K hK)
  | ((with_reducible first | refine q0t ?_ | refine q0k ?_); refine siQ ?_; (try simp (disch := omega) only [w64, wu8]))
  | ((first | refine AW.cond rfl (fun h => ?_) fun h => ?_ | refine AW.cond_ub rfl (fun h => ?_) ?_ | refine AW.cond_nb rfl ?_ fun h => ?_) <;> (try replace h := q0a h) <;> try (exfalso; first | omega | exact absurd h (by decide)))
  | (refine AW.loopN 3 rfl (ι := Nat) (fun i => mkS [(3, V.d (.i .i64 (qna b i))), (12, V.d (.sl 1 (qhl (b.extract 1 b.size)))), (13, V.d (.i .i64 ((b.size - 1 : Nat) : Int))), (14, V.d (.i .i64 (i : Int)))] ([])) (fun i => i ≤ b.size - 1) (fun i => b.size - 1 - i) (0) ?_ ?_ (fun i hi => ?_) <;> (try dsimp only) <;> (try dsimp only at hi))
  | (refine LoopNext.mk1 3 (i + 1) ?_ ?_ ?_ <;> (try dsimp only))
  | (refine q0h ?_; refine subQ ?_)
  | (subst hK)
  | exact trivial
  all_goals try (intros; assumption)
  all_goals try refine q0v ?_
  all_goals try replace hp := q0a hp
  all_goals try replace hi := q0a hi
  all_goals try (intros; first | trivial | omega)
  all_goals (try (rw [w64 (by omega) (by omega)]; first | done | omega))
  all_goals clear hC
  all_goals first
  | omega
  | exact q0q _
  | (rw [qtl]; omega)
  | (rw [qtl]; done)
  | (show qna b 0 = IntKind.i64.wrap (IntKind.i8.wrap (chr b 0)); rw [w64 (by have := q44 (chr b 0); omega) (by have := q44 (chr b 0); omega)]; rfl)
  | (show ((b.size - 1 : Nat) : Int) = ((b.extract 1 b.size).size : Int); rw [qtl])
  | (rw [qli b i (by omega), qbml b i (by omega), w64 (n := chr b (i + 1)) (by have := qz0 b (i + 1); omega) (by have := qz0 b (i + 1); omega)]; rfl)
  | (rw [qri b i (by omega)]; done)
  | (intro d hd; first | (subst hd; exact ⟨rfl, by simp [D.cells, D.one]⟩) | (rcases hd with rfl | rfl <;> exact ⟨rfl, by simp [D.cells, D.one]⟩) | (rcases hd with rfl | rfl | rfl <;> exact ⟨rfl, by simp [D.cells, D.one]⟩) | (rcases hd with rfl | rfl | rfl | rfl <;> exact ⟨rfl, by simp [D.cells, D.one]⟩))
end
noncomputable def cfg198 : Cfg := mkC 65 q00t
theorem qbg2 : cfg198.pins = [] ∧ cfg198.P = Tryz.prog ∧ cfg198.N = 65 := ⟨rfl, rfl, rfl⟩
section
attribute [local go_sem] qbg2
attribute [local go_sem] qbs
theorem qbsr (hC : COk cfg198) (t : DType) (b : ByteArray) (hp : 0 < b.size ∧ b.size ≤ 1000) : Sem Tryz.prog 198 [.d (qbe t), .d (.s b)] (.tup [.d (.sl 1 ((qbt t b).1.map (D.i .u8))), .d (.sl 1 ((qbt t b).2.map (D.i .i64)))]) := by
  refine q0f (C := cfg198) (rs := [.tmp 4, .tmp 5]) (fun _ => []) Tryz.func198 rfl rfl rfl rfl rfl rfl ?_
  refine inQ ?_
  repeat' first
  | (with_reducible first | apply q0l | apply q0c | apply AW.seq | apply AW.block | apply AW.skip | apply AW.exit | apply AW.ret | apply q0m | apply q0n | apply q0d | apply q0e | refine q0b rfl ?_ | apply q0o | apply q0p | apply And.intro)
  | (with_reducible first | (refine AW.runK hC ?_; intro K hK) | (refine AW.drawK hC (by kernel_rfl) ?_; intro K hK))
  | ((with_reducible first | refine q0t ?_ | refine qbz ?_ | refine q0k ?_); refine siQ ?_; (try simp (disch := omega) only [w64, wu8]))
  | (with_reducible refine qbj (by kernel_rfl) ?_)
  | ((first | refine AW.cond rfl (fun h => ?_) fun h => ?_ | refine AW.cond_ub rfl (fun h => ?_) ?_ | refine AW.cond_nb rfl ?_ fun h => ?_) <;> (try replace h := q0a h) <;> try (exfalso; first | omega | exact absurd h (by decide)))
  | (refine AW.loopN 2 rfl (ι := Nat) (fun i => mkS [(1, V.d (.s b)), (2, V.ptr 32 0), (4, V.row 64 1 0 (qf5 t b i).length), (5, V.row 80 1 0 (qgs t i).length), (10, V.d (.i .i64 (b.size : Int))), (11, V.d (.i .i64 (i : Int)))] ([(32, .live (.box 108 [.d (.i .i64 t.kind), .d (.i .i64 t.length), .d (.i .i64 t.scale)])), (64, .live (.row 5 1 false ((qf5 t b i).map (D.i .u8)))), (80, .live (.row 3 1 false ((qgs t i).map (D.i .i64))))])) (fun i => i ≤ b.size) (fun i => b.size - i) (0) ?_ ?_ (fun i hi => ?_) <;> (try dsimp only) <;> (try dsimp only at hi))
  | (refine LoopNext.mk1 2 (i + 1) ?_ ?_ ?_ <;> (try dsimp only))
  | (refine q0h ?_; refine subQ ?_)
  | (subst hK)
  | exact trivial
  all_goals try (intros; assumption)
  all_goals try refine q0v ?_
  all_goals try replace hp := q0a hp
  all_goals try replace hi := q0a hi
  all_goals try (intros; first | trivial | omega)
  all_goals (try (rw [w64 (by omega) (by omega)]; first | done | omega))
  all_goals (try have L1 := qf2 t b i)
  all_goals (try have L2 := qh4 t i)
  all_goals clear hC
  all_goals first
  | omega
  | (split at L1 <;> split at L2 <;> omega)
  | (rw [qwd (by assumption)]; simp; done)
  | (rw [qwe (by assumption)]; simp; done)
  | (rw [qwf (by assumption)]; simp; done)
  | (rw [qwg (by assumption)]; simp; done)
  | (rw [qwd (by assumption), List.map_append]; exact q0q _)
  | (rw [qwe (by assumption), List.map_append]; exact q0q _)
  | (rw [qwf (by assumption), List.map_append]; exact q0q _)
  | (rw [qwg (by assumption), List.map_append]; exact q0q _)
  | (rw [List.take_of_length_le (by simp), ql1 (by assumption), show i = b.size by omega, qjr, List.map_append]; exact q0q _)
  | (rw [List.take_of_length_le (by simp), ql1 (by assumption), show i = b.size by omega, List.map_append]; exact q0q _)
  | (rw [List.take_of_length_le (by simp), qn0 (by assumption), show i = b.size by omega]; exact q0q _)
  | (intro d hd; first | (subst hd; exact ⟨rfl, by simp [D.cells, D.one]⟩) | (rcases hd with rfl | rfl <;> exact ⟨rfl, by simp [D.cells, D.one]⟩) | (rcases hd with rfl | rfl | rfl <;> exact ⟨rfl, by simp [D.cells, D.one]⟩) | (rcases hd with rfl | rfl | rfl | rfl <;> exact ⟨rfl, by simp [D.cells, D.one]⟩))
end
noncomputable def cfg191 : Cfg := mkC 81 q00u
theorem qbg3 : cfg191.pins = [] ∧ cfg191.P = Tryz.prog ∧ cfg191.N = 81 ∧ cfg191.ti 198 = none ∧ cfg191.T 198 = e198 ∧ cfg191.mv 198 = (fun _ => []) := by and_intros <;> exact rfl
section
attribute [local go_sem] qbg3 e198
attribute [local go_sem] qbs qbe4 List.length_take
attribute [local go_sem ←] List.map_take
theorem qbss (hC : COk cfg191) (t : DType) (b : ByteArray) (hp : 0 < b.size ∧ b.size ≤ 1000 ∧ 0 ≤ t.length ∧ t.length ≤ 1000) : Sem Tryz.prog 191 [.d (qbe t), .d (.s b)] (.tup [.d (.i .i64 (decN t b).1), .d (.i .i64 (decN t b).2.1), .d (.i .i64 (decN t b).2.2)]) := by
  obtain ⟨q1, q2, q3, q4⟩ := hp
  have HLN := qp2 t b
  have HL1 : 1 ≤ (qbt t b).1.length ∧ (qbt t b).1.length ≤ 3000 := by rw [HLN.1]; (repeat' split) <;> omega
  refine q0f (C := cfg191) (rs := [.tmp 4, .tmp 5, .tmp 6]) (fun _ => []) Tryz.func191 rfl rfl rfl rfl rfl rfl ?_
  refine inQ ?_
  repeat' first
  | (with_reducible first | apply q0l | apply q0c | apply AW.seq | apply AW.block | apply AW.skip | apply AW.exit | apply AW.ret | apply q0m | apply q0n | apply q0d | apply q0e | refine q0b rfl ?_ | apply q0o | apply q0p | apply And.intro)
  | (with_reducible first | (refine AW.runK hC ?_; intro K hK) | (refine AW.drawK hC (by kernel_rfl) ?_; intro K hK))
  | ((with_reducible first | refine q0t ?_ | refine qbz ?_ | refine q0k ?_); refine siQ ?_; (try simp (disch := omega) only [w64, wu8]))
  | (with_reducible refine qbj (by kernel_rfl) ?_)
  | ((first | refine AW.cond rfl (fun h => ?_) fun h => ?_ | refine AW.cond_ub rfl (fun h => ?_) ?_ | refine AW.cond_nb rfl ?_ fun h => ?_) <;> (try replace h := q0a h) <;> try (exfalso; first | omega | exact absurd h (by decide)))
  | (refine AW.loopN 5 rfl (ι := Nat × Int) (fun p => mkS [(2, V.ptr 32 0), (7, V.d (.sl 1 ((qbt t b).1.map (D.i .u8)))), (8, V.d (.sl 1 ((qbt t b).2.map (D.i .i64)))), (9, V.d (.i .i64 (((qbt t b).1.length : Int) - 1))), (10, V.d (.i .i64 p.2)), (24, V.d (.sl 1 (((qbt t b).1.take ((qbt t b).1.length - 1)).map (D.i .u8)))), (25, V.d (.i .i64 (((qbt t b).1.length - 1 : Nat) : Int))), (26, V.d (.i .i64 (p.1 : Int)))] ([(32, .live (.box 108 [.d (.i .i64 t.kind), .d (.i .i64 t.length), .d (.i .i64 t.scale)]))])) (fun p => p.1 ≤ (qbt t b).1.length - 1 ∧ qhd t.length (qbt t b).1 (qbt t b).2 (((qbt t b).1.length : Int) - 1) (((qbt t b).1.take ((qbt t b).1.length - 1)).drop p.1) p.1 p.2 = decN t b) (fun p => (qbt t b).1.length - 1 - p.1) ((0, 0)) ?_ ?_ (fun p hi => ?_) <;> (try dsimp only) <;> (try dsimp only at hi))
  | (refine LoopNext.mk1 5 ((p.1 + 1, IntKind.i64.wrap (IntKind.i64.wrap (p.2 * 10) + IntKind.i64.wrap (((qbt t b).1.take ((qbt t b).1.length - 1)).getD p.1 0)))) ?_ ?_ ?_ <;> (try dsimp only))
  | (refine q0h ?_; refine subQ ?_)
  | (subst hK)
  | exact trivial
  all_goals try (intros; assumption)
  all_goals try refine q0v ?_
  all_goals try replace hp := q0a hp
  all_goals try replace hi := q0a hi
  all_goals try (intros; first | trivial | omega)
  all_goals (try (rw [w64 (by omega) (by omega)]; first | done | omega))
  all_goals clear hC
  all_goals have RL : ((qbt t b).1.take ((qbt t b).1.length - 1)).length = (qbt t b).1.length - 1 := by rw [List.length_take]; omega
  all_goals first
  | omega
  | (refine qj3 ?_; simp only [Int.toNat_zero, List.drop_zero, Nat.sub_zero, qjr, List.map_take])
  | (simp only [Int.toNat_zero, List.drop_zero, Nat.sub_zero, qjr, List.length_map]; omega)
  | rfl
  | (rw [qbay hi.2 (by omega) (by omega)]; done)
  | exact q67 hi.2 (by omega) (by omega)
  | (rw [q68 hi.2 (by omega) (by omega)]; done)
  | (rw [q69 hi.2 (by omega) (by omega) (by omega)]; done)
  | (rw [q7a hi.2 (by omega) (by omega) (by omega)]; done)
  | (intro d hd; first | (subst hd; exact ⟨rfl, by simp [D.cells, D.one]⟩) | (rcases hd with rfl | rfl <;> exact ⟨rfl, by simp [D.cells, D.one]⟩) | (rcases hd with rfl | rfl | rfl <;> exact ⟨rfl, by simp [D.cells, D.one]⟩) | (rcases hd with rfl | rfl | rfl | rfl <;> exact ⟨rfl, by simp [D.cells, D.one]⟩))
end
noncomputable def cfg174 : Cfg := mkC 63 q00v
theorem qbg4 : cfg174.pins = [] ∧ cfg174.P = Tryz.prog ∧ cfg174.N = 63 ∧ cfg174.T 172 = e172 ∧ cfg174.T 186 = e186 ∧ cfg174.T 187 = e187 ∧ cfg174.T 188 = e188 ∧ cfg174.T 189 = e189 ∧ cfg174.T 190 = e190 ∧ cfg174.T 191 = e191 ∧ cfg174.ti = (fun _ => none) ∧ cfg174.mv = fun _ _ => [] := by and_intros <;> exact rfl
section
attribute [local go_sem] qbg4 e172 e186 e187 e188 e189 e190 e191
attribute [local go_sem] qbs
theorem qbst (hC : COk cfg174) (t : DType) (b : ByteArray) : Sem Tryz.prog 174 [.d (qbe t), .d (.s b)] (.tup [.d (qb7 (qdj t b).1), .d (.i .i64 (qdj t b).2.1), .d (.i .i64 (qdj t b).2.2)]) := by
  refine q0f (C := cfg174) (rs := [.cell 4 212, .tmp 5, .tmp 6]) (fun _ => []) Tryz.func174 rfl rfl rfl rfl rfl rfl ?_
  refine inQ ?_
  repeat' first
  | (with_reducible first | apply q0l | apply q0c | apply AW.seq | apply AW.block | apply AW.skip | apply AW.exit | apply AW.ret | apply q0m | apply q0n | apply q0d | apply q0e | refine q0b rfl ?_ | apply q0o | apply q0p | apply And.intro)
  | (with_reducible first | (refine AW.runK hC ?_; intro K hK) | (refine AW.drawK hC (by kernel_rfl) ?_; intro K hK))
  | ((with_reducible first | refine q0t ?_ | refine qbz ?_ | refine q0k ?_); refine siQ ?_; (try simp (disch := omega) only [w64, wu8]))
  | (with_reducible refine qbj (by kernel_rfl) ?_)
  | ((first | refine AW.cond rfl (fun h => ?_) fun h => ?_ | refine AW.cond_ub rfl (fun h => ?_) ?_ | refine AW.cond_nb rfl ?_ fun h => ?_) <;> (try replace h := q0a h) <;> try (exfalso; first | omega | exact absurd h (by decide)))
  | (refine q0h ?_; refine subQ ?_)
  | (subst hK)
  | exact trivial
  all_goals try (intros; assumption)
  all_goals try refine q0v ?_
  all_goals try (intros; first | trivial | omega)
  all_goals (try (rw [w64 (by omega) (by omega)]; first | done | omega))
  all_goals clear hC
  all_goals (try have T0 : qbi t = 0 := by grind)
  all_goals (try (have SZ := ql0 T0; have TO := qj4 T0))
  all_goals first
  | omega
  | (simp only [qdj, zVal]; grind)
  | (exact T0)
  | grind
  | ((try split at h) <;> omega)
  | (intro d hd; first | (subst hd; exact ⟨rfl, by simp [D.cells, D.one]⟩) | (rcases hd with rfl | rfl <;> exact ⟨rfl, by simp [D.cells, D.one]⟩) | (rcases hd with rfl | rfl | rfl <;> exact ⟨rfl, by simp [D.cells, D.one]⟩) | (rcases hd with rfl | rfl | rfl | rfl <;> exact ⟨rfl, by simp [D.cells, D.one]⟩))
end
noncomputable def cfg163 : Cfg := mkC 12 q00w
theorem qbg5 : cfg163.pins = [] ∧ cfg163.P = Tryz.prog ∧ cfg163.N = 12 ∧ cfg163.ti 173 = none ∧ cfg163.T 173 = e173 ∧ cfg163.mv 173 = (fun _ => []) := by and_intros <;> exact rfl
section
attribute [local go_sem] qbg5 e173
attribute [local go_sem] q05 qb5 qc8 qds qbw qb3 qec qe9 q06 qbx qcq qdc qb6 qci qdt qed qbp qc5 qee qfa qb1 qbr qcu qda qcs qeg qdb qct qeh qc9 qcr qef List.length_take qck Int.toNat_zero Nat.sub_zero List.drop_zero
attribute [local go_sem ←] List.map_take List.map_drop
theorem qbsu (hC : COk cfg163) (x : Field) : Sem Tryz.prog 163 [.d (q05 x)] (.d (.i .i64 (qfq x))) := by
  refine q0f (C := cfg163) (rs := [.tmp 2]) (fun _ => []) Tryz.func163 rfl rfl rfl rfl rfl rfl ?_
  refine inQ ?_
  repeat' first
  | (with_reducible first | apply q0l | apply q0c | apply AW.seq | apply AW.block | apply AW.skip | apply AW.exit | apply AW.ret | apply q0m | apply q0n | apply q0d | apply q0e | refine q0b rfl ?_ | apply q0o | apply q0p | apply And.intro)
  | (with_reducible refine AW.runK hC ?_; intro K hK)
  | ((with_reducible first | refine q0t ?_ | refine q0k ?_); refine siQ ?_; (try simp (disch := omega) only [w64, wu8]))
  | ((first | refine AW.cond rfl (fun h => ?_) fun h => ?_ | refine AW.cond_ub rfl (fun h => ?_) ?_ | refine AW.cond_nb rfl ?_ fun h => ?_) <;> (try replace h := q0a h) <;> try (exfalso; first | omega | exact absurd h (by decide)))
  | (refine q0h ?_; refine subQ ?_)
  | (subst hK)
  | exact trivial
  all_goals try (intros; assumption)
  all_goals try refine q0v ?_
  all_goals try (intros; first | trivial | omega)
  all_goals (try (rw [w64 (by omega) (by omega)]; first | done | omega))
  all_goals first
  | rfl
end
noncomputable def cfg154 : Cfg := mkC 29 q000
theorem qbg6 : cfg154.pins = [] ∧ cfg154.P = Tryz.prog ∧ cfg154.N = 29 ∧ cfg154.ti 163 = none ∧ cfg154.T 163 = e163 ∧ cfg154.mv 163 = (fun _ => []) := by and_intros <;> exact rfl
section
attribute [local go_sem] qbg6 e163
attribute [local go_sem] q05 qb5 qc8 qds qbw qb3 qec qe9 q06 qbx qcq qdc qb6 qci qdt qed qbp qc5 qee qfa qb1 qbr qcu qda qcs qeg qdb qct qeh qc9 qcr qef List.length_take qck Int.toNat_zero Nat.sub_zero List.drop_zero
attribute [local go_sem ←] List.map_take List.map_drop
theorem qbsv (hC : COk cfg154) (f : Fmt) (name : ByteArray) (hp : f.fields.length ≤ 1000000) : Sem Tryz.prog 154 [.d (qbw f), .d (.s name)] (.tup [.d (.i .i64 (atF f.fields name).1), .d (.i .i64 (atF f.fields name).2.1), .d (.b (atF f.fields name).2.2)]) := by
  refine q0f (C := cfg154) (rs := [.tmp 4, .tmp 5, .tmp 6]) (fun _ => []) Tryz.func154 rfl rfl rfl rfl rfl rfl ?_
  refine inQ ?_
  repeat' first
  | (with_reducible first | apply q0l | apply q0c | apply AW.seq | apply AW.block | apply AW.skip | apply AW.exit | apply AW.ret | apply q0m | apply q0n | apply q0d | apply q0e | refine q0b rfl ?_ | apply q0o | apply q0p | apply And.intro)
  | (with_reducible refine AW.runK hC ?_; intro K hK)
  | ((with_reducible first | refine q0t ?_ | refine q0k ?_); refine siQ ?_; (try simp (disch := omega) only [w64, wu8]))
  | ((first | refine AW.cond rfl (fun h => ?_) fun h => ?_ | refine AW.cond_ub rfl (fun h => ?_) ?_ | refine AW.cond_nb rfl ?_ fun h => ?_) <;> (try replace h := q0a h) <;> try (exfalso; first | omega | exact absurd h (by decide)))
  | (refine AW.loopN 3 rfl (ι := Nat) (fun i => mkS [(1, V.d (.s name)), (7, V.d (.i .i64 (qcc f.fields i))), (11, V.d (.sl 4 (f.fields.map q05))), (12, V.d (.i .i64 (f.fields.length : Int))), (13, V.d (.i .i64 (i : Int)))] ([])) (fun i => i ≤ f.fields.length ∧ idxF (f.fields.take i) name = none) (fun i => f.fields.length - i) (0) ?_ ?_ (fun i hi => ?_) <;> (try dsimp only) <;> (try dsimp only at hi))
  | (refine LoopNext.mk1 3 (i + 1) ?_ ?_ ?_ <;> (try dsimp only))
  | (refine q0h ?_; refine subQ ?_)
  | (subst hK)
  | exact trivial
  all_goals try (intros; assumption)
  all_goals try refine q0v ?_
  all_goals try replace hp := q0a hp
  all_goals try replace hi := q0a hi
  all_goals try (intros; first | trivial | omega)
  all_goals (try (rw [w64 (by omega) (by omega)]; first | done | omega))
  all_goals (try have O1 := qgp f.fields i)
  all_goals (try have W1 := qiw (f.fields.getD i q04))
  all_goals clear hC
  all_goals first
  | rfl
  | (rw [qbmm hi.2 (by omega) (by assumption)]; done)
  | exact qxq hi.2 (by omega) (by assumption)
  | (rw [qbrh hi.2 (by omega)]; done)
  | (rw [qcc, w64 (by omega) (by omega)]; done)
end
noncomputable def cfg164 : Cfg := mkC 19 q001
theorem qbg7 : cfg164.pins = [] ∧ cfg164.P = Tryz.prog ∧ cfg164.N = 19 ∧ cfg164.ti 163 = none ∧ cfg164.T 163 = e163 ∧ cfg164.mv 163 = (fun _ => []) := by and_intros <;> exact rfl
section
attribute [local go_sem] qbg7 e163
attribute [local go_sem] q05 qb5 qc8 qds qbw qb3 qec qe9 q06 qbx qcq qdc qb6 qci qdt qed qbp qc5 qee qfa qb1 qbr qcu qda qcs qeg qdb qct qeh qc9 qcr qef List.length_take qck Int.toNat_zero Nat.sub_zero List.drop_zero
attribute [local go_sem ←] List.map_take List.map_drop
theorem qbsw (hC : COk cfg164) (f : Fmt) (hp : f.fields.length ≤ 1000000) : Sem Tryz.prog 164 [.d (qbw f)] (.d (.i .i64 (qfe f))) := by
  refine q0f (C := cfg164) (rs := [.tmp 2]) (fun _ => []) Tryz.func164 rfl rfl rfl rfl rfl rfl ?_
  refine inQ ?_
  repeat' first
  | (with_reducible first | apply q0l | apply q0c | apply AW.seq | apply AW.block | apply AW.skip | apply AW.exit | apply AW.ret | apply q0m | apply q0n | apply q0d | apply q0e | refine q0b rfl ?_ | apply q0o | apply q0p | apply And.intro)
  | (with_reducible refine AW.runK hC ?_; intro K hK)
  | ((with_reducible first | refine q0t ?_ | refine q0k ?_); refine siQ ?_; (try simp (disch := omega) only [w64, wu8]))
  | ((first | refine AW.cond rfl (fun h => ?_) fun h => ?_ | refine AW.cond_ub rfl (fun h => ?_) ?_ | refine AW.cond_nb rfl ?_ fun h => ?_) <;> (try replace h := q0a h) <;> try (exfalso; first | omega | exact absurd h (by decide)))
  | (refine AW.loopN 3 rfl (ι := Nat) (fun i => mkS [(3, V.d (.i .i64 (qcc f.fields i))), (7, V.d (.sl 4 (f.fields.map q05))), (8, V.d (.i .i64 (f.fields.length : Int))), (9, V.d (.i .i64 (i : Int)))] ([])) (fun i => i ≤ f.fields.length) (fun i => f.fields.length - i) (0) ?_ ?_ (fun i hi => ?_) <;> (try dsimp only) <;> (try dsimp only at hi))
  | (refine LoopNext.mk1 3 (i + 1) ?_ ?_ ?_ <;> (try dsimp only))
  | (refine q0h ?_; refine subQ ?_)
  | (subst hK)
  | exact trivial
  all_goals try (intros; assumption)
  all_goals try refine q0v ?_
  all_goals try replace hp := q0a hp
  all_goals try replace hi := q0a hi
  all_goals try (intros; first | trivial | omega)
  all_goals (try (rw [w64 (by omega) (by omega)]; first | done | omega))
  all_goals (try have O1 := qgp f.fields i)
  all_goals (try have W1 := qiw (f.fields.getD i q04))
  all_goals clear hC
  all_goals first
  | rfl
  | (rw [qcc, w64 (by omega) (by omega)]; done)
  | (rw [qfe, show i = f.fields.length by omega]; done)
end
noncomputable def cfg162 : Cfg := mkC 81 q002
theorem qbg8 : cfg162.pins = [] ∧ cfg162.P = Tryz.prog ∧ cfg162.N = 81 ∧ cfg162.T 117 = e117 ∧ cfg162.T 119 = e119 ∧ cfg162.T 152 = e152 ∧ cfg162.T 154 = e154 ∧ cfg162.T 163 = e163 ∧ cfg162.T 172 = e172 ∧ cfg162.ti = (fun _ => none) ∧ cfg162.mv = fun _ _ => [] := by and_intros <;> exact rfl
section
attribute [local go_sem] qbg8 e117 e119 e152 e154 e163 e172
attribute [local go_sem] q05 qb5 qc8 qds qbw qb3 qec qe9 q06 qbx qcq qdc qb6 qci qdt qed qbp qc5 qee qfa qb1 qbr qcu qda qcs qeg qdb qct qeh qc9 qcr qef List.length_take qck Int.toNat_zero Nat.sub_zero List.drop_zero
attribute [local go_sem ←] List.map_take List.map_drop
theorem qbsx (hC : COk cfg162) (f : Fmt) (hp : f.fields.length ≤ 1000000) : Sem Tryz.prog 162 [.d (qbw f)] (.tup [.d (.i .i64 (qca f).1), .d (.i .i64 (qca f).2)]) := by
  refine q0f (C := cfg162) (rs := [.tmp 2, .tmp 3]) (fun _ => []) Tryz.func162 rfl rfl rfl rfl rfl rfl ?_
  refine inQ ?_
  repeat' first
  | (with_reducible first | apply q0l | apply q0c | apply AW.seq | apply AW.block | apply AW.skip | apply AW.exit | apply AW.ret | apply q0m | apply q0n | apply q0d | apply q0e | refine q0b rfl ?_ | apply q0o | apply q0p | apply And.intro)
  | (with_reducible first | (refine AW.runK hC ?_; intro K hK) | (refine AW.drawK hC (by kernel_rfl) ?_; intro K hK))
  | ((with_reducible first | refine q0t ?_ | refine qbz ?_ | refine q0k ?_); refine siQ ?_; (try simp (disch := omega) only [w64, wu8]))
  | (with_reducible refine qbj (by kernel_rfl) ?_)
  | ((first | refine AW.cond rfl (fun h => ?_) fun h => ?_ | refine AW.cond_ub rfl (fun h => ?_) ?_ | refine AW.cond_nb rfl ?_ fun h => ?_) <;> (try replace h := q0a h) <;> try (exfalso; first | omega | exact absurd h (by decide)))
  | (refine AW.loopN 6 rfl (ι := Nat) (fun i => mkS [(1, V.ptr 16 0), (5, V.d (.i .i64 (qcc f.fields i))), (33, V.d (.sl 4 (f.fields.map q05))), (34, V.d (.i .i64 (f.fields.length : Int))), (35, V.d (.i .i64 (i : Int)))] ([(16, .live (.box 74 [.d (.s f.name), .d (.sl 4 (f.fields.map q05))]))])) (fun i => i ≤ f.fields.length ∧ (qbb f.name = true ∧ 1 ≤ f.fields.length ∧ f.fields.length ≤ 20) ∧ ∀ j, j < i → qej f.fields j = 0) (fun i => f.fields.length - i) (0) ?_ ?_ (fun i hi => ?_) <;> (try dsimp only) <;> (try dsimp only at hi))
  | (refine LoopNext.mk1 6 (i + 1) ?_ ?_ ?_ <;> (try dsimp only))
  | (refine q0h ?_; refine subQ ?_)
  | (subst hK)
  | exact trivial
  all_goals try (intros; assumption)
  all_goals try refine q0v ?_
  all_goals try replace hp := q0a hp
  all_goals try replace hi := q0a hi
  all_goals try (intros; first | trivial | omega)
  all_goals (try (rw [w64 (by omega) (by omega)]; first | done | omega))
  all_goals (try have O1 := qgp f.fields i)
  all_goals (try have W1 := qiw (f.fields.getD i q04))
  all_goals clear hC
  all_goals (try simp only [qbmo, qbri] at *)
  all_goals first
  | rfl
  | (rw [q00x (by assumption)]; done)
  | (rw [q00x (by assumption)]; rfl)
  | exact (qwh (by assumption)).1
  | exact (qwh (by assumption)).2.1
  | exact (qwh (by assumption)).2.2
  | exact hi.2.1.1
  | exact hi.2.1.2.1
  | exact hi.2.1.2.2
  | (rw [qbmn hi.2.1 hi.2.2 (by omega) (by assumption)]; done)
  | exact qes hi.2.2 (by assumption)
  | (rw [q45 hi.2.1 hi.2.2 (by omega)]; done)
  | (rw [q45 hi.2.1 hi.2.2 (by omega), show f.fields.length = i by omega]; done)
  | (intro d hd; first | (subst hd; exact ⟨rfl, by simp [D.cells, D.one]⟩) | (rcases hd with rfl | rfl <;> exact ⟨rfl, by simp [D.cells, D.one]⟩) | (rcases hd with rfl | rfl | rfl <;> exact ⟨rfl, by simp [D.cells, D.one]⟩) | (rcases hd with rfl | rfl | rfl | rfl <;> exact ⟨rfl, by simp [D.cells, D.one]⟩))
  | (rw [qcc, w64 (by omega) (by omega)]; done)
end
noncomputable def cfg153 : Cfg := mkC 11 q003
theorem qbg9 : cfg153.pins = [] ∧ cfg153.P = Tryz.prog ∧ cfg153.N = 11 ∧ cfg153.ti 162 = none ∧ cfg153.T 162 = e162 ∧ cfg153.mv 162 = (fun _ => []) := by and_intros <;> exact rfl
section
attribute [local go_sem] qbg9 e162
attribute [local go_sem] q05 qb5 qc8 qds qbw qb3 qec qe9 q06 qbx qcq qdc qb6 qci qdt qed qbp qc5 qee qfa qb1 qbr qcu qda qcs qeg qdb qct qeh qc9 qcr qef List.length_take qck Int.toNat_zero Nat.sub_zero List.drop_zero
attribute [local go_sem ←] List.map_take List.map_drop
theorem qbsy (hC : COk cfg153) (f : Fmt) (hp : f.fields.length ≤ 1000000) : Sem Tryz.prog 153 [.d (qbw f)] (.d (.i .i64 (qca f).2)) := by
  refine q0f (C := cfg153) (rs := [.tmp 2]) (fun _ => []) Tryz.func153 rfl rfl rfl rfl rfl rfl ?_
  refine inQ ?_
  repeat' first
  | (with_reducible first | apply q0l | apply q0c | apply AW.seq | apply AW.block | apply AW.skip | apply AW.exit | apply AW.ret | apply q0m | apply q0n | apply q0d | apply q0e | refine q0b rfl ?_ | apply q0o | apply q0p | apply And.intro)
  | (with_reducible refine AW.runK hC ?_; intro K hK)
  | ((with_reducible first | refine q0t ?_ | refine q0k ?_); refine siQ ?_; (try simp (disch := omega) only [w64, wu8]))
  | ((first | refine AW.cond rfl (fun h => ?_) fun h => ?_ | refine AW.cond_ub rfl (fun h => ?_) ?_ | refine AW.cond_nb rfl ?_ fun h => ?_) <;> (try replace h := q0a h) <;> try (exfalso; first | omega | exact absurd h (by decide)))
  | (refine q0h ?_; refine subQ ?_)
  | (subst hK)
  | exact trivial
  all_goals try (intros; assumption)
  all_goals try refine q0v ?_
  all_goals try replace hp := q0a hp
  all_goals try (intros; first | trivial | omega)
  all_goals (try (rw [w64 (by omega) (by omega)]; first | done | omega))
end
noncomputable def cfg136 : Cfg := mkC 66 q004
theorem qbha : cfg136.pins = [] ∧ cfg136.P = Tryz.prog ∧ cfg136.N = 66 ∧ cfg136.T 117 = e117 ∧ cfg136.T 119 = e119 ∧ cfg136.T 152 = e152 ∧ cfg136.T 153 = e153 ∧ cfg136.T 154 = e154 ∧ cfg136.ti = (fun _ => none) ∧ cfg136.mv = fun _ _ => [] := by and_intros <;> exact rfl
section
attribute [local go_sem] qbha e117 e119 e152 e153 e154
attribute [local go_sem] q05 qb5 qc8 qds qbw qb3 qec qe9 q06 qbx qcq qdc qb6 qci qdt qed qbp qc5 qee qfa qb1 qbr qcu qda qcs qeg qdb qct qeh qc9 qcr qef List.length_take qck Int.toNat_zero Nat.sub_zero List.drop_zero isKs q7d qbfc
attribute [local go_sem ←] List.map_take List.map_drop
attribute [local go_sem ↓] qbfa
theorem qbsz (hC : COk cfg136) (f : File) (hp : f.format.fields.length ≤ 1000000 ∧ f.keys.length ≤ 1000000) : Sem Tryz.prog 136 [.d (qb6 f)] (.tup [.d (.i .i64 (qcb f).1), .d (.i .i64 (qcb f).2)]) := by
  refine q0f (C := cfg136) (rs := [.tmp 2, .tmp 3]) (fun _ => []) Tryz.func136 rfl rfl rfl rfl rfl rfl ?_
  refine inQ ?_
  repeat' first
  | (with_reducible first | apply q0l | apply q0c | apply AW.seq | apply AW.block | apply AW.skip | apply AW.exit | apply AW.ret | apply q0m | apply q0n | apply q0d | apply q0e | refine q0b rfl ?_ | apply q0o | apply q0p | apply And.intro)
  | (refine AW.atR 12 rfl ?_; have hE : keyE f i = 0 := (by rw [← qbaz]; exact h); have hk := qxu (f := f) (i := i) (by omega) hE; have hv := q7c (f := f) (i := i) (by omega) hE; have hx := qov (qwk hE); have hy := q32 (f := f) (i := i) (by omega); have hz := q33 (f := f) (i := i) (by omega))
  | (with_reducible first | (refine AWh.runK hC ?_; intro K hK) | (refine AWh.drawK hC (by kernel_rfl) ?_; intro K hK))
  | (with_reducible first | (refine AW.runK hC ?_; intro K hK) | (refine AW.drawK hC (by kernel_rfl) ?_; intro K hK))
  | ((with_reducible first | refine q0t ?_ | refine qbz ?_ | refine q0k ?_); (first | (simp (maxSteps := 1000000) only [go_sem, ↓reduceIte, reduceCtorEq, Nat.reduceEqDiff, Nat.reduceLT, Nat.reduceLeDiff, Nat.reduceMul, Nat.reduceAdd, Nat.reduceSub, reduceDIte, Nat.reduceBEq, Nat.reduceBNe, hk, hv, hx, hy, hz]) | (refine siQ ?_)); (try simp (disch := omega) only [w64, wu8]))
  | (with_reducible refine qbj (by kernel_rfl) ?_)
  | ((first | refine AW.cond rfl (fun h => ?_) fun h => ?_ | refine AW.cond_ub rfl (fun h => ?_) ?_ | refine AW.cond_nb rfl ?_ fun h => ?_) <;> (try replace h := q0a h) <;> try (exfalso; first | omega | exact absurd h (by decide)))
  | (refine AW.loopN 6 rfl (ι := Nat) (fun i => mkS [(1, V.ptr 16 0), (5, V.mref 80), (32, V.d (.sl 2 (f.keys.map q06))), (33, V.d (.i .i64 (f.keys.length : Int))), (34, V.d (.i .i64 (i : Int)))] ([(16, .live (.box 77 [.d (.s f.name), .d (.s f.format.name), .d (.sl 4 (f.format.fields.map q05)), .d (.sl 2 (f.keys.map q06)), .d (.b f.unique)])), (80, .live (.mp 197 ((f.keys.take i).map keyD) (qhu (f.keys.take i))))])) (fun i => i ≤ f.keys.length ∧ (qbb f.name = true ∧ (qca f.format).2 = 0 ∧ f.keys.length ≤ 4) ∧ ∀ j, j < i → keyE f j = 0) (fun i => f.keys.length - i) (0) ?_ ?_ (fun i hi => ?_) <;> (try dsimp only) <;> (try dsimp only at hi))
  | (refine LoopNext.mk1 6 (i + 1) ?_ ?_ ?_ <;> (try dsimp only))
  | (refine q0h ?_; refine subQ ?_)
  | (subst hK)
  | exact trivial
  all_goals try (intros; assumption)
  all_goals try refine q0v ?_
  all_goals try replace hp := q0a hp
  all_goals try replace hi := q0a hi
  all_goals try replace hk := q0a hk
  all_goals try (intros; first | trivial | omega)
  all_goals (try (rw [w64 (by omega) (by omega)]; first | done | omega))
  all_goals clear hC
  all_goals (try simp only [qbe6, qbaz] at *)
  all_goals first
  | rfl
  | exact qbxd _
  | exact qbfb _
  | (rw [qxs (by assumption)]; done)
  | (rw [qxs (by assumption)]; rfl)
  | exact (qtm (by assumption)).1
  | exact (qtm (by assumption)).2.1
  | exact (qtm (by assumption)).2.2
  | exact hi.2.1.1
  | exact hi.2.1.2.1
  | exact hi.2.1.2.2
  | (rw [qbe7 hi.2.1 hi.2.2 (by omega) (by assumption)]; done)
  | exact qes hi.2.2 (by assumption)
  | (rw [qbe8 hi.2.1 hi.2.2 (by omega)]; done)
  | (rw [qxu (by omega) (by assumption)]; exact q0q _)
  | (intro d hd; first | (subst hd; exact ⟨rfl, by simp [D.cells, D.one]⟩) | (rcases hd with rfl | rfl <;> exact ⟨rfl, by simp [D.cells, D.one]⟩) | (rcases hd with rfl | rfl | rfl <;> exact ⟨rfl, by simp [D.cells, D.one]⟩) | (rcases hd with rfl | rfl | rfl | rfl <;> exact ⟨rfl, by simp [D.cells, D.one]⟩))
end
noncomputable def cfg118 : Cfg := mkC 11 q005
theorem qbhb : cfg118.pins = [] ∧ cfg118.P = Tryz.prog ∧ cfg118.N = 11 ∧ cfg118.ti 136 = none ∧ cfg118.T 136 = e136 ∧ cfg118.mv 136 = (fun _ => []) := by and_intros <;> exact rfl
section
attribute [local go_sem] qbhb e136
attribute [local go_sem] q05 qb5 qc8 qds qbw qb3 qec qe9 q06 qbx qcq qdc qb6 qci qdt qed qbp qc5 qee qfa qb1 qbr qcu qda qcs qeg qdb qct qeh qc9 qcr qef List.length_take qck Int.toNat_zero Nat.sub_zero List.drop_zero
attribute [local go_sem ←] List.map_take List.map_drop
theorem qbs0 (hC : COk cfg118) (f : File) (hp : f.format.fields.length ≤ 1000000 ∧ f.keys.length ≤ 1000000) : Sem Tryz.prog 118 [.d (qb6 f)] (.d (.i .i64 (qcb f).2)) := by
  refine q0f (C := cfg118) (rs := [.tmp 2]) (fun _ => []) Tryz.func118 rfl rfl rfl rfl rfl rfl ?_
  refine inQ ?_
  repeat' first
  | (with_reducible first | apply q0l | apply q0c | apply AW.seq | apply AW.block | apply AW.skip | apply AW.exit | apply AW.ret | apply q0m | apply q0n | apply q0d | apply q0e | refine q0b rfl ?_ | apply q0o | apply q0p | apply And.intro)
  | (with_reducible refine AW.runK hC ?_; intro K hK)
  | ((with_reducible first | refine q0t ?_ | refine q0k ?_); refine siQ ?_; (try simp (disch := omega) only [w64, wu8]))
  | ((first | refine AW.cond rfl (fun h => ?_) fun h => ?_ | refine AW.cond_ub rfl (fun h => ?_) ?_ | refine AW.cond_nb rfl ?_ fun h => ?_) <;> (try replace h := q0a h) <;> try (exfalso; first | omega | exact absurd h (by decide)))
  | (refine q0h ?_; refine subQ ?_)
  | (subst hK)
  | exact trivial
  all_goals try (intros; assumption)
  all_goals try refine q0v ?_
  all_goals try replace hp := q0a hp
  all_goals try (intros; first | trivial | omega)
  all_goals (try (rw [w64 (by omega) (by omega)]; first | done | omega))
end
end Go.Ev
