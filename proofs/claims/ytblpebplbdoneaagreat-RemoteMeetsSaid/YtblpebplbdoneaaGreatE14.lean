/- Tools and contracts under the laws of this seat: Drc180 to Drc113. -/
import Derived.Test.YtblpebplbdoneaaGreatE05
set_option linter.unusedVariables false
set_option linter.unusedSimpArgs false
namespace Go.Ev
noncomputable section
open Go.Proofs Ty
set_option maxRecDepth 10000
set_option maxHeartbeats 4000000
attribute [local go_sem] qbi qbl qck qdc qce qdr qd3 qet Int.toNat_natCast qdq qd4 qee qb9 qc2 qbx qca decI List.length_map nc0 qbj qbo
def cfg180 : Cfg := mkC 12 q1p
theorem qbhn : cfg180.pins = [] ∧ cfg180.P = Tryz.prog ∧ cfg180.N = 12 := ⟨rfl, rfl, rfl⟩
section
attribute [local go_sem] qbhn
attribute [local go_sem] qb2
theorem qbua (hC : COk cfg180) (n : Int) : Sem Tryz.prog 180 [.d (.i .i64 n)] (.d (.i .i64 (p10 n))) := by
 refine q0g (C := cfg180) (rs := [.tmp 2]) (fun _ => []) Tryz.func180 rfl rfl rfl rfl rfl rfl ?_
 refine inQ ?_
 repeat' first
 | (with_reducible first | apply q0n | apply q0d | apply Wsq | apply Wbk | apply Wsk | apply Wex | apply Wrt | apply q0o | apply q0p | apply q0e | apply q0f | refine q0b rfl ?_ | apply q0q | apply q0r | apply And.intro)
 | (with_reducible refine Wrn hC ?_; intro K hK)
 | ((with_reducible first | refine q0u ?_ | refine q0m ?_); refine siQ ?_; (try simp (disch := omega) only [w64, wu8]))
 | ((first | refine Wcd rfl (fun h => ?_) fun h => ?_ | refine Wcu rfl (fun h => ?_) ?_ | refine Wcn rfl ?_ fun h => ?_) <;> (try replace h := q0a h) <;> try (exfalso; first | omega | exact absurd h (by decide)))
 | (refine Wlp 3 rfl (ι := Nat) (fun i => mkS [(3, V.d (.i .i64 (10 ^ i : Int))), (5, V.d (.i .i64 (min n 18))), (6, V.d (.i .i64 (i : Int)))] ([])) (fun i => (i : Int) ≤ max 0 (min n 18)) (fun i => (min n 18).toNat - i) (0) ?_ ?_ (fun i hi => ?_) <;> (try dsimp only) <;> (try dsimp only at hi))
 | (refine Wnx 3 (i + 1) ?_ ?_ ?_ <;> (try dsimp only))
 | (refine q0j ?_; refine subQ ?_)
 | (subst hK)
 | exact trivial
 all_goals try (intros; assumption)
 all_goals try refine q0w ?_
 all_goals try replace hi := q0a hi
 all_goals try (intros; first | trivial | omega)
 all_goals (try (rw [w64 (by omega) (by omega)]; first | done | omega))
 all_goals clear hC
 all_goals first
 | omega
 | exact q1i (by omega)
 | exact q5q hi h
 | (intro d hd; first | (subst hd; exact ⟨rfl, by simp [D.cells, D.one]⟩) | (rcases hd with rfl | rfl <;> exact ⟨rfl, by simp [D.cells, D.one]⟩) | (rcases hd with rfl | rfl | rfl <;> exact ⟨rfl, by simp [D.cells, D.one]⟩) | (rcases hd with rfl | rfl | rfl | rfl <;> exact ⟨rfl, by simp [D.cells, D.one]⟩))
end
def cfg171 : Cfg := mkC 52 q1q
theorem qbho : cfg171.pins = [] ∧ cfg171.P = Tryz.prog ∧ cfg171.N = 52 ∧ cfg171.T 165 = e165 ∧ cfg171.T 167 = e167 ∧ cfg171.T 168 = e168 ∧ cfg171.T 179 = e179 ∧ cfg171.T 180 = e180 ∧ cfg171.ti = (fun _ => none) ∧ cfg171.mv = fun _ _ => [] := by and_intros <;> exact rfl
section
attribute [local go_sem] qbho e165 e167 e168 e179 e180
attribute [local go_sem] qb2
theorem qbub (hC : COk cfg171) (t : DType) (v : Val) : Sem Tryz.prog 171 [.d (qbi t), .d (qce v)] (.d (.i .i64 (qj2 t v))) := by
 refine q0g (C := cfg171) (rs := [.tmp 4]) (fun _ => []) Tryz.func171 rfl rfl rfl rfl rfl rfl ?_
 refine inQ ?_
 repeat' first
 | (with_reducible first | apply q0n | apply q0d | apply Wsq | apply Wbk | apply Wsk | apply Wex | apply Wrt | apply q0o | apply q0p | apply q0e | apply q0f | refine q0b rfl ?_ | apply q0q | apply q0r | apply And.intro)
 | (with_reducible first | (refine Wrn hC ?_; intro K hK) | (refine Wdr hC (by kernel_rfl) ?_; intro K hK))
 | ((with_reducible first | refine q0u ?_ | refine qbu ?_ | refine q0m ?_); refine siQ ?_; (try simp (disch := omega) only [w64, wu8]))
 | (with_reducible refine qbh (by kernel_rfl) ?_)
 | ((first | refine Wcd rfl (fun h => ?_) fun h => ?_ | refine Wcu rfl (fun h => ?_) ?_ | refine Wcn rfl ?_ fun h => ?_) <;> (try replace h := q0a h) <;> try (exfalso; first | omega | exact absurd h (by decide)))
 | (refine q0j ?_; refine subQ ?_)
 | (subst hK)
 | exact trivial
 all_goals try (intros; assumption)
 all_goals try refine q0w ?_
 all_goals try (intros; first | trivial | omega)
 all_goals (try (rw [w64 (by omega) (by omega)]; first | done | omega))
 all_goals clear hC
 all_goals have PW := qwc t.length
 all_goals (try simp only [qj2])
 all_goals first
 | omega
 | grind
 | (rename_i hq; simp (disch := omega) only [w64]; revert hq; (repeat' split) <;> intros <;> first | rfl | omega | (exfalso; omega) | (simp_all; done))
 | (intro d hd; first | (subst hd; exact ⟨rfl, by simp [D.cells, D.one]⟩) | (rcases hd with rfl | rfl <;> exact ⟨rfl, by simp [D.cells, D.one]⟩) | (rcases hd with rfl | rfl | rfl <;> exact ⟨rfl, by simp [D.cells, D.one]⟩) | (rcases hd with rfl | rfl | rfl | rfl <;> exact ⟨rfl, by simp [D.cells, D.one]⟩))
end
def cfg170 : Cfg := mkC 25 q1r
theorem qbhp : cfg170.pins = [] ∧ cfg170.P = Tryz.prog ∧ cfg170.N = 25 := ⟨rfl, rfl, rfl⟩
section
attribute [local go_sem] qbhp
attribute [local go_sem] qb2
theorem qbuc (hC : COk cfg170) (b : ByteArray) (hp : 0 < b.size ∧ b.size ≤ 1000) : Sem Tryz.prog 170 [.d (.s b)] (.d (.i .i64 (binN b))) := by
 refine q0g (C := cfg170) (rs := [.tmp 2]) (fun _ => []) Tryz.func170 rfl rfl rfl rfl rfl rfl ?_
 refine inQ ?_
 repeat' first
 | (with_reducible first | apply q0n | apply q0d | apply Wsq | apply Wbk | apply Wsk | apply Wex | apply Wrt | apply q0o | apply q0p | apply q0e | apply q0f | refine q0b rfl ?_ | apply q0q | apply q0r | apply And.intro)
 | (with_reducible refine Wrn hC ?_; intro K hK)
 | ((with_reducible first | refine q0u ?_ | refine q0m ?_); refine siQ ?_; (try simp (disch := omega) only [w64, wu8]))
 | ((first | refine Wcd rfl (fun h => ?_) fun h => ?_ | refine Wcu rfl (fun h => ?_) ?_ | refine Wcn rfl ?_ fun h => ?_) <;> (try replace h := q0a h) <;> try (exfalso; first | omega | exact absurd h (by decide)))
 | (refine Wlp 3 rfl (ι := Nat) (fun i => mkS [(3, V.d (.i .i64 (qny b i))), (12, V.d (.sl 1 (qic (b.extract 1 b.size)))), (13, V.d (.i .i64 ((b.size - 1 : Nat) : Int))), (14, V.d (.i .i64 (i : Int)))] ([])) (fun i => i ≤ b.size - 1) (fun i => b.size - 1 - i) (0) ?_ ?_ (fun i hi => ?_) <;> (try dsimp only) <;> (try dsimp only at hi))
 | (refine Wnx 3 (i + 1) ?_ ?_ ?_ <;> (try dsimp only))
 | (refine q0j ?_; refine subQ ?_)
 | (subst hK)
 | exact trivial
 all_goals try (intros; assumption)
 all_goals try refine q0w ?_
 all_goals try replace hp := q0a hp
 all_goals try replace hi := q0a hi
 all_goals try (intros; first | trivial | omega)
 all_goals (try (rw [w64 (by omega) (by omega)]; first | done | omega))
 all_goals clear hC
 all_goals first
 | omega
 | exact q0k _
 | (rw [qur]; omega)
 | (rw [qur]; done)
 | (show qny b 0 = IntKind.i64.wrap (IntKind.i8.wrap (chr b 0)); rw [w64 (by have := q5r (chr b 0); omega) (by have := q5r (chr b 0); omega)]; rfl)
 | (show ((b.size - 1 : Nat) : Int) = ((b.extract 1 b.size).size : Int); rw [qur])
 | (rw [qmi b i (by omega), qbna b i (by omega), w64 (n := chr b (i + 1)) (by have := q001 b (i + 1); omega) (by have := q001 b (i + 1); omega)]; rfl)
 | (rw [qse b i (by omega)]; done)
 | (intro d hd; first | (subst hd; exact ⟨rfl, by simp [D.cells, D.one]⟩) | (rcases hd with rfl | rfl <;> exact ⟨rfl, by simp [D.cells, D.one]⟩) | (rcases hd with rfl | rfl | rfl <;> exact ⟨rfl, by simp [D.cells, D.one]⟩) | (rcases hd with rfl | rfl | rfl | rfl <;> exact ⟨rfl, by simp [D.cells, D.one]⟩))
end
def cfg181 : Cfg := mkC 65 q1s
theorem qbhq : cfg181.pins = [] ∧ cfg181.P = Tryz.prog ∧ cfg181.N = 65 := ⟨rfl, rfl, rfl⟩
section
attribute [local go_sem] qbhq
attribute [local go_sem] qb2
theorem qbud (hC : COk cfg181) (t : DType) (b : ByteArray) (hp : 0 < b.size ∧ b.size ≤ 1000) : Sem Tryz.prog 181 [.d (qbi t), .d (.s b)] (.tup [.d (.sl 1 ((qb5 t b).1.map (D.i .u8))), .d (.sl 1 ((qb5 t b).2.map (D.i .i64)))]) := by
 refine q0g (C := cfg181) (rs := [.tmp 4, .tmp 5]) (fun _ => []) Tryz.func181 rfl rfl rfl rfl rfl rfl ?_
 refine inQ ?_
 repeat' first
 | (with_reducible first | apply q0n | apply q0d | apply Wsq | apply Wbk | apply Wsk | apply Wex | apply Wrt | apply q0o | apply q0p | apply q0e | apply q0f | refine q0b rfl ?_ | apply q0q | apply q0r | apply And.intro)
 | (with_reducible first | (refine Wrn hC ?_; intro K hK) | (refine Wdr hC (by kernel_rfl) ?_; intro K hK))
 | ((with_reducible first | refine q0u ?_ | refine qbu ?_ | refine q0m ?_); refine siQ ?_; (try simp (disch := omega) only [w64, wu8]))
 | (with_reducible refine qbh (by kernel_rfl) ?_)
 | ((first | refine Wcd rfl (fun h => ?_) fun h => ?_ | refine Wcu rfl (fun h => ?_) ?_ | refine Wcn rfl ?_ fun h => ?_) <;> (try replace h := q0a h) <;> try (exfalso; first | omega | exact absurd h (by decide)))
 | (refine Wlp 2 rfl (ι := Nat) (fun i => mkS [(1, V.d (.s b)), (2, V.ptr 32 0), (4, V.row 64 1 0 (qgp t b i).length), (5, V.row 80 1 0 (qhj t i).length), (10, V.d (.i .i64 (b.size : Int))), (11, V.d (.i .i64 (i : Int)))] ([(32, .live (.box 126 [.d (.i .i64 t.kind), .d (.i .i64 t.length), .d (.i .i64 t.scale)])), (64, .live (.row 5 1 false ((qgp t b i).map (D.i .u8)))), (80, .live (.row 3 1 false ((qhj t i).map (D.i .i64))))])) (fun i => i ≤ b.size) (fun i => b.size - i) (0) ?_ ?_ (fun i hi => ?_) <;> (try dsimp only) <;> (try dsimp only at hi))
 | (refine Wnx 2 (i + 1) ?_ ?_ ?_ <;> (try dsimp only))
 | (refine q0j ?_; refine subQ ?_)
 | (subst hK)
 | exact trivial
 all_goals try (intros; assumption)
 all_goals try refine q0w ?_
 all_goals try replace hp := q0a hp
 all_goals try replace hi := q0a hi
 all_goals try (intros; first | trivial | omega)
 all_goals (try (rw [w64 (by omega) (by omega)]; first | done | omega))
 all_goals (try have L1 := qgl t b i)
 all_goals (try have L2 := qiy t i)
 all_goals clear hC
 all_goals first
 | omega
 | (split at L1 <;> split at L2 <;> omega)
 | (rw [qxm (by assumption)]; simp; done)
 | (rw [qxn (by assumption)]; simp; done)
 | (rw [qxo (by assumption)]; simp; done)
 | (rw [qxp (by assumption)]; simp; done)
 | (rw [qxm (by assumption), List.map_append]; exact q0k _)
 | (rw [qxn (by assumption), List.map_append]; exact q0k _)
 | (rw [qxo (by assumption), List.map_append]; exact q0k _)
 | (rw [qxp (by assumption), List.map_append]; exact q0k _)
 | (rw [List.take_of_length_le (by simp), qmu (by assumption), show i = b.size by omega, qjz, List.map_append]; exact q0k _)
 | (rw [List.take_of_length_le (by simp), qmu (by assumption), show i = b.size by omega, List.map_append]; exact q0k _)
 | (rw [List.take_of_length_le (by simp), qoq (by assumption), show i = b.size by omega]; exact q0k _)
 | (intro d hd; first | (subst hd; exact ⟨rfl, by simp [D.cells, D.one]⟩) | (rcases hd with rfl | rfl <;> exact ⟨rfl, by simp [D.cells, D.one]⟩) | (rcases hd with rfl | rfl | rfl <;> exact ⟨rfl, by simp [D.cells, D.one]⟩) | (rcases hd with rfl | rfl | rfl | rfl <;> exact ⟨rfl, by simp [D.cells, D.one]⟩))
end
def cfg172 : Cfg := mkC 81 q1t
theorem qbhr : cfg172.pins = [] ∧ cfg172.P = Tryz.prog ∧ cfg172.N = 81 ∧ cfg172.ti 181 = none ∧ cfg172.T 181 = e181 ∧ cfg172.mv 181 = (fun _ => []) := by and_intros <;> exact rfl
section
attribute [local go_sem] qbhr e181
attribute [local go_sem] qb2 qbfq List.length_take
attribute [local go_sem ←] List.map_take
theorem qbue (hC : COk cfg172) (t : DType) (b : ByteArray) (hp : 0 < b.size ∧ b.size ≤ 1000 ∧ 0 ≤ t.length ∧ t.length ≤ 1000) : Sem Tryz.prog 172 [.d (qbi t), .d (.s b)] (.tup [.d (.i .i64 (decN t b).1), .d (.i .i64 (decN t b).2.1), .d (.i .i64 (decN t b).2.2)]) := by
 obtain ⟨q1, q2, q3, q4⟩ := hp
 have HLN := qqv t b
 have HL1 : 1 ≤ (qb5 t b).1.length ∧ (qb5 t b).1.length ≤ 3000 := by rw [HLN.1]; (repeat' split) <;> omega
 refine q0g (C := cfg172) (rs := [.tmp 4, .tmp 5, .tmp 6]) (fun _ => []) Tryz.func172 rfl rfl rfl rfl rfl rfl ?_
 refine inQ ?_
 repeat' first
 | (with_reducible first | apply q0n | apply q0d | apply Wsq | apply Wbk | apply Wsk | apply Wex | apply Wrt | apply q0o | apply q0p | apply q0e | apply q0f | refine q0b rfl ?_ | apply q0q | apply q0r | apply And.intro)
 | (with_reducible first | (refine Wrn hC ?_; intro K hK) | (refine Wdr hC (by kernel_rfl) ?_; intro K hK))
 | ((with_reducible first | refine q0u ?_ | refine qbu ?_ | refine q0m ?_); refine siQ ?_; (try simp (disch := omega) only [w64, wu8]))
 | (with_reducible refine qbh (by kernel_rfl) ?_)
 | ((first | refine Wcd rfl (fun h => ?_) fun h => ?_ | refine Wcu rfl (fun h => ?_) ?_ | refine Wcn rfl ?_ fun h => ?_) <;> (try replace h := q0a h) <;> try (exfalso; first | omega | exact absurd h (by decide)))
 | (refine Wlp 5 rfl (ι := Nat × Int) (fun p => mkS [(2, V.ptr 32 0), (7, V.d (.sl 1 ((qb5 t b).1.map (D.i .u8)))), (8, V.d (.sl 1 ((qb5 t b).2.map (D.i .i64)))), (9, V.d (.i .i64 (((qb5 t b).1.length : Int) - 1))), (10, V.d (.i .i64 p.2)), (24, V.d (.sl 1 (((qb5 t b).1.take ((qb5 t b).1.length - 1)).map (D.i .u8)))), (25, V.d (.i .i64 (((qb5 t b).1.length - 1 : Nat) : Int))), (26, V.d (.i .i64 (p.1 : Int)))] ([(32, .live (.box 126 [.d (.i .i64 t.kind), .d (.i .i64 t.length), .d (.i .i64 t.scale)]))])) (fun p => p.1 ≤ (qb5 t b).1.length - 1 ∧ qh4 t.length (qb5 t b).1 (qb5 t b).2 (((qb5 t b).1.length : Int) - 1) (((qb5 t b).1.take ((qb5 t b).1.length - 1)).drop p.1) p.1 p.2 = decN t b) (fun p => (qb5 t b).1.length - 1 - p.1) ((0, 0)) ?_ ?_ (fun p hi => ?_) <;> (try dsimp only) <;> (try dsimp only at hi))
 | (refine Wnx 5 ((p.1 + 1, IntKind.i64.wrap (IntKind.i64.wrap (p.2 * 10) + IntKind.i64.wrap (((qb5 t b).1.take ((qb5 t b).1.length - 1)).getD p.1 0)))) ?_ ?_ ?_ <;> (try dsimp only))
 | (refine q0j ?_; refine subQ ?_)
 | (subst hK)
 | exact trivial
 all_goals try (intros; assumption)
 all_goals try refine q0w ?_
 all_goals try replace hp := q0a hp
 all_goals try replace hi := q0a hi
 all_goals try (intros; first | trivial | omega)
 all_goals (try (rw [w64 (by omega) (by omega)]; first | done | omega))
 all_goals clear hC
 all_goals have RL : ((qb5 t b).1.take ((qb5 t b).1.length - 1)).length = (qb5 t b).1.length - 1 := by rw [List.length_take]; omega
 all_goals first
 | omega
 | (refine qhi ?_; simp only [Int.toNat_zero, List.drop_zero, Nat.sub_zero, qjz, List.map_take])
 | (simp only [Int.toNat_zero, List.drop_zero, Nat.sub_zero, qjz, List.length_map]; omega)
 | rfl
 | (rw [qbbh hi.2 (by omega) (by omega)]; done)
 | exact q7r hi.2 (by omega) (by omega)
 | (rw [q7s hi.2 (by omega) (by omega)]; done)
 | (rw [q7t hi.2 (by omega) (by omega) (by omega)]; done)
 | (rw [q7u hi.2 (by omega) (by omega) (by omega)]; done)
 | (intro d hd; first | (subst hd; exact ⟨rfl, by simp [D.cells, D.one]⟩) | (rcases hd with rfl | rfl <;> exact ⟨rfl, by simp [D.cells, D.one]⟩) | (rcases hd with rfl | rfl | rfl <;> exact ⟨rfl, by simp [D.cells, D.one]⟩) | (rcases hd with rfl | rfl | rfl | rfl <;> exact ⟨rfl, by simp [D.cells, D.one]⟩))
end
def cfg148 : Cfg := mkC 63 q1u
theorem qbhs : cfg148.pins = [] ∧ cfg148.P = Tryz.prog ∧ cfg148.N = 63 ∧ cfg148.T 165 = e165 ∧ cfg148.T 167 = e167 ∧ cfg148.T 168 = e168 ∧ cfg148.T 169 = e169 ∧ cfg148.T 170 = e170 ∧ cfg148.T 171 = e171 ∧ cfg148.T 172 = e172 ∧ cfg148.ti = (fun _ => none) ∧ cfg148.mv = fun _ _ => [] := by and_intros <;> exact rfl
section
attribute [local go_sem] qbhs e165 e167 e168 e169 e170 e171 e172
attribute [local go_sem] qb2
theorem qbuf (hC : COk cfg148) (t : DType) (b : ByteArray) : Sem Tryz.prog 148 [.d (qbi t), .d (.s b)] (.tup [.d (qce (qd9 t b).1), .d (.i .i64 (qd9 t b).2.1), .d (.i .i64 (qd9 t b).2.2)]) := by
 refine q0g (C := cfg148) (rs := [.cell 4 187, .tmp 5, .tmp 6]) (fun _ => []) Tryz.func148 rfl rfl rfl rfl rfl rfl ?_
 refine inQ ?_
 repeat' first
 | (with_reducible first | apply q0n | apply q0d | apply Wsq | apply Wbk | apply Wsk | apply Wex | apply Wrt | apply q0o | apply q0p | apply q0e | apply q0f | refine q0b rfl ?_ | apply q0q | apply q0r | apply And.intro)
 | (with_reducible first | (refine Wrn hC ?_; intro K hK) | (refine Wdr hC (by kernel_rfl) ?_; intro K hK))
 | ((with_reducible first | refine q0u ?_ | refine qbu ?_ | refine q0m ?_); refine siQ ?_; (try simp (disch := omega) only [w64, wu8]))
 | (with_reducible refine qbh (by kernel_rfl) ?_)
 | ((first | refine Wcd rfl (fun h => ?_) fun h => ?_ | refine Wcu rfl (fun h => ?_) ?_ | refine Wcn rfl ?_ fun h => ?_) <;> (try replace h := q0a h) <;> try (exfalso; first | omega | exact absurd h (by decide)))
 | (refine q0j ?_; refine subQ ?_)
 | (subst hK)
 | exact trivial
 all_goals try (intros; assumption)
 all_goals try refine q0w ?_
 all_goals try (intros; first | trivial | omega)
 all_goals (try (rw [w64 (by omega) (by omega)]; first | done | omega))
 all_goals clear hC
 all_goals (try have T0 : qbs t = 0 := by grind)
 all_goals (try (have SZ := qmt T0; have TO := qk2 T0))
 all_goals first
 | omega
 | (simp only [qd9, zVal]; grind)
 | (exact T0)
 | grind
 | ((try split at h) <;> omega)
 | (intro d hd; first | (subst hd; exact ⟨rfl, by simp [D.cells, D.one]⟩) | (rcases hd with rfl | rfl <;> exact ⟨rfl, by simp [D.cells, D.one]⟩) | (rcases hd with rfl | rfl | rfl <;> exact ⟨rfl, by simp [D.cells, D.one]⟩) | (rcases hd with rfl | rfl | rfl | rfl <;> exact ⟨rfl, by simp [D.cells, D.one]⟩))
end
def cfg147 : Cfg := mkC 12 q1v
theorem qbht : cfg147.pins = [] ∧ cfg147.P = Tryz.prog ∧ cfg147.N = 12 ∧ cfg147.ti 166 = none ∧ cfg147.T 166 = e166 ∧ cfg147.mv 166 = (fun _ => []) := by and_intros <;> exact rfl
section
attribute [local go_sem] qbht e166
attribute [local go_sem] q01 qb7 qdh qd5 qb1 qb8 qem qfe q06 qbz qcx qdl qcb qcm qd6 qen qbt qdm qeo qff qb3 qbr qc1 qdj qcz qeq qdk qc0 qer qdi qcy qep List.length_take qdd Int.toNat_zero Nat.sub_zero List.drop_zero
attribute [local go_sem ←] List.map_take List.map_drop
theorem qbug (hC : COk cfg147) (x : Field) : Sem Tryz.prog 147 [.d (q01 x)] (.d (.i .i64 (qgb x))) := by
 refine q0g (C := cfg147) (rs := [.tmp 2]) (fun _ => []) Tryz.func147 rfl rfl rfl rfl rfl rfl ?_
 refine inQ ?_
 repeat' first
 | (with_reducible first | apply q0n | apply q0d | apply Wsq | apply Wbk | apply Wsk | apply Wex | apply Wrt | apply q0o | apply q0p | apply q0e | apply q0f | refine q0b rfl ?_ | apply q0q | apply q0r | apply And.intro)
 | (with_reducible refine Wrn hC ?_; intro K hK)
 | ((with_reducible first | refine q0u ?_ | refine q0m ?_); refine siQ ?_; (try simp (disch := omega) only [w64, wu8]))
 | ((first | refine Wcd rfl (fun h => ?_) fun h => ?_ | refine Wcu rfl (fun h => ?_) ?_ | refine Wcn rfl ?_ fun h => ?_) <;> (try replace h := q0a h) <;> try (exfalso; first | omega | exact absurd h (by decide)))
 | (refine q0j ?_; refine subQ ?_)
 | (subst hK)
 | exact trivial
 all_goals try (intros; assumption)
 all_goals try refine q0w ?_
 all_goals try (intros; first | trivial | omega)
 all_goals (try (rw [w64 (by omega) (by omega)]; first | done | omega))
 all_goals first
 | rfl
end
def cfg145 : Cfg := mkC 29 q1z
theorem qbhu : cfg145.pins = [] ∧ cfg145.P = Tryz.prog ∧ cfg145.N = 29 ∧ cfg145.ti 147 = none ∧ cfg145.T 147 = e147 ∧ cfg145.mv 147 = (fun _ => []) := by and_intros <;> exact rfl
section
attribute [local go_sem] qbhu e147
attribute [local go_sem] q01 qb7 qdh qd5 qb1 qb8 qem qfe q06 qbz qcx qdl qcb qcm qd6 qen qbt qdm qeo qff qb3 qbr qc1 qdj qcz qeq qdk qc0 qer qdi qcy qep List.length_take qdd Int.toNat_zero Nat.sub_zero List.drop_zero
attribute [local go_sem ←] List.map_take List.map_drop
theorem qbuh (hC : COk cfg145) (f : Fmt) (name : ByteArray) (hp : f.fields.length ≤ 1000000) : Sem Tryz.prog 145 [.d (qb1 f), .d (.s name)] (.tup [.d (.i .i64 (atF f.fields name).1), .d (.i .i64 (atF f.fields name).2.1), .d (.b (atF f.fields name).2.2)]) := by
 refine q0g (C := cfg145) (rs := [.tmp 4, .tmp 5, .tmp 6]) (fun _ => []) Tryz.func145 rfl rfl rfl rfl rfl rfl ?_
 refine inQ ?_
 repeat' first
 | (with_reducible first | apply q0n | apply q0d | apply Wsq | apply Wbk | apply Wsk | apply Wex | apply Wrt | apply q0o | apply q0p | apply q0e | apply q0f | refine q0b rfl ?_ | apply q0q | apply q0r | apply And.intro)
 | (with_reducible refine Wrn hC ?_; intro K hK)
 | ((with_reducible first | refine q0u ?_ | refine q0m ?_); refine siQ ?_; (try simp (disch := omega) only [w64, wu8]))
 | ((first | refine Wcd rfl (fun h => ?_) fun h => ?_ | refine Wcu rfl (fun h => ?_) ?_ | refine Wcn rfl ?_ fun h => ?_) <;> (try replace h := q0a h) <;> try (exfalso; first | omega | exact absurd h (by decide)))
 | (refine Wlp 3 rfl (ι := Nat) (fun i => mkS [(1, V.d (.s name)), (7, V.d (.i .i64 (qct f.fields i))), (11, V.d (.sl 4 (f.fields.map q01))), (12, V.d (.i .i64 (f.fields.length : Int))), (13, V.d (.i .i64 (i : Int)))] ([])) (fun i => i ≤ f.fields.length ∧ idxF (f.fields.take i) name = none) (fun i => f.fields.length - i) (0) ?_ ?_ (fun i hi => ?_) <;> (try dsimp only) <;> (try dsimp only at hi))
 | (refine Wnx 3 (i + 1) ?_ ?_ ?_ <;> (try dsimp only))
 | (refine q0j ?_; refine subQ ?_)
 | (subst hK)
 | exact trivial
 all_goals try (intros; assumption)
 all_goals try refine q0w ?_
 all_goals try replace hp := q0a hp
 all_goals try replace hi := q0a hi
 all_goals try (intros; first | trivial | omega)
 all_goals (try (rw [w64 (by omega) (by omega)]; first | done | omega))
 all_goals (try have O1 := qhd f.fields i)
 all_goals (try have W1 := qjt (f.fields.getD i q03))
 all_goals clear hC
 all_goals first
 | rfl
 | (rw [qbnb hi.2 (by omega) (by assumption)]; done)
 | exact qyz hi.2 (by omega) (by assumption)
 | (rw [qbs1 hi.2 (by omega)]; done)
 | (rw [qct, w64 (by omega) (by omega)]; done)
end
def cfg126 : Cfg := mkC 19 q10
theorem qbhv : cfg126.pins = [] ∧ cfg126.P = Tryz.prog ∧ cfg126.N = 19 ∧ cfg126.ti 147 = none ∧ cfg126.T 147 = e147 ∧ cfg126.mv 147 = (fun _ => []) := by and_intros <;> exact rfl
section
attribute [local go_sem] qbhv e147
attribute [local go_sem] q01 qb7 qdh qd5 qb1 qb8 qem qfe q06 qbz qcx qdl qcb qcm qd6 qen qbt qdm qeo qff qb3 qbr qc1 qdj qcz qeq qdk qc0 qer qdi qcy qep List.length_take qdd Int.toNat_zero Nat.sub_zero List.drop_zero
attribute [local go_sem ←] List.map_take List.map_drop
theorem qbui (hC : COk cfg126) (f : Fmt) (hp : f.fields.length ≤ 1000000) : Sem Tryz.prog 126 [.d (qb1 f)] (.d (.i .i64 (qfw f))) := by
 refine q0g (C := cfg126) (rs := [.tmp 2]) (fun _ => []) Tryz.func126 rfl rfl rfl rfl rfl rfl ?_
 refine inQ ?_
 repeat' first
 | (with_reducible first | apply q0n | apply q0d | apply Wsq | apply Wbk | apply Wsk | apply Wex | apply Wrt | apply q0o | apply q0p | apply q0e | apply q0f | refine q0b rfl ?_ | apply q0q | apply q0r | apply And.intro)
 | (with_reducible refine Wrn hC ?_; intro K hK)
 | ((with_reducible first | refine q0u ?_ | refine q0m ?_); refine siQ ?_; (try simp (disch := omega) only [w64, wu8]))
 | ((first | refine Wcd rfl (fun h => ?_) fun h => ?_ | refine Wcu rfl (fun h => ?_) ?_ | refine Wcn rfl ?_ fun h => ?_) <;> (try replace h := q0a h) <;> try (exfalso; first | omega | exact absurd h (by decide)))
 | (refine Wlp 3 rfl (ι := Nat) (fun i => mkS [(3, V.d (.i .i64 (qct f.fields i))), (7, V.d (.sl 4 (f.fields.map q01))), (8, V.d (.i .i64 (f.fields.length : Int))), (9, V.d (.i .i64 (i : Int)))] ([])) (fun i => i ≤ f.fields.length) (fun i => f.fields.length - i) (0) ?_ ?_ (fun i hi => ?_) <;> (try dsimp only) <;> (try dsimp only at hi))
 | (refine Wnx 3 (i + 1) ?_ ?_ ?_ <;> (try dsimp only))
 | (refine q0j ?_; refine subQ ?_)
 | (subst hK)
 | exact trivial
 all_goals try (intros; assumption)
 all_goals try refine q0w ?_
 all_goals try replace hp := q0a hp
 all_goals try replace hi := q0a hi
 all_goals try (intros; first | trivial | omega)
 all_goals (try (rw [w64 (by omega) (by omega)]; first | done | omega))
 all_goals (try have O1 := qhd f.fields i)
 all_goals (try have W1 := qjt (f.fields.getD i q03))
 all_goals clear hC
 all_goals first
 | rfl
 | (rw [qct, w64 (by omega) (by omega)]; done)
 | (rw [qfw, show i = f.fields.length by omega]; done)
end
def cfg146 : Cfg := mkC 81 q11
theorem qbhw : cfg146.pins = [] ∧ cfg146.P = Tryz.prog ∧ cfg146.N = 81 ∧ cfg146.T 83 = e83 ∧ cfg146.T 85 = e85 ∧ cfg146.T 144 = e144 ∧ cfg146.T 145 = e145 ∧ cfg146.T 147 = e147 ∧ cfg146.T 165 = e165 ∧ cfg146.ti = (fun _ => none) ∧ cfg146.mv = fun _ _ => [] := by and_intros <;> exact rfl
section
attribute [local go_sem] qbhw e83 e85 e144 e145 e147 e165
attribute [local go_sem] q01 qb7 qdh qd5 qb1 qb8 qem qfe q06 qbz qcx qdl qcb qcm qd6 qen qbt qdm qeo qff qb3 qbr qc1 qdj qcz qeq qdk qc0 qer qdi qcy qep List.length_take qdd Int.toNat_zero Nat.sub_zero List.drop_zero
attribute [local go_sem ←] List.map_take List.map_drop
theorem qbuj (hC : COk cfg146) (f : Fmt) (hp : f.fields.length ≤ 1000000) : Sem Tryz.prog 146 [.d (qb1 f)] (.tup [.d (.i .i64 (qco f).1), .d (.i .i64 (qco f).2)]) := by
 refine q0g (C := cfg146) (rs := [.tmp 2, .tmp 3]) (fun _ => []) Tryz.func146 rfl rfl rfl rfl rfl rfl ?_
 refine inQ ?_
 repeat' first
 | (with_reducible first | apply q0n | apply q0d | apply Wsq | apply Wbk | apply Wsk | apply Wex | apply Wrt | apply q0o | apply q0p | apply q0e | apply q0f | refine q0b rfl ?_ | apply q0q | apply q0r | apply And.intro)
 | (with_reducible first | (refine Wrn hC ?_; intro K hK) | (refine Wdr hC (by kernel_rfl) ?_; intro K hK))
 | ((with_reducible first | refine q0u ?_ | refine qbu ?_ | refine q0m ?_); refine siQ ?_; (try simp (disch := omega) only [w64, wu8]))
 | (with_reducible refine qbh (by kernel_rfl) ?_)
 | ((first | refine Wcd rfl (fun h => ?_) fun h => ?_ | refine Wcu rfl (fun h => ?_) ?_ | refine Wcn rfl ?_ fun h => ?_) <;> (try replace h := q0a h) <;> try (exfalso; first | omega | exact absurd h (by decide)))
 | (refine Wlp 6 rfl (ι := Nat) (fun i => mkS [(1, V.ptr 16 0), (5, V.d (.i .i64 (qct f.fields i))), (33, V.d (.sl 4 (f.fields.map q01))), (34, V.d (.i .i64 (f.fields.length : Int))), (35, V.d (.i .i64 (i : Int)))] ([(16, .live (.box 63 [.d (.s f.name), .d (.sl 4 (f.fields.map q01))]))])) (fun i => i ≤ f.fields.length ∧ (qcn f.name = true ∧ 1 ≤ f.fields.length ∧ f.fields.length ≤ 20) ∧ ∀ j, j < i → qe3 f.fields j = 0) (fun i => f.fields.length - i) (0) ?_ ?_ (fun i hi => ?_) <;> (try dsimp only) <;> (try dsimp only at hi))
 | (refine Wnx 6 (i + 1) ?_ ?_ ?_ <;> (try dsimp only))
 | (refine q0j ?_; refine subQ ?_)
 | (subst hK)
 | exact trivial
 all_goals try (intros; assumption)
 all_goals try refine q0w ?_
 all_goals try replace hp := q0a hp
 all_goals try replace hi := q0a hi
 all_goals try (intros; first | trivial | omega)
 all_goals (try (rw [w64 (by omega) (by omega)]; first | done | omega))
 all_goals (try have O1 := qhd f.fields i)
 all_goals (try have W1 := qjt (f.fields.getD i q03))
 all_goals clear hC
 all_goals (try simp only [qbnd, qbs2] at *)
 all_goals first
 | rfl
 | (rw [q1w (by assumption)]; done)
 | (rw [q1w (by assumption)]; rfl)
 | exact (qxq (by assumption)).1
 | exact (qxq (by assumption)).2.1
 | exact (qxq (by assumption)).2.2
 | exact hi.2.1.1
 | exact hi.2.1.2.1
 | exact hi.2.1.2.2
 | (rw [qbnc hi.2.1 hi.2.2 (by omega) (by assumption)]; done)
 | exact qex hi.2.2 (by assumption)
 | (rw [q5s hi.2.1 hi.2.2 (by omega)]; done)
 | (rw [q5s hi.2.1 hi.2.2 (by omega), show f.fields.length = i by omega]; done)
 | (intro d hd; first | (subst hd; exact ⟨rfl, by simp [D.cells, D.one]⟩) | (rcases hd with rfl | rfl <;> exact ⟨rfl, by simp [D.cells, D.one]⟩) | (rcases hd with rfl | rfl | rfl <;> exact ⟨rfl, by simp [D.cells, D.one]⟩) | (rcases hd with rfl | rfl | rfl | rfl <;> exact ⟨rfl, by simp [D.cells, D.one]⟩))
 | (rw [qct, w64 (by omega) (by omega)]; done)
end
def cfg125 : Cfg := mkC 11 q12
theorem qbhx : cfg125.pins = [] ∧ cfg125.P = Tryz.prog ∧ cfg125.N = 11 ∧ cfg125.ti 146 = none ∧ cfg125.T 146 = e146 ∧ cfg125.mv 146 = (fun _ => []) := by and_intros <;> exact rfl
section
attribute [local go_sem] qbhx e146
attribute [local go_sem] q01 qb7 qdh qd5 qb1 qb8 qem qfe q06 qbz qcx qdl qcb qcm qd6 qen qbt qdm qeo qff qb3 qbr qc1 qdj qcz qeq qdk qc0 qer qdi qcy qep List.length_take qdd Int.toNat_zero Nat.sub_zero List.drop_zero
attribute [local go_sem ←] List.map_take List.map_drop
theorem qbuk (hC : COk cfg125) (f : Fmt) (hp : f.fields.length ≤ 1000000) : Sem Tryz.prog 125 [.d (qb1 f)] (.d (.i .i64 (qco f).2)) := by
 refine q0g (C := cfg125) (rs := [.tmp 2]) (fun _ => []) Tryz.func125 rfl rfl rfl rfl rfl rfl ?_
 refine inQ ?_
 repeat' first
 | (with_reducible first | apply q0n | apply q0d | apply Wsq | apply Wbk | apply Wsk | apply Wex | apply Wrt | apply q0o | apply q0p | apply q0e | apply q0f | refine q0b rfl ?_ | apply q0q | apply q0r | apply And.intro)
 | (with_reducible refine Wrn hC ?_; intro K hK)
 | ((with_reducible first | refine q0u ?_ | refine q0m ?_); refine siQ ?_; (try simp (disch := omega) only [w64, wu8]))
 | ((first | refine Wcd rfl (fun h => ?_) fun h => ?_ | refine Wcu rfl (fun h => ?_) ?_ | refine Wcn rfl ?_ fun h => ?_) <;> (try replace h := q0a h) <;> try (exfalso; first | omega | exact absurd h (by decide)))
 | (refine q0j ?_; refine subQ ?_)
 | (subst hK)
 | exact trivial
 all_goals try (intros; assumption)
 all_goals try refine q0w ?_
 all_goals try replace hp := q0a hp
 all_goals try (intros; first | trivial | omega)
 all_goals (try (rw [w64 (by omega) (by omega)]; first | done | omega))
end
def cfg124 : Cfg := mkC 66 q13
theorem qbhy : cfg124.pins = [] ∧ cfg124.P = Tryz.prog ∧ cfg124.N = 66 ∧ cfg124.T 83 = e83 ∧ cfg124.T 85 = e85 ∧ cfg124.T 125 = e125 ∧ cfg124.T 144 = e144 ∧ cfg124.T 145 = e145 ∧ cfg124.ti = (fun _ => none) ∧ cfg124.mv = fun _ _ => [] := by and_intros <;> exact rfl
section
attribute [local go_sem] qbhy e83 e85 e125 e144 e145
attribute [local go_sem] q01 qb7 qdh qd5 qb1 qb8 qem qfe q06 qbz qcx qdl qcb qcm qd6 qen qbt qdm qeo qff qb3 qbr qc1 qdj qcz qeq qdk qc0 qer qdi qcy qep List.length_take qdd Int.toNat_zero Nat.sub_zero List.drop_zero isKs q7z qbfy
attribute [local go_sem ←] List.map_take List.map_drop
attribute [local go_sem ↓] qbfw
theorem qbul (hC : COk cfg124) (f : File) (hp : f.format.fields.length ≤ 1000000 ∧ f.keys.length ≤ 1000000) : Sem Tryz.prog 124 [.d (qcb f)] (.tup [.d (.i .i64 (qcs f).1), .d (.i .i64 (qcs f).2)]) := by
 refine q0g (C := cfg124) (rs := [.tmp 2, .tmp 3]) (fun _ => []) Tryz.func124 rfl rfl rfl rfl rfl rfl ?_
 refine inQ ?_
 repeat' first
 | (with_reducible first | apply q0n | apply q0d | apply Wsq | apply Wbk | apply Wsk | apply Wex | apply Wrt | apply q0o | apply q0p | apply q0e | apply q0f | refine q0b rfl ?_ | apply q0q | apply q0r | apply And.intro)
 | (refine Wat 12 rfl ?_; have hE : keyE f i = 0 := (by rw [← qbbi]; exact h); have hk := qy3 (f := f) (i := i) (by omega) hE; have hv := q7y (f := f) (i := i) (by omega) hE; have hx := qpq (qxt hE); have hy := q4v (f := f) (i := i) (by omega); have hz := q4w (f := f) (i := i) (by omega))
 | (with_reducible first | (refine Whr hC ?_; intro K hK) | (refine Whd hC (by kernel_rfl) ?_; intro K hK))
 | (with_reducible first | (refine Wrn hC ?_; intro K hK) | (refine Wdr hC (by kernel_rfl) ?_; intro K hK))
 | ((with_reducible first | refine q0u ?_ | refine qbu ?_ | refine q0m ?_); (first | (simp (maxSteps := 1000000) only [go_sem, ↓reduceIte, reduceCtorEq, Nat.reduceEqDiff, Nat.reduceLT, Nat.reduceLeDiff, Nat.reduceMul, Nat.reduceAdd, Nat.reduceSub, reduceDIte, Nat.reduceBEq, Nat.reduceBNe, hk, hv, hx, hy, hz]) | (refine siQ ?_)); (try simp (disch := omega) only [w64, wu8]))
 | (with_reducible refine qbh (by kernel_rfl) ?_)
 | ((first | refine Wcd rfl (fun h => ?_) fun h => ?_ | refine Wcu rfl (fun h => ?_) ?_ | refine Wcn rfl ?_ fun h => ?_) <;> (try replace h := q0a h) <;> try (exfalso; first | omega | exact absurd h (by decide)))
 | (refine Wlp 6 rfl (ι := Nat) (fun i => mkS [(1, V.ptr 16 0), (5, V.mref 80), (32, V.d (.sl 2 (f.keys.map q06))), (33, V.d (.i .i64 (f.keys.length : Int))), (34, V.d (.i .i64 (i : Int)))] ([(16, .live (.box 66 [.d (.s f.name), .d (.s f.format.name), .d (.sl 4 (f.format.fields.map q01)), .d (.sl 2 (f.keys.map q06)), .d (.b f.unique)])), (80, .live (.mp 204 ((f.keys.take i).map keyD) (qiq (f.keys.take i))))])) (fun i => i ≤ f.keys.length ∧ (qcn f.name = true ∧ (qco f.format).2 = 0 ∧ f.keys.length ≤ 4) ∧ ∀ j, j < i → keyE f j = 0) (fun i => f.keys.length - i) (0) ?_ ?_ (fun i hi => ?_) <;> (try dsimp only) <;> (try dsimp only at hi))
 | (refine Wnx 6 (i + 1) ?_ ?_ ?_ <;> (try dsimp only))
 | (refine q0j ?_; refine subQ ?_)
 | (subst hK)
 | exact trivial
 all_goals try (intros; assumption)
 all_goals try refine q0w ?_
 all_goals try replace hp := q0a hp
 all_goals try replace hi := q0a hi
 all_goals try replace hk := q0a hk
 all_goals try (intros; first | trivial | omega)
 all_goals (try (rw [w64 (by omega) (by omega)]; first | done | omega))
 all_goals clear hC
 all_goals (try simp only [qbfs, qbbi] at *)
 all_goals first
 | rfl
 | exact qbzb _
 | exact qbfx _
 | (rw [qy1 (by assumption)]; done)
 | (rw [qy1 (by assumption)]; rfl)
 | exact (qus (by assumption)).1
 | exact (qus (by assumption)).2.1
 | exact (qus (by assumption)).2.2
 | exact hi.2.1.1
 | exact hi.2.1.2.1
 | exact hi.2.1.2.2
 | (rw [qbft hi.2.1 hi.2.2 (by omega) (by assumption)]; done)
 | exact qex hi.2.2 (by assumption)
 | (rw [qbfu hi.2.1 hi.2.2 (by omega)]; done)
 | (rw [qy3 (by omega) (by assumption)]; exact q0k _)
 | (intro d hd; first | (subst hd; exact ⟨rfl, by simp [D.cells, D.one]⟩) | (rcases hd with rfl | rfl <;> exact ⟨rfl, by simp [D.cells, D.one]⟩) | (rcases hd with rfl | rfl | rfl <;> exact ⟨rfl, by simp [D.cells, D.one]⟩) | (rcases hd with rfl | rfl | rfl | rfl <;> exact ⟨rfl, by simp [D.cells, D.one]⟩))
end
def cfg113 : Cfg := mkC 11 q14
theorem qbhz : cfg113.pins = [] ∧ cfg113.P = Tryz.prog ∧ cfg113.N = 11 ∧ cfg113.ti 124 = none ∧ cfg113.T 124 = e124 ∧ cfg113.mv 124 = (fun _ => []) := by and_intros <;> exact rfl
section
attribute [local go_sem] qbhz e124
attribute [local go_sem] q01 qb7 qdh qd5 qb1 qb8 qem qfe q06 qbz qcx qdl qcb qcm qd6 qen qbt qdm qeo qff qb3 qbr qc1 qdj qcz qeq qdk qc0 qer qdi qcy qep List.length_take qdd Int.toNat_zero Nat.sub_zero List.drop_zero
attribute [local go_sem ←] List.map_take List.map_drop
theorem qbum (hC : COk cfg113) (f : File) (hp : f.format.fields.length ≤ 1000000 ∧ f.keys.length ≤ 1000000) : Sem Tryz.prog 113 [.d (qcb f)] (.d (.i .i64 (qcs f).2)) := by
 refine q0g (C := cfg113) (rs := [.tmp 2]) (fun _ => []) Tryz.func113 rfl rfl rfl rfl rfl rfl ?_
 refine inQ ?_
 repeat' first
 | (with_reducible first | apply q0n | apply q0d | apply Wsq | apply Wbk | apply Wsk | apply Wex | apply Wrt | apply q0o | apply q0p | apply q0e | apply q0f | refine q0b rfl ?_ | apply q0q | apply q0r | apply And.intro)
 | (with_reducible refine Wrn hC ?_; intro K hK)
 | ((with_reducible first | refine q0u ?_ | refine q0m ?_); refine siQ ?_; (try simp (disch := omega) only [w64, wu8]))
 | ((first | refine Wcd rfl (fun h => ?_) fun h => ?_ | refine Wcu rfl (fun h => ?_) ?_ | refine Wcn rfl ?_ fun h => ?_) <;> (try replace h := q0a h) <;> try (exfalso; first | omega | exact absurd h (by decide)))
 | (refine q0j ?_; refine subQ ?_)
 | (subst hK)
 | exact trivial
 all_goals try (intros; assumption)
 all_goals try refine q0w ?_
 all_goals try replace hp := q0a hp
 all_goals try (intros; first | trivial | omega)
 all_goals (try (rw [w64 (by omega) (by omega)]; first | done | omega))
end
end
end Go.Ev
