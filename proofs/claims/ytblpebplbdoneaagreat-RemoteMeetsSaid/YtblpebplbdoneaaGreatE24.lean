/- Tools and contracts under the laws of this seat: Drc99 to Drc29. -/
import Derived.Test.YtblpebplbdoneaaGreatE11
set_option linter.unusedVariables false
set_option linter.unusedSimpArgs false
namespace Go.Ev
noncomputable section
open Go.Proofs Ty
set_option maxRecDepth 10000
set_option maxHeartbeats 4000000
attribute [local go_sem] List.length_map Int.toNat_natCast Int.toNat_zero Nat.sub_zero List.length_take qc2 qbx qca
attribute [local go_sem ←] List.map_take List.map_drop
def cfg99 : Cfg := ⟨Tryz.prog, 36, tab7, mvz, [], (fun _ => none)⟩
theorem qbqf : cfg99.pins = [] ∧ cfg99.P = Tryz.prog ∧ cfg99.N = 36 := ⟨rfl, rfl, rfl⟩
section
attribute [local go_sem] qbqf
attribute [local go_sem] q0s q0h qcu qdg q05 qbk qba qby q0x q0v qcr qbb qcg qbf qdy qeg qe9 qfq qf3 qfn qf2 qfo qg0 qh1 qg1 qei qe7 qfp qg2 qcq qch qbm qcj qbp qbe qdw
theorem qb1n (hC : COk cfg99) (x : Remote) (hp : x.source.length ≤ 1000000 ∧ (x.acked ≠ x.source.length → 0 < x.source.length)) : Sem Tryz.prog 99 [.d (qbb x)] (.d (.b (qv1 x))) := by
 refine q0g (C := cfg99) (rs := [.tmp 2]) (fun _ => []) Tryz.func99 rfl rfl rfl rfl rfl rfl ?_
 refine inQ ?_
 repeat' first
 | (with_reducible first | apply q0n | apply q0d | apply Wsq | apply Wbk | apply Wsk | apply Wex | apply Wrt | apply q0o | apply q0p | apply q0e | apply q0f | refine q0b rfl ?_ | apply q0q | apply q0r | apply And.intro)
 | (with_reducible refine Wrn hC ?_; intro K hK)
 | ((with_reducible first | refine q0u ?_ | refine q0m ?_); refine siQ ?_; (try simp (disch := omega) only [w64, wu8]))
 | ((first | refine Wcd rfl (fun h => ?_) fun h => ?_ | refine Wcu rfl (fun h => ?_) ?_ | refine Wcn rfl ?_ fun h => ?_) <;> (try replace h := q0a h) <;> try (exfalso; first | omega | exact absurd h (by decide)))
 | (refine q0j ?_; refine subQ ?_)
 | (subst hK)
 | exact trivial
 all_goals try (intros; assumption)
 all_goals try refine q0w ?_
 all_goals try replace hp := q0a hp
 all_goals try (intros; first | trivial | omega)
 all_goals (try (rw [w64 (by omega) (by omega)]; first | done | omega))
 all_goals first
 | omega
 | grind [qv1]
 | (rw [show ((x.source.length : Int) - 1).toNat = x.source.length - 1 by omega]; grind [qv1])
end
def cfg80 : Cfg := ⟨Tryz.prog, 33, q9y, mvr, [], (fun _ => none)⟩
theorem qbqg : cfg80.pins = [] ∧ cfg80.P = Tryz.prog ∧ cfg80.N = 33 := ⟨rfl, rfl, rfl⟩
section
attribute [local go_sem] qbqg
attribute [local go_sem] qbm qcj qbp qbe qcq qch qdw Nat.min_self List.length_drop
theorem qb1o (hC : COk cfg80)  (l : List Packet) (n : Nat) (hp : l.length ≤ 1000000 ∧ n < l.length) : Sem Tryz.prog 80 [.own 59 2 (l.map qbf), .d (.i .i64 (n : Int)), .d (.i .i64 ((n : Int) + 1))] (.own 59 2 ((l.eraseIdx n).map qbf)) := by
 have e1 : ¬ n = l.length := by omega
 have e2 : ((n : Int) == (n : Int) + 1) = false := by rw [beq_eq_false_iff_ne]; omega
 have e3 : ((n : Int) + 1).toNat = n + 1 := by omega
 have e4 : n + 1 + (l.length - (n + 1)) ≤ l.length := by omega
 have e5 : min n l.length = n := by omega
 have e6 : n + (l.length - (n + 1)) ≤ n + (l.length - (n + 1)) + (l.length - (n + (l.length - (n + 1)))) := by omega
 refine q0g (C := cfg80) (rs := [.tmp 6]) (fun _ => [(0, 59, 2)]) Tryz.func80 rfl rfl rfl rfl rfl rfl ?_
 refine inQ ?_
 repeat' first
  | (with_reducible first | apply q0n | apply q0d | apply Wsq | apply Wbk | apply Wsk | apply Wex | apply Wrt | apply q0o | apply q0p | apply q0e | apply q0f | refine q0b rfl ?_ | apply q0q | apply q0r | apply And.intro)
  | (with_reducible first | (refine Wrn hC ?_; intro K hK) | (refine Wdr hC (by kernel_rfl) ?_; intro K hK))
  | ((with_reducible first | refine q0u ?_ | refine qbu ?_ | refine q0m ?_); simp (maxSteps := 1000000) only [go_sem, ↓reduceIte, reduceCtorEq, Nat.reduceEqDiff, Nat.reduceLT, Nat.reduceLeDiff, Nat.reduceMul, Nat.reduceAdd, Nat.reduceSub, reduceDIte, Nat.reduceBEq, Nat.reduceBNe, e1, e2, e3, e4, e5, e6]; (try simp (disch := omega) only [w64, wu8]))
  | (with_reducible refine qbh (by kernel_rfl) ?_)
  | ((first | refine Wcd rfl (fun h => ?_) fun h => ?_ | refine Wcu rfl (fun h => ?_) ?_ | refine Wcn rfl ?_ fun h => ?_) <;> (try replace h := q0a h) <;> try (exfalso; first | omega | exact absurd h (by decide)))
  | (refine q0j ?_; refine subQ ?_)
  | (subst hK)
  | exact trivial
 all_goals try (intros; assumption)
 all_goals try refine q0w ?_
 all_goals try replace hp := q0a hp
 all_goals try (intros; first | trivial | omega)
 all_goals (try (rw [w64 (by omega) (by omega)]; first | done | omega))
 all_goals
  rw [if_pos (by omega)]
  refine ⟨by simp, by simp, rfl, rfl, qhi ?_⟩
  rw [List.take_take, Nat.min_self, ← List.map_append, ← List.map_append, ← List.map_take, List.take_left' (by simp; omega), List.eraseIdx_eq_take_drop_succ, List.take_of_length_le (i := l.length - (n + 1)) (by simp)]
end
def cfg81 : Cfg := ⟨Tryz.prog, 54, q9z, mvr, [], (fun _ => none)⟩
theorem qbqh : cfg81.pins = [] ∧ cfg81.P = Tryz.prog ∧ cfg81.N = 54 := ⟨rfl, rfl, rfl⟩
section
attribute [local go_sem] qbqh
attribute [local go_sem] qju q0s q0h qcu qdg q05 qbk qba qby q0x q0v qcr qbb qcg qbf qdy qeg qe9 qfq qf3 qfn qf2 qfo qg0 qh1 qg1 qei qe7 qfp qg2 qcq qch qbm qcj qbp qbe qdw
theorem qb1p (hC : COk cfg81) (x : Remote) (p : Packet) (hp : x.source.length ≤ 1000000 ∧ x.target.length ≤ 1000000 ∧ x.wire.length ≤ 1000000 ∧ (p.kind ≠ 1 → p.number = x.target.length + 1 → x.target.length < x.source.length)) : Sem Tryz.prog 81 [qju x, .d (qbf p)] (.d (qbb (qlu x p))) := by
 refine q0g (C := cfg81) (rs := [.cell 4 25]) (fun _ => []) Tryz.func81 rfl rfl rfl rfl rfl rfl ?_
 refine inQ ?_
 try simp only [qju]
 repeat' first
 | (with_reducible first | apply q0n | apply q0d | apply Wsq | apply Wbk | apply Wsk | apply Wex | apply Wrt | apply q0o | apply q0p | apply q0e | apply q0f | refine q0b rfl ?_ | apply q0q | apply q0r | apply And.intro)
 | (with_reducible first | (refine Wrn hC ?_; intro K hK) | (refine Wdr hC (by kernel_rfl) ?_; intro K hK))
 | ((with_reducible first | refine q0u ?_ | refine qbu ?_ | refine q0m ?_); refine siQ ?_; (try simp (disch := omega) only [w64, wu8]))
 | (with_reducible refine qbh (by kernel_rfl) ?_)
 | ((first | refine Wcd rfl (fun h => ?_) fun h => ?_ | refine Wcu rfl (fun h => ?_) ?_ | refine Wcn rfl ?_ fun h => ?_) <;> (try replace h := q0a h) <;> try (exfalso; first | omega | exact absurd h (by decide)))
 | (refine q0j ?_; refine subQ ?_)
 | (subst hK)
 | exact trivial
 all_goals try (intros; assumption)
 all_goals try refine q0w ?_
 all_goals try replace hp := q0a hp
 all_goals try (intros; first | trivial | omega)
 all_goals (try (rw [w64 (by omega) (by omega)]; first | done | omega))
 all_goals first
 | (intro d hd; subst hd; exact ⟨rfl, by simp [D.cells, D.one]⟩)
 | (simp only [qlu]; (repeat' split) <;> first | rfl | omega | (exfalso; omega) | (simp_all; done) | (exfalso; simp_all; done))
 | (refine qhi ?_; simp only [qlu]; (repeat' split) <;> first | rfl | omega | (exfalso; omega) | (simp_all; done) | (simp_all [q0h, qbf]; done))
end
def cfg79 : Cfg := ⟨Tryz.prog, 42, q90, mvr, [], (fun _ => none)⟩
theorem qbqi : cfg79.pins = [] ∧ cfg79.P = Tryz.prog ∧ cfg79.N = 42 ∧ cfg79.T 25 = e25 ∧ cfg79.mv 25 = (fun _ => []) ∧ cfg79.T 99 = e99 ∧ cfg79.mv 99 = (fun _ => []) ∧ cfg79.ti = (fun _ => none) := by and_intros <;> exact rfl
section
attribute [local go_sem] qbqi e25 e99
attribute [local go_sem] qju q0s q0h qcu qdg q05 qbk qba qby q0x q0v qcr qbb qcg qbf qdy qeg qe9 qfq qf3 qfn qf2 qfo qg0 qh1 qg1 qei qe7 qfp qg2 qcq qch qbm qcj qbp qbe qdw
theorem qb1q (hC : COk cfg79) (x : Remote) (entry : Entry) (hp : x.source.length ≤ 1000000 ∧ x.target.length ≤ 1000000 ∧ x.wire.length ≤ 1000000 ∧ (x.acked ≠ x.source.length → 0 < x.source.length)) : Sem Tryz.prog 79 [qju x, .d (q0h entry)] (.tup [.d (qbb (qh9 x entry).1), .d (.i .i64 (qh9 x entry).2)]) := by
 refine q0g (C := cfg79) (rs := [.cell 4 25, .tmp 5]) (fun _ => []) Tryz.func79 rfl rfl rfl rfl rfl rfl ?_
 refine inQ ?_
 try simp only [qju]
 repeat' first
 | (with_reducible first | apply q0n | apply q0d | apply Wsq | apply Wbk | apply Wsk | apply Wex | apply Wrt | apply q0o | apply q0p | apply q0e | apply q0f | refine q0b rfl ?_ | apply q0q | apply q0r | apply And.intro)
 | (with_reducible refine Wrn hC ?_; intro K hK)
 | ((with_reducible first | refine q0u ?_ | refine q0m ?_); refine siQ ?_; (try simp (disch := omega) only [w64, wu8]))
 | ((first | refine Wcd rfl (fun h => ?_) fun h => ?_ | refine Wcu rfl (fun h => ?_) ?_ | refine Wcn rfl ?_ fun h => ?_) <;> (try replace h := q0a h) <;> try (exfalso; first | omega | exact absurd h (by decide)))
 | (refine q0j ?_; refine subQ ?_)
 | (subst hK)
 | exact trivial
 all_goals try (intros; assumption)
 all_goals try refine q0w ?_
 all_goals try replace hp := q0a hp
 all_goals try (intros; first | trivial | omega)
 all_goals (try (rw [w64 (by omega) (by omega)]; first | done | omega))
 all_goals first
 | (intro d hd; subst hd; exact ⟨rfl, by simp [D.cells, D.one]⟩)
 | (simp only [qh9, qf7]; (repeat' split) <;> first | rfl | omega | (exfalso; omega) | (simp_all; done) | (exfalso; simp_all; done))
 | (refine qhi ?_; simp only [qh9, qf7]; (repeat' split) <;> first | rfl | omega | (exfalso; omega) | (simp_all; done) | (simp_all [q0h, qbf]; done))
end
def cfg51 : Cfg := ⟨Tryz.prog, 162, q91, mvr, [], (fun _ => none)⟩
theorem qbqj : cfg51.pins = [] ∧ cfg51.P = Tryz.prog ∧ cfg51.N = 162 ∧ cfg51.T 50 = e50 ∧ cfg51.mv 50 = (fun _ => []) ∧ cfg51.T 79 = e79 ∧ cfg51.mv 79 = (fun j => if j = 0 then [(1, 52, 8), (2, 52, 8), (5, 59, 2)] else []) ∧ cfg51.T 80 = e80 ∧ cfg51.mv 80 = (fun j => if j = 0 then [(0, 59, 2)] else []) ∧ cfg51.T 81 = e81 ∧ cfg51.mv 81 = (fun j => if j = 0 then [(1, 52, 8), (2, 52, 8), (5, 59, 2)] else []) ∧ cfg51.ti = (fun _ => none) := by and_intros <;> exact rfl
section
attribute [local go_sem] qbqj e50 e79 e80 e81
attribute [local go_sem] qkx q0s q0h qcu qdg q05 qbk qba qby q0x q0v qcr qbb qcg qbf qdy qeg qe9 qfq qf3 qfn qf2 qfo qg0 qh1 qg1 qei qe7 qfp qg2 qcq qch qbm qcj qbp qbe qdw
theorem qb1r (hC : COk cfg51) (x : Remote) (a : RAct) (hp : goodR x) : Sem Tryz.prog 51 [.d (qbb x), .d (qeg a)] (.tup [.d (qbb (actR x a).1), .d (.i .i64 (actR x a).2)]) := by
 obtain ⟨g1, g2, g3, g4, g5, g6, g7, g8, g9⟩ := hp
 refine q0g (C := cfg51) (rs := [.cell 4 25, .tmp 5]) (fun _ => []) Tryz.func51 rfl rfl rfl rfl rfl rfl ?_
 refine inQ ?_
 repeat' first
 | (with_reducible first | apply q0n | apply q0d | apply Wsq | apply Wbk | apply Wsk | apply Wex | apply Wrt | apply q0o | apply q0p | apply q0e | apply q0f | refine q0b rfl ?_ | apply q0q | apply q0r | apply And.intro)
 | (with_reducible first | (refine Wrn hC ?_; intro K hK) | (refine Wdr hC (by kernel_rfl) ?_; intro K hK))
 | ((with_reducible first | refine q0u ?_ | refine qbu ?_ | refine q0m ?_); refine siQ ?_; (try simp (disch := omega) only [w64, wu8]))
 | (with_reducible refine qbh (by kernel_rfl) ?_)
 | ((first | refine Wcd rfl (fun h => ?_) fun h => ?_ | refine Wcu rfl (fun h => ?_) ?_ | refine Wcn rfl ?_ fun h => ?_) <;> (try replace h := q0a h) <;> try (exfalso; first | omega | exact absurd h (by decide)))
 | (refine q0j ?_; refine subQ ?_)
 | (subst hK)
 | exact trivial
 all_goals try (intros; assumption)
 all_goals try refine q0w ?_
 all_goals try replace hp := q0a hp
 all_goals try replace hk := q0a hk
 all_goals try (intros; first | trivial | omega)
 all_goals (try (rw [w64 (by omega) (by omega)]; first | done | omega))
 all_goals first
 | (intro d hd; subst hd; exact ⟨rfl, by simp [D.cells, D.one]⟩)
 | omega
 | (rw [List.length_eraseIdx]; split <;> omega)
 | (intro hk hn; have := g8 a.n.toNat (by omega) hk; omega)
 | (clear hC g8 g9; simp only [actR]; (repeat' split) <;> first | rfl | omega | (exfalso; omega) | (simp_all; done) | (exfalso; simp_all; omega))
 | (clear hC g8 g9; refine qhi ?_; simp only [actR]; (repeat' split) <;> first | rfl | omega | (exfalso; omega) | (simp_all [q0h, qbf]; done) | (exfalso; simp_all; omega))
 | (clear hC g8 g9; rw [actR, if_neg (by omega), if_pos (h.elim (fun h => .inl ⟨by omega, h.2⟩) .inr)])
 | (clear hC g8 g9; rename_i hq; rw [actR, if_neg (by omega), if_neg (by rcases hq with ⟨hq1, hq2 | hq2⟩ <;> (intro hn; rcases hn with ⟨hn1, hn2⟩ | ⟨hn1, hn2⟩ <;> first | omega | exact hn2 hq2)), if_pos ⟨by omega, h.2⟩])
end
def cfg50d : Cfg := ⟨Tryz.prog, 16, q92, mvr, [], (fun _ => none)⟩
theorem qbi0 : cfg50d.pins = [] ∧ cfg50d.P = Tryz.prog ∧ cfg50d.N = 16 ∧ cfg50d.T 40 = e40 ∧ cfg50d.mv 40 = (fun _ => []) ∧ cfg50d.T 78 = e78 ∧ cfg50d.mv 78 = (fun _ => []) ∧ cfg50d.ti = (fun _ => none) := by and_intros <;> exact rfl
section
attribute [local go_sem] qbi0 e40 e78
attribute [local go_sem] q0s q0h qcu qdg q05 qbk qba qby q0x q0v qcr qbb qcg qbf qdy qeg qe9 qfq qf3 qfn qf2 qfo qg0 qh1 qg1 qei qe7 qfp qg2 qcq qch qbm qcj qbp qbe qdw
theorem qbvq (hC : COk cfg50d) (x : Remote) (hp : x.source.length ≤ 1000000 ∧ x.target.length ≤ 1000000 ∧ x.wire.length ≤ 1000000) : Sem Tryz.prog 50 [.d (qbb x)] (.d (qbb x)) := by
 refine q0g (C := cfg50d) (rs := [.cell 2 25]) (fun _ => []) Tryz.func50 rfl rfl rfl rfl rfl rfl ?_
 refine inQ ?_
 repeat' first
 | (with_reducible first | apply q0n | apply q0d | apply Wsq | apply Wbk | apply Wsk | apply Wex | apply Wrt | apply q0o | apply q0p | apply q0e | apply q0f | refine q0b rfl ?_ | apply q0q | apply q0r | apply And.intro)
 | (with_reducible first | (refine Wrn hC ?_; intro K hK) | (refine Wdr hC (by kernel_rfl) ?_; intro K hK))
 | ((with_reducible first | refine q0u ?_ | refine qbu ?_ | refine q0m ?_); refine siQ ?_; (try simp (disch := omega) only [w64, wu8]))
 | (with_reducible refine qbh (by kernel_rfl) ?_)
 | ((first | refine Wcd rfl (fun h => ?_) fun h => ?_ | refine Wcu rfl (fun h => ?_) ?_ | refine Wcn rfl ?_ fun h => ?_) <;> (try replace h := q0a h) <;> try (exfalso; first | omega | exact absurd h (by decide)))
 | (refine q0j ?_; refine subQ ?_)
 | (subst hK)
 | exact trivial
 all_goals try (intros; assumption)
 all_goals try refine q0w ?_
 all_goals try replace hp := q0a hp
 all_goals try (intros; first | trivial | omega)
 all_goals (try (rw [w64 (by omega) (by omega)]; first | done | omega))
 all_goals first | omega | (simp_all [dles]; done)
end
def cfg22 : Cfg := ⟨Tryz.prog, 47, q3z, mvr, [], (fun _ => none)⟩
theorem qbqk : cfg22.pins = [] ∧ cfg22.P = Tryz.prog ∧ cfg22.N = 47 ∧ cfg22.T 24 = e24 ∧ cfg22.mv 24 = (fun _ => []) ∧ cfg22.T 50 = e50d ∧ cfg22.mv 50 = (fun _ => []) ∧ cfg22.T 51 = e51 ∧ cfg22.mv 51 = (fun _ => []) ∧ cfg22.ti = (fun _ => none) := by and_intros <;> exact rfl
section
attribute [local go_sem] qbqk e24 e50d e51
attribute [local go_sem] q0s q0h qcu qdg q05 qbk qba qby q0x q0v qcr qbb qcg qbf qdy qeg qe9 qfq qf3 qfn qf2 qfo qg0 qh1 qg1 qei qe7 qfp qg2 qcq qch qbm qcj qbp qbe qdw
theorem qb1s (hC : COk cfg22) (x : Remote) (l : List RAct) (hp : x.source.length ≤ 1000000 ∧ x.target.length ≤ 1000000 ∧ x.wire.length ≤ 1000000 ∧ l.length ≤ 1000000) : Sem Tryz.prog 22 [.d (qbb x), .d (.sl 10 (l.map qeg))] (.tup [.d (qbb (runR x l).1), .d (.i .i64 (runR x l).2.1), .d (.i .i64 (runR x l).2.2)]) := by
 refine q0g (C := cfg22) (rs := [.cell 4 25, .tmp 5, .tmp 6]) (fun _ => []) Tryz.func22 rfl rfl rfl rfl rfl rfl ?_
 refine inQ ?_
 repeat' first
 | (with_reducible first | apply q0n | apply q0d | apply Wsq | apply Wbk | apply Wsk | apply Wex | apply Wrt | apply q0o | apply q0p | apply q0e | apply q0f | refine q0b rfl ?_ | apply q0q | apply q0r | apply And.intro)
 | (with_reducible refine Wrn hC ?_; intro K hK)
 | ((with_reducible first | refine q0u ?_ | refine q0m ?_); refine siQ ?_; (try simp (disch := omega) only [w64, wu8]))
 | ((first | refine Wcd rfl (fun h => ?_) fun h => ?_ | refine Wcu rfl (fun h => ?_) ?_ | refine Wcn rfl ?_ fun h => ?_) <;> (try replace h := q0a h) <;> try (exfalso; first | omega | exact absurd h (by decide)))
 | (refine Wlp 8 rfl (ι := Nat × Remote) (fun p => mkS [(1, V.d (.sl 10 (l.map qeg))), (2, V.ptr 32 0), (4, V.ptr 64 0), (24, V.d (.sl 10 (l.map qeg))), (25, V.d (.i .i64 (l.length : Int))), (26, V.d (.i .i64 (p.1 : Int)))] ([(32, .live (.box 25 [.d (.b p.2.sync), .d (.sl 8 (p.2.source.map q0h)), .d (.sl 8 (p.2.target.map q0h)), .d (.i .i64 p.2.sent), .d (.i .i64 p.2.acked), .d (.sl 2 (p.2.wire.map qbf))])), (64, .live (.box 25 [.d (.b false), .d .nil, .d .nil, .d (.i .i64 0), .d (.i .i64 0), .d .nil]))])) (fun p => p.1 ≤ l.length ∧ goodR p.2 ∧ qth p.2 p.1 (l.drop p.1) = runR x l) (fun p => l.length - p.1) ((0, x)) ?_ ?_ (fun p hi => ?_) <;> (try dsimp only) <;> (try dsimp only at hi))
 | (refine Wnx 8 ((p.1 + 1, (actR p.2 (l.getD p.1 qo5)).1)) ?_ ?_ ?_ <;> (try dsimp only))
 | (refine q0j ?_; refine subQ ?_)
 | (subst hK)
 | exact trivial
 all_goals try (intros; assumption)
 all_goals try refine q0w ?_
 all_goals try replace hp := q0a hp
 all_goals try replace hi := q0a hi
 all_goals try (intros; first | trivial | omega)
 all_goals (try (rw [w64 (by omega) (by omega)]; first | done | omega))
 all_goals first
 | exact qjh (by assumption)
 | exact qbfh hi.2.1 (by assumption)
 | exact hi.2.1
 | (rw [← hi.2.2, qd2 qo5 (by omega), qth, if_pos (by omega)]; done)
 | (rw [← hi.2.2, qd2 qo5 (by omega), qth, if_pos (by omega)]; rfl)
 | (have := hi.2.2; rw [qd2 qo5 (by omega), qth, if_neg (by omega)] at this; exact this)
 | (rw [← hi.2.2, List.drop_of_length_le (by omega)]; done)
 | (rw [← hi.2.2, List.drop_of_length_le (by omega)]; rfl)
 | (rw [← hi.2.2, List.drop_of_length_le (by omega)]; exact q0k _)
 | (rw [← hi.2.2, List.drop_of_length_le (by omega)]; show (p.1 : Int) = (l.length : Int); omega)
 | (rw [runR, if_pos (by omega)]; done)
 | (rw [runR, if_pos (by omega)]; rfl)
 | (rw [runR, if_neg (by omega), if_pos (by omega)]; done)
 | (rw [runR, if_neg (by omega), if_pos (by omega)]; rfl)
 | (rw [runR, if_neg (by omega), if_neg (by omega)]; done)
 | (rw [runR, if_neg (by omega), if_neg (by omega)]; rfl)
end
def cfg11d : Cfg := ⟨Tryz.prog, 16, q93, mvr, [], (fun _ => none)⟩
theorem qbi1 : cfg11d.pins = [] ∧ cfg11d.P = Tryz.prog ∧ cfg11d.N = 16 ∧ cfg11d.ti 13 = none ∧ cfg11d.T 13 = e13 ∧ cfg11d.mv 13 = (fun _ => []) := by and_intros <;> exact rfl
section
attribute [local go_sem] qbi1 e13
attribute [local go_sem] q0s q0h qcu qdg q05 qbk qba qby q0x q0v qcr qbb qcg qbf qdy qeg qe9 qfq qf3 qfn qf2 qfo qg0 qh1 qg1 qei qe7 qfp qg2 qcq qch qbm qcj qbp qbe qdw
theorem qbvr (hC : COk cfg11d) (x : Remote) (hp : x.source.length ≤ 1000000 ∧ x.target.length ≤ 1000000 ∧ x.wire.length ≤ 1000000) : Sem Tryz.prog 11 [.d (qbb x)] (.d (qbb x)) := by
 refine q0g (C := cfg11d) (rs := [.cell 2 25]) (fun _ => []) Tryz.func11 rfl rfl rfl rfl rfl rfl ?_
 refine inQ ?_
 repeat' first
 | (with_reducible first | apply q0n | apply q0d | apply Wsq | apply Wbk | apply Wsk | apply Wex | apply Wrt | apply q0o | apply q0p | apply q0e | apply q0f | refine q0b rfl ?_ | apply q0q | apply q0r | apply And.intro)
 | (with_reducible first | (refine Wrn hC ?_; intro K hK) | (refine Wdr hC (by kernel_rfl) ?_; intro K hK))
 | ((with_reducible first | refine q0u ?_ | refine qbu ?_ | refine q0m ?_); refine siQ ?_; (try simp (disch := omega) only [w64, wu8]))
 | (with_reducible refine qbh (by kernel_rfl) ?_)
 | ((first | refine Wcd rfl (fun h => ?_) fun h => ?_ | refine Wcu rfl (fun h => ?_) ?_ | refine Wcn rfl ?_ fun h => ?_) <;> (try replace h := q0a h) <;> try (exfalso; first | omega | exact absurd h (by decide)))
 | (refine q0j ?_; refine subQ ?_)
 | (subst hK)
 | exact trivial
 all_goals try (intros; assumption)
 all_goals try refine q0w ?_
 all_goals try replace hp := q0a hp
 all_goals try (intros; first | trivial | omega)
 all_goals (try (rw [w64 (by omega) (by omega)]; first | done | omega))
 all_goals first | omega | (simp_all [dles]; done)
end
def cfg6 : Cfg := ⟨Tryz.prog, 59, q30, mvr, [], (fun _ => none)⟩
theorem qbvs : cfg6.pins = [] ∧ cfg6.P = Tryz.prog ∧ cfg6.N = 59 ∧ cfg6.ti 22 = none ∧ cfg6.T 22 = e22 ∧ cfg6.mv 22 = (fun _ => []) := by and_intros <;> exact rfl
section
attribute [local go_sem] qbvs e22
attribute [local go_sem] q0s q0h qcu qdg q05 qbk qba qby q0x q0v qcr qbb qcg qbf qdy qeg qe9 qfq qf3 qfn qf2 qfo qg0 qh1 qg1 qei qe7 qfp qg2 qcq qch qbm qcj qbp qbe qdw qbza qdd nc0 nc1 nc2 eqB List.getD_cons_zero
theorem con6 (hC : COk cfg6)  : Sem Tryz.prog 6 [] (.d (.b true)) := by
 refine q0g (C := cfg6) (rs := [.tmp 0]) (fun _ => []) Tryz.func6 rfl rfl rfl rfl rfl rfl ?_
 refine inQ ?_
 repeat' first
 | (with_reducible first | apply q0n | apply q0d | apply Wsq | apply Wbk | apply Wsk | apply Wex | apply Wrt | apply q0o | apply q0p | apply q0e | apply q0f | refine q0b rfl ?_ | apply q0q | apply q0r | apply And.intro)
 | (with_reducible refine Wrn hC ?_; intro K hK)
 | ((with_reducible first | refine q0u ?_ | refine q0m ?_); refine siQ ?_; (try simp (disch := omega) only [w64, wu8]))
 | ((first | refine Wcd rfl (fun h => ?_) fun h => ?_ | refine Wcu rfl (fun h => ?_) ?_ | refine Wcn rfl ?_ fun h => ?_) <;> (try replace h := q0a h) <;> try (exfalso; first | omega | exact absurd h (by decide)))
 | (refine q0j ?_; refine subQ ?_)
 | (subst hK)
 | exact trivial
 all_goals try (intros; assumption)
 all_goals try refine q0w ?_
 all_goals try (intros; first | trivial | omega)
 all_goals (try (rw [w64 (by omega) (by omega)]; first | done | omega))
 all_goals first
 | (intro d hd; rcases hd with rfl | rfl | rfl | rfl | rfl | rfl | rfl <;> exact ⟨rfl, by simp [D.cells, D.one]⟩)
end
def cfg46o : Cfg := ⟨Tryz.prog, 78, tab6, mvr, [], (fun _ => none)⟩
theorem qbi2 : cfg46o.pins = [] ∧ cfg46o.P = Tryz.prog ∧ cfg46o.N = 78 ∧ cfg46o.T 30 = e30 ∧ cfg46o.mv 30 = (fun _ => []) ∧ cfg46o.T 71 = e71 ∧ cfg46o.mv 71 = (fun _ => []) ∧ cfg46o.T 72 = e72 ∧ cfg46o.mv 72 = (fun _ => []) ∧ cfg46o.T 73 = e73 ∧ cfg46o.mv 73 = (fun _ => []) ∧ cfg46o.T 74 = e74 ∧ cfg46o.mv 74 = (fun _ => []) ∧ cfg46o.ti = (fun _ => none) := by and_intros <;> exact rfl
section
attribute [local go_sem] qbi2 e30 e71 e72 e73 e74
attribute [local go_sem] qbi qbl qck qdc qce qdr qd3 qet qdq qd4 qee qb9 decI nc0 qbj qbo q01 qb7 qdh qd5 qb1 qb8 qem qfe q06 qbz qcx qdl qcb qcm qd6 qen qbt qdm qeo qff qb3 qbr qc1 qdj qcz qeq qdk qc0 qer qdi qcy qep qdd List.drop_zero q0c q0y qdn qd7 q0s q0x q05 qba qcv qcw List.length_set Nat.le_refl qc5 qcl qd0 List.take_length
theorem qbvt (hC : COk cfg46o) (ts : List Table) (cs : List Change) (hp : okTs ts ∧ cs.length ≤ 1000000) : Sem Tryz.prog 46 [.d (.sl 6 (ts.map q0c)), .d (.sl 5 (cs.map q0s))] (.tup [.own 69 6 ((qc4 ts cs).1.map q0c), .d (.i .i64 (qc4 ts cs).2.1), .d (.i .i64 (qc4 ts cs).2.2)]) := by
 have hB : ts.length ≤ 1000000 := hp.1.1
 refine q0g (C := cfg46o) (rs := [.tmp 4, .tmp 5, .tmp 6]) (fun j => if j = 0 then [(0, 69, 6)] else []) Tryz.func46 rfl rfl rfl rfl rfl rfl ?_
 refine inQ ?_
 repeat' first
 | (with_reducible first | apply q0n | apply q0d | apply Wsq | apply Wbk | apply Wsk | apply Wex | apply Wrt | apply q0o | apply q0p | apply q0e | apply q0f | refine q0b rfl ?_ | apply q0q | apply q0r | apply And.intro)
 | (refine Wat 4 rfl ?_; have hg : ∀ z, (ts.map q0c).getD i z = q0c (ts.getD i q0z) := fun z => qfr (by omega) z)
 | (refine Wat 8 rfl ?_; refine AWh.mk ?_; refine AW.frzBox 144 [.s (ts.getD i q0z).file.name, .s (ts.getD i q0z).file.format.name, .sl 4 ((ts.getD i q0z).file.format.fields.map q01), .sl 2 ((ts.getD i q0z).file.keys.map q06), .b (ts.getD i q0z).file.unique, .sl 2 ((ts.getD i q0z).records.map qbt)] [416, 528, 608] rfl (by simp (maxSteps := 1000000) only [toDs, toD1, go_sem, ↓reduceIte, reduceCtorEq, Nat.reduceEqDiff, Nat.reduceLT, Nat.reduceLeDiff, Nat.reduceMul, Nat.reduceAdd, Nat.reduceSub, reduceDIte, Nat.reduceBEq, Nat.reduceBNe, qbi, qbl, qck, qdc, qce, qdr, qd3, qet, Int.toNat_natCast, qdq, qd4, qee, qb9, qc2, qbx, qca, decI, List.length_map, nc0, qbj, qbo, q01, qb7, qdh, qd5, qb1, qb8, qem, qfe, q06, qbz, qcx, qdl, qcb, qcm, qd6, qen, qbt, qdm, qeo, qff, qb3, qbr, qc1, qdj, qcz, qeq, qdk, qc0, qer, qdi, qcy, qep, ← List.map_take, ← List.map_drop, List.length_take, qdd, Int.toNat_zero, Nat.sub_zero, List.drop_zero, q0c, q0y, qdn, qd7, q0s, q0x, q05, qba, qcv, qcw, List.length_set, Nat.le_refl, qc5, qcl, q0h, q0v, qbk, qby, qbm, qcj, qcq]) rfl rfl ?_; simp only [frzL, HS.frz, List.map_cons, List.map_nil, List.contains_cons, List.contains_nil, List.elem_cons, List.elem_nil, Nat.reduceEqDiff, Nat.reduceBEq, Bool.or_false, Bool.false_or, Bool.or_true, Bool.true_or, ↓reduceIte, Bool.false_eq_true]; refine Wat 8 rfl ?_)
 | (refine Wat 16 rfl ?_; have hb := qhe (mTo ts cs k).1 (cs.getD k q08).file; have hg : ∀ z, ((mTo ts cs k).1.map q0c).getD (qbg (mTo ts cs k).1 (cs.getD k q08).file).toNat z = q0c ((mTo ts cs k).1.getD (qbg (mTo ts cs k).1 (cs.getD k q08).file).toNat q0z) := fun z => qfr (by omega) z)
 | (with_reducible first | (refine Whr hC ?_; intro K hK) | (refine Whd hC (by kernel_rfl) ?_; intro K hK))
 | (with_reducible first | (refine Wrn hC ?_; intro K hK) | (refine Wdr hC (by kernel_rfl) ?_; intro K hK))
 | ((with_reducible first | refine q0u ?_ | refine qbu ?_ | refine q0m ?_); (first | (simp (maxSteps := 1000000) only [go_sem, ↓reduceIte, reduceCtorEq, Nat.reduceEqDiff, Nat.reduceLT, Nat.reduceLeDiff, Nat.reduceMul, Nat.reduceAdd, Nat.reduceSub, reduceDIte, Nat.reduceBEq, Nat.reduceBNe, hg]) | (refine siQ ?_)); (try simp (disch := omega) only [w64, wu8]))
 | (with_reducible refine qbh (by kernel_rfl) ?_)
 | ((first | refine Wcd rfl (fun h => ?_) fun h => ?_ | refine Wcu rfl (fun h => ?_) ?_ | refine Wcn rfl ?_ fun h => ?_) <;> (try replace h := q0a h) <;> try (exfalso; first | omega | exact absurd h (by decide)))
 | (refine Wlp 3 rfl (ι := Nat) (fun i => mkS [(1, V.d (.sl 5 (cs.map q0s))), (7, V.row 112 6 0 (ts.take i).length), (16, V.d (.sl 6 (ts.map q0c))), (17, V.d (.i .i64 (ts.length : Int))), (18, V.d (.i .i64 (i : Int)))] ([(112, .live (.row 69 6 false ((ts.take i).map q0c)))])) (fun i => i ≤ ts.length) (fun i => ts.length - i) (0) ?_ ?_ (fun i hi => ?_) <;> (try dsimp only) <;> (try dsimp only at hi))
 | (refine Wnx 3 (i + 1) ?_ ?_ ?_ <;> (try dsimp only))
 | (refine Wlp 12 rfl (ι := Nat) (fun k => mkS [(7, V.row 112 6 0 (mTo ts cs k).1.length), (10, V.d (.i .i64 (mTo ts cs k).2)), (45, V.d (.sl 5 (cs.map q0s))), (46, V.d (.i .i64 (cs.length : Int))), (47, V.d (.i .i64 (k : Int)))] ([(112, .live (.row 69 6 false ((mTo ts cs k).1.map q0c)))])) (fun k => k ≤ cs.length ∧ ∀ j, j < k → mErr ts cs j = 0) (fun k => cs.length - k) (0) ?_ ?_ (fun k hk => ?_) <;> (try dsimp only) <;> (try dsimp only at hk))
 | (refine Wnx 12 (k + 1) ?_ ?_ ?_ <;> (try dsimp only))
 | (refine q0j ?_; refine subQ ?_)
 | (subst hK)
 | exact trivial
 all_goals try (intros; assumption)
 all_goals try refine q0w ?_
 all_goals try replace hp := q0a hp
 all_goals try replace hi := q0a hi
 all_goals try replace hk := q0a hk
 all_goals try (intros; first | trivial | omega)
 all_goals (try (rw [w64 (by omega) (by omega)]; first | done | omega))
 all_goals clear hC
 all_goals (try have OK := qsi (cs := cs) hp.1 hk.2)
 all_goals (try have CN := qp6 ts cs k)
 all_goals (try have LN := qjj ts cs k)
 all_goals (try simp only [qm5] at *)
 all_goals first
 | omega
 | exact (hp.1.2 i).1
 | exact (hp.1.2 i).2.1
 | exact (hp.1.2 i).2.2
 | exact hp.1.1
 | exact OK.1
 | exact (OK.2 _).1
 | exact (OK.2 _).2.1
 | exact (OK.2 _).2.2
 | (rw [List.take_of_length_le (by omega)]; exact q0k _)
 | (rw [List.take_take, List.take_of_length_le (by omega)]; exact q0k _)
 | (rw [qdx q0z (by omega), List.map_append]; exact q0k _)
 | (intro d hd; subst hd; exact ⟨rfl, by simp [D.cells, D.one]⟩)
 | (rw [qj3 hk.2 (by omega) (by rw [qjk (by omega)]; assumption)]; done)
 | (rw [qj3 hk.2 (by omega) (by rw [qjk (by omega)]; assumption)]; rfl)
 | (rw [qj3 hk.2 (by omega) (by rw [qjk (by omega)]; assumption), qjk (by omega)]; done)
 | exact qex hk.2 (qy8 (by omega))
 | exact qex hk.2 (by rw [qjk (by omega)]; assumption)
 | (have L0 := qjj ts cs 0; have L1 := qjj ts cs (k + 1); omega)
 | (have L0 := qjj ts cs 0; omega)
 | (rw [qq4 (by omega)]; done)
 | (rw [qq4 (by omega)]; exact q0k _)
 | (rw [qlj (by omega)]; done)
 | (rw [qlj (by omega), w64 (by omega) (by omega)]; done)
 | (rw [qlj (by omega), w64 (by omega) (by omega)]; rfl)
 | (rw [qlj (by omega), List.map_set]; exact q0k _)
 | (rw [qhk (by assumption), qlj (by omega), List.map_set]; exact q0k _)
 | (rw [qmx hk.2 (by omega)]; done)
 | (rw [qmx hk.2 (by omega)]; exact q0k _)
 | (rw [qj3 hk.2 (by omega) (by rw [qjk (by omega)]; assumption)]; exact q0k _)
end
def cfg27o : Cfg := ⟨Tryz.prog, 53, q31, mvr, [], (fun _ => none)⟩
theorem qbi3 : cfg27o.pins = [] ∧ cfg27o.P = Tryz.prog ∧ cfg27o.N = 53 ∧ cfg27o.T 45 = e45 ∧ cfg27o.mv 45 = (fun _ => []) ∧ cfg27o.T 46 = e46o ∧ cfg27o.mv 46 = (fun _ => []) ∧ cfg27o.T 47 = e47z ∧ cfg27o.mv 47 = (fun _ => []) ∧ cfg27o.T 53 = e53z ∧ cfg27o.mv 53 = (fun _ => []) ∧ cfg27o.ti = (fun _ => none) := by and_intros <;> exact rfl
section
attribute [local go_sem] qbi3 e45 e46o e47z e53z
attribute [local go_sem] qbi qbl qck qdc qce qdr qd3 qet qdq qd4 qee qb9 decI nc0 qbj qbo q01 qb7 qdh qd5 qb1 qb8 qem qfe q06 qbz qcx qdl qcb qcm qd6 qen qbt qdm qeo qff qb3 qbr qc1 qdj qcz qeq qdk qc0 qer qdi qcy qep qdd List.drop_zero q0c q0y qdn qd7 q0s q0x q05 qba qcv qcw List.length_set Nat.le_refl qc5 qcl q0h q0v qbk qby qbm qcj qcq qft qgt qii qj1 qij qik qj5 qim qin qd0 qj6 dWZ1 dWZ2 dWZ3 dWZ4 dWZ5 remW
theorem qbvu (hC : COk cfg27o) (ts : List Table) (l : List Entry) (n : Int) (hp : okTs ts ∧ l.length ≤ 1000000) : Sem Tryz.prog 27 [.d (.sl 6 (ts.map q0c)), .d (.sl 8 (l.map q0h)), .d (.i .i64 n)] (.tup [.own 69 6 ((qfb ts l n).1.map q0c), .d (.i .i64 (qfb ts l n).2.1), .d (.i .i64 (qfb ts l n).2.2)]) := by
 refine q0g (C := cfg27o) (rs := [.tmp 6, .tmp 7, .tmp 8]) (fun j => if j = 0 then [(0, 69, 6)] else []) Tryz.func27 rfl rfl rfl rfl rfl rfl ?_
 refine inQ ?_
 repeat' first
 | (with_reducible first | apply q0n | apply q0d | apply Wsq | apply Wbk | apply Wsk | apply Wex | apply Wrt | apply q0o | apply q0p | apply q0e | apply q0f | refine q0b rfl ?_ | apply q0q | apply q0r | apply And.intro)
 | (refine Wat 6 rfl ?_; have hq := (qjm (ts := ts) (l := l) (by assumption)).2; have h0 := qn8 hq (j := 0) (by omega); have h1 := qn8 hq (j := l.length - 1) (by omega); have hj : ((l.length : Int) - 1).toNat = l.length - 1 := (by omega))
 | (with_reducible first | (refine Whr hC ?_; intro K hK) | (refine Whd hC (by kernel_rfl) ?_; intro K hK))
 | (with_reducible first | (refine Wrn hC ?_; intro K hK) | (refine Wdr hC (by kernel_rfl) ?_; intro K hK))
 | ((with_reducible first | refine q0u ?_ | refine qbu ?_ | refine q0m ?_); (first | (simp (maxSteps := 1000000) only [go_sem, ↓reduceIte, reduceCtorEq, Nat.reduceEqDiff, Nat.reduceLT, Nat.reduceLeDiff, Nat.reduceMul, Nat.reduceAdd, Nat.reduceSub, reduceDIte, Nat.reduceBEq, Nat.reduceBNe, hj]) | (refine siQ ?_)); (try simp (disch := omega) only [w64, wu8]))
 | (with_reducible refine qbh (by kernel_rfl) ?_)
 | ((first | refine Wcd rfl (fun h => ?_) fun h => ?_ | refine Wcu rfl (fun h => ?_) ?_ | refine Wcn rfl ?_ fun h => ?_) <;> (try replace h := q0a h) <;> try (exfalso; first | omega | exact absurd h (by decide)))
 | (refine q0j ?_; refine subQ ?_)
 | (subst hK)
 | exact trivial
 all_goals try (intros; assumption)
 all_goals try refine q0w ?_
 all_goals try replace hp := q0a hp
 all_goals try replace hj := q0a hj
 all_goals try (intros; first | trivial | omega)
 all_goals (try (rw [w64 (by omega) (by omega)]; first | done | omega))
 all_goals clear hC
 all_goals (try have ES := qsj (l := l) (by omega))
 all_goals (try have EN := qsk (l := l) (by omega))
 all_goals first
 | omega
 | exact hp.1
 | exact hp.2
 | exact hp.1.1
 | exact ⟨hp.2, trivial⟩
 | trivial
 | (rw [qk3 (by assumption)]; done)
 | (rw [qk3 (by assumption)]; rfl)
 | (rw [qk3 (by assumption)]; exact q0k _)
 | (rw [qk4 (by assumption) (by omega)]; done)
 | (rw [qk4 (by assumption) (by omega)]; rfl)
 | (rw [qk4 (by assumption) (by omega)]; exact q0k _)
 | (rw [qnk (by assumption) (by omega)]; done)
 | (rw [qnk (by assumption) (by omega)]; exact q0k _)
 | (have := qja ⟨true, n⟩ false l; omega)
 | (have := qja ⟨false, n⟩ true l; omega)
end
def cfg29 : Cfg := ⟨Tryz.prog, 11, q32, mvr, [], (fun _ => none)⟩
theorem qbql : cfg29.pins = [] ∧ cfg29.P = Tryz.prog ∧ cfg29.N = 11 := ⟨rfl, rfl, rfl⟩
section
attribute [local go_sem] qbql
attribute [local go_sem] qbi qbl qck qdc qce qdr qd3 qet qdq qd4 qee qb9 decI nc0 qbj qbo q01 qb7 qdh qd5 qb1 qb8 qem qfe q06 qbz qcx qdl qcb qcm qd6 qen qbt qdm qeo qff qb3 qbr qc1 qdj qcz qeq qdk qc0 qer qdi qcy qep qdd List.drop_zero q0c q0y qdn qd7 q0s q0x q05 qba qcv qcw List.length_set Nat.le_refl qc5 qcl q0h q0v qbk qby qbm qcj qcq qft qgt qii qj1 qij qik qj5 qim qin qd0 qcu qdg qcr qbb qcg qbf qdy qeg qe9 qfq qf3 qfn qf2 qfo qg0 qh1 qg1 qei qe7 qfp qg2 qch qbp qbe qdw D.body qu2
theorem qb1t (hC : COk cfg29) (t : Table) (y : Entry) : Sem Tryz.prog 29 [.d (q0c t), .d (.cp (q0h y).body)] (.d (.b (decide (t.file.name = y.change.file)))) := by
 refine q0g (C := cfg29) (rs := [.tmp 3]) (fun _ => []) Tryz.func29 rfl rfl rfl rfl rfl rfl ?_
 refine inQ ?_
 repeat' first
 | (with_reducible first | apply q0n | apply q0d | apply Wsq | apply Wbk | apply Wsk | apply Wex | apply Wrt | apply q0o | apply q0p | apply q0e | apply q0f | refine q0b rfl ?_ | apply q0q | apply q0r | apply And.intro)
 | (with_reducible refine Wrn hC ?_; intro K hK)
 | ((with_reducible first | refine q0u ?_ | refine q0m ?_); refine siQ ?_; (try simp (disch := omega) only [w64, wu8]))
 | ((first | refine Wcd rfl (fun h => ?_) fun h => ?_ | refine Wcu rfl (fun h => ?_) ?_ | refine Wcn rfl ?_ fun h => ?_) <;> (try replace h := q0a h) <;> try (exfalso; first | omega | exact absurd h (by decide)))
 | (refine q0j ?_; refine subQ ?_)
 | (subst hK)
 | exact trivial
 all_goals try (intros; assumption)
 all_goals try refine q0w ?_
 all_goals try (intros; first | trivial | omega)
 all_goals (try (rw [w64 (by omega) (by omega)]; first | done | omega))
end
end
end Go.Ev
