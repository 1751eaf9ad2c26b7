/- Tools and contracts under the laws of this seat: Drc42 to Drc19. -/
import Derived.Test.YtblpebplbdoneaaGreatE05
import Derived.Test.YtblpebplbdoneaaGreatE07
import Derived.Test.YtblpebplbdoneaaGreatE09
set_option linter.unusedVariables false
set_option linter.unusedSimpArgs false
namespace Go.Ev
noncomputable section
open Go.Proofs Ty
set_option maxRecDepth 10000
set_option maxHeartbeats 4000000
attribute [local go_sem] qbi qbl qck qdc qce qdr qd3 qet Int.toNat_natCast qdq qd4 qee qb9 qc2 qbx qca decI List.length_map nc0 qbj qbo q01 qb7 qdh qd5 qb1 qb8 qem qfe q06 qbz qcx qdl qcb qcm qd6 qen qbt qdm qeo qff qb3 qbr qc1 qdj qcz qeq qdk qc0 qer qdi qcy qep List.length_take qdd Int.toNat_zero Nat.sub_zero List.drop_zero q0c q0y qdn qd7 q0s q0x q05 qba qcv qcw List.length_set Nat.le_refl
attribute [local go_sem ←] List.map_take List.map_drop
def cfg42 : Cfg := mkC 22 q79
theorem qbo3 : cfg42.pins = [] ∧ cfg42.P = Tryz.prog ∧ cfg42.N = 22 := ⟨rfl, rfl, rfl⟩
section
attribute [local go_sem] qbo3
theorem qb0b (hC : COk cfg42) (c : Change) : Sem Tryz.prog 42 [.d (q0s c)] (.tup [.d (q0s (qgm c).1), .d (.i .i64 (qgm c).2)]) := by
 refine q0g (C := cfg42) (rs := [.cell 2 50, .tmp 3]) (fun _ => []) Tryz.func42 rfl rfl rfl rfl rfl rfl ?_
 refine inQ ?_
 repeat' first
 | (with_reducible first | apply q0n | apply q0d | apply Wsq | apply Wbk | apply Wsk | apply Wex | apply Wrt | apply q0o | apply q0p | apply q0e | apply q0f | refine q0b rfl ?_ | apply q0q | apply q0r | apply And.intro)
 | (with_reducible refine Wrn hC ?_; intro K hK)
 | ((with_reducible first | refine q0u ?_ | refine q0m ?_); refine siQ ?_; (try simp (disch := omega) only [w64, wu8]))
 | ((first | refine Wcd rfl (fun h => ?_) fun h => ?_ | refine Wcu rfl (fun h => ?_) ?_ | refine Wcn rfl ?_ fun h => ?_) <;> (try replace h := q0a h) <;> try (exfalso; first | omega | exact absurd h (by decide)))
 | (refine q0j ?_; refine subQ ?_)
 | (subst hK)
 | exact trivial
 all_goals try (intros; assumption)
 all_goals try refine q0w ?_
 all_goals try (intros; first | trivial | omega)
 all_goals (try (rw [w64 (by omega) (by omega)]; first | done | omega))
 all_goals clear hC
 all_goals first
 | omega
 | (simp [qgm, qea, q08, *]; done)
 | (simp_all [qgm, qea]; done)
 | (unfold qgm qea; grind)
end
def cfg98 : Cfg := mkC 9 q8a
theorem qbo4 : cfg98.pins = [] ∧ cfg98.P = Tryz.prog ∧ cfg98.N = 9 := ⟨rfl, rfl, rfl⟩
section
attribute [local go_sem] qbo4
attribute [local go_sem] qc5 qcl
theorem qb0c (hC : COk cfg98) (t : Table) (n : ByteArray) : Sem Tryz.prog 98 [.d (q0c t), .d (.cp [.s n])] (.d (.b (decide (t.file.name = n)))) := by
 refine q0g (C := cfg98) (rs := [.tmp 3]) (fun _ => []) Tryz.func98 rfl rfl rfl rfl rfl rfl ?_
 refine inQ ?_
 repeat' first
 | (with_reducible first | apply q0n | apply q0d | apply Wsq | apply Wbk | apply Wsk | apply Wex | apply Wrt | apply q0o | apply q0p | apply q0e | apply q0f | refine q0b rfl ?_ | apply q0q | apply q0r | apply And.intro)
 | (with_reducible refine Wrn hC ?_; intro K hK)
 | ((with_reducible first | refine q0u ?_ | refine q0m ?_); refine siQ ?_; (try simp (disch := omega) only [w64, wu8]))
 | ((first | refine Wcd rfl (fun h => ?_) fun h => ?_ | refine Wcu rfl (fun h => ?_) ?_ | refine Wcn rfl ?_ fun h => ?_) <;> (try replace h := q0a h) <;> try (exfalso; first | omega | exact absurd h (by decide)))
 | (refine q0j ?_; refine subQ ?_)
 | (subst hK)
 | exact trivial
 all_goals try (intros; assumption)
 all_goals try refine q0w ?_
 all_goals try (intros; first | trivial | omega)
 all_goals (try (rw [w64 (by omega) (by omega)]; first | done | omega))
end
def cfg28 : Cfg := mkC 19 q8e
theorem qbo5 : cfg28.pins = [] ∧ cfg28.P = Tryz.prog ∧ cfg28.N = 19 ∧ cfg28.ti 98 = none ∧ cfg28.T 98 = e98 ∧ cfg28.mv 98 = (fun _ => []) := by and_intros <;> exact rfl
section
attribute [local go_sem] qbo5 e98
attribute [local go_sem] qc5 qcl
theorem qb0d (hC : COk cfg28) (l : List Table) (n : ByteArray) (hp : l.length ≤ 1000000) : Sem Tryz.prog 28 [.d (.sl 6 (l.map q0c)), .d (.fn 98 [.cp [.s n]])] (.d (.i .i64 (qbg l n))) := by
 refine q0g (C := cfg28) (rs := [.tmp 4]) (fun _ => []) Tryz.func28 rfl rfl rfl rfl rfl rfl ?_
 refine inQ ?_
 repeat' first
 | (with_reducible first | apply q0n | apply q0d | apply Wsq | apply Wbk | apply Wsk | apply Wex | apply Wrt | apply q0o | apply q0p | apply q0e | apply q0f | refine q0b rfl ?_ | apply q0q | apply q0r | apply And.intro)
 | (refine Wat 4 rfl ?_; have hg : ∀ z, (l.map q0c).getD i z = q0c (l.getD i q0z) := fun z => qfr (by omega) z)
 | (with_reducible first | (refine Whr hC ?_; intro K hK) | (refine Whd hC (by kernel_rfl) ?_; intro K hK))
 | (with_reducible refine Wrn hC ?_; intro K hK)
 | ((with_reducible first | refine q0u ?_ | refine q0m ?_); (first | (simp (maxSteps := 1000000) only [go_sem, ↓reduceIte, reduceCtorEq, Nat.reduceEqDiff, Nat.reduceLT, Nat.reduceLeDiff, Nat.reduceMul, Nat.reduceAdd, Nat.reduceSub, reduceDIte, Nat.reduceBEq, Nat.reduceBNe, hg]) | (refine siQ ?_)); (try simp (disch := omega) only [w64, wu8]))
 | ((first | refine Wcd rfl (fun h => ?_) fun h => ?_ | refine Wcu rfl (fun h => ?_) ?_ | refine Wcn rfl ?_ fun h => ?_) <;> (try replace h := q0a h) <;> try (exfalso; first | omega | exact absurd h (by decide)))
 | (refine Wlp 2 rfl (ι := Nat) (fun i => mkS [(0, V.d (.sl 6 (l.map q0c))), (1, V.d (.fn 98 [.cp [.s n]])), (7, V.d (.i .i64 (l.length : Int))), (8, V.d (.i .i64 (i : Int)))] ([])) (fun i => i ≤ l.length ∧ ∀ j, j < i → qf9 l n j = 0) (fun i => l.length - i) (0) ?_ ?_ (fun i hi => ?_) <;> (try dsimp only) <;> (try dsimp only at hi))
 | (refine Wnx 2 (i + 1) ?_ ?_ ?_ <;> (try dsimp only))
 | (refine q0j ?_; refine subQ ?_)
 | (subst hK)
 | exact trivial
 all_goals try (intros; assumption)
 all_goals try refine q0w ?_
 all_goals try replace hp := q0a hp
 all_goals try replace hi := q0a hi
 all_goals try (intros; first | trivial | omega)
 all_goals (try (rw [w64 (by omega) (by omega)]; first | done | omega))
 all_goals clear hC
 all_goals first
 | omega
 | (rw [qut hi.2 (by omega) (by assumption)]; done)
 | (rw [quu hi.2 (by omega)]; done)
 | exact qex hi.2 (q2b (by assumption))
end
def cfg74 : Cfg := mkC 8 q8f
theorem qbo6 : cfg74.pins = [] ∧ cfg74.P = Tryz.prog ∧ cfg74.N = 8 ∧ cfg74.T 28 = e28 ∧ cfg74.T 98 = e98 ∧ cfg74.ti = (fun _ => none) ∧ cfg74.mv = fun _ _ => [] := by and_intros <;> exact rfl
section
attribute [local go_sem] qbo6 e28 e98
attribute [local go_sem] qc5 qcl
theorem qb0e (hC : COk cfg74) (l : List Table) (n : ByteArray) (hp : l.length ≤ 1000000) : Sem Tryz.prog 74 [.d (.sl 6 (l.map q0c)), .d (.s n)] (.d (.i .i64 (qbg l n))) := by
 refine q0g (C := cfg74) (rs := [.tmp 4]) (fun _ => []) Tryz.func74 rfl rfl rfl rfl rfl rfl ?_
 refine inQ ?_
 repeat' first
 | (with_reducible first | apply q0n | apply q0d | apply Wsq | apply Wbk | apply Wsk | apply Wex | apply Wrt | apply q0o | apply q0p | apply q0e | apply q0f | refine q0b rfl ?_ | apply q0q | apply q0r | apply And.intro)
 | (with_reducible refine Wrn hC ?_; intro K hK)
 | ((with_reducible first | refine q0u ?_ | refine q0m ?_); refine siQ ?_; (try simp (disch := omega) only [w64, wu8]))
 | ((first | refine Wcd rfl (fun h => ?_) fun h => ?_ | refine Wcu rfl (fun h => ?_) ?_ | refine Wcn rfl ?_ fun h => ?_) <;> (try replace h := q0a h) <;> try (exfalso; first | omega | exact absurd h (by decide)))
 | (refine q0j ?_; refine subQ ?_)
 | (subst hK)
 | exact trivial
 all_goals try (intros; assumption)
 all_goals try refine q0w ?_
 all_goals try replace hp := q0a hp
 all_goals try (intros; first | trivial | omega)
 all_goals (try (rw [w64 (by omega) (by omega)]; first | done | omega))
end
def cfg70 : Cfg := mkC 33 q8g
theorem qbo7 : cfg70.pins = [] ∧ cfg70.P = Tryz.prog ∧ cfg70.N = 33 ∧ cfg70.T 74 = e74 ∧ cfg70.T 97 = e97 ∧ cfg70.ti = (fun _ => none) ∧ cfg70.mv = fun _ _ => [] := by and_intros <;> exact rfl
section
attribute [local go_sem] qbo7 e74 e97
attribute [local go_sem] qc5 qcl
theorem qb0f (hC : COk cfg70) (l : List Table) (hp : okTs l) : Sem Tryz.prog 70 [.d (.sl 6 (l.map q0c))] (.d (.i .i64 (qci l))) := by
 refine q0g (C := cfg70) (rs := [.tmp 2]) (fun _ => []) Tryz.func70 rfl rfl rfl rfl rfl rfl ?_
 refine inQ ?_
 repeat' first
 | (with_reducible first | apply q0n | apply q0d | apply Wsq | apply Wbk | apply Wsk | apply Wex | apply Wrt | apply q0o | apply q0p | apply q0e | apply q0f | refine q0b rfl ?_ | apply q0q | apply q0r | apply And.intro)
 | (refine Wat 5 rfl ?_; have hg : ∀ z, (l.map q0c).getD i z = q0c (l.getD i q0z) := fun z => qfr (by omega) z)
 | (with_reducible first | (refine Whr hC ?_; intro K hK) | (refine Whd hC (by kernel_rfl) ?_; intro K hK))
 | (with_reducible refine Wrn hC ?_; intro K hK)
 | ((with_reducible first | refine q0u ?_ | refine q0m ?_); (first | (simp (maxSteps := 1000000) only [go_sem, ↓reduceIte, reduceCtorEq, Nat.reduceEqDiff, Nat.reduceLT, Nat.reduceLeDiff, Nat.reduceMul, Nat.reduceAdd, Nat.reduceSub, reduceDIte, Nat.reduceBEq, Nat.reduceBNe, hg]) | (refine siQ ?_)); (try simp (disch := omega) only [w64, wu8]))
 | ((first | refine Wcd rfl (fun h => ?_) fun h => ?_ | refine Wcu rfl (fun h => ?_) ?_ | refine Wcn rfl ?_ fun h => ?_) <;> (try replace h := q0a h) <;> try (exfalso; first | omega | exact absurd h (by decide)))
 | (refine Wlp 4 rfl (ι := Nat) (fun i => mkS [(0, V.d (.sl 6 (l.map q0c))), (10, V.d (.sl 6 (l.map q0c))), (11, V.d (.i .i64 (l.length : Int))), (12, V.d (.i .i64 (i : Int)))] ([])) (fun i => i ≤ l.length ∧ l.length ≤ 8 ∧ ∀ j, j < i → tabE l j = 0) (fun i => l.length - i) (0) ?_ ?_ (fun i hi => ?_) <;> (try dsimp only) <;> (try dsimp only at hi))
 | (refine Wnx 4 (i + 1) ?_ ?_ ?_ <;> (try dsimp only))
 | (refine q0j ?_; refine subQ ?_)
 | (subst hK)
 | exact trivial
 all_goals try (intros; assumption)
 all_goals try refine q0w ?_
 all_goals try replace hp := q0a hp
 all_goals try replace hi := q0a hi
 all_goals try (intros; first | trivial | omega)
 all_goals (try (rw [w64 (by omega) (by omega)]; first | done | omega))
 all_goals clear hC
 all_goals first
 | omega
 | exact hp.1
 | exact hp.2 i
 | exact (hp.2 i).1
 | exact (hp.2 i).2.1
 | exact (hp.2 i).2.2
 | (rw [qbbk (by assumption)]; done)
 | (rw [q2c hi.2.1 hi.2.2 (by omega) (by rw [qqy (by assumption)]; assumption), qqy (by assumption)]; done)
 | (rw [q2c hi.2.1 hi.2.2 (by omega) (by rw [qqz (by assumption) (by assumption)]; decide), qqz (by assumption) (by assumption)]; done)
 | (rw [q2d hi.2.1 hi.2.2 (by omega)]; done)
 | exact qex hi.2.2 (qxu (by assumption) (by assumption))
end
def cfg48 : Cfg := mkC 8 q8h
theorem qbo8 : cfg48.pins = [] ∧ cfg48.P = Tryz.prog ∧ cfg48.N = 8 := ⟨rfl, rfl, rfl⟩
section
attribute [local go_sem] qbo8
attribute [local go_sem] qc5 qcl q0h q0v qbk qby qbm qcj qcq
theorem qb0g (hC : COk cfg48) (x : Entry) (n : Int) : Sem Tryz.prog 48 [.d (q0h x), .d (.cp [.i .i64 n])] (.d (.b (decide (x.number ≤ n)))) := by
 refine q0g (C := cfg48) (rs := [.tmp 3]) (fun _ => []) Tryz.func48 rfl rfl rfl rfl rfl rfl ?_
 refine inQ ?_
 repeat' first
 | (with_reducible first | apply q0n | apply q0d | apply Wsq | apply Wbk | apply Wsk | apply Wex | apply Wrt | apply q0o | apply q0p | apply q0e | apply q0f | refine q0b rfl ?_ | apply q0q | apply q0r | apply And.intro)
 | (with_reducible refine Wrn hC ?_; intro K hK)
 | ((with_reducible first | refine q0u ?_ | refine q0m ?_); refine siQ ?_; (try simp (disch := omega) only [w64, wu8]))
 | ((first | refine Wcd rfl (fun h => ?_) fun h => ?_ | refine Wcu rfl (fun h => ?_) ?_ | refine Wcn rfl ?_ fun h => ?_) <;> (try replace h := q0a h) <;> try (exfalso; first | omega | exact absurd h (by decide)))
 | (refine q0j ?_; refine subQ ?_)
 | (subst hK)
 | exact trivial
 all_goals try (intros; assumption)
 all_goals try refine q0w ?_
 all_goals try (intros; first | trivial | omega)
 all_goals (try (rw [w64 (by omega) (by omega)]; first | done | omega))
end
def cfg53 : Cfg := mkC 8 q8i
theorem qbo9 : cfg53.pins = [] ∧ cfg53.P = Tryz.prog ∧ cfg53.N = 8 := ⟨rfl, rfl, rfl⟩
section
attribute [local go_sem] qbo9
attribute [local go_sem] qc5 qcl q0h q0v qbk qby qbm qcj qcq
theorem qb0h (hC : COk cfg53) (x : Entry) (n : Int) : Sem Tryz.prog 53 [.d (q0h x), .d (.cp [.i .i64 n])] (.d (.b (decide (n ≤ x.number)))) := by
 refine q0g (C := cfg53) (rs := [.tmp 3]) (fun _ => []) Tryz.func53 rfl rfl rfl rfl rfl rfl ?_
 refine inQ ?_
 repeat' first
 | (with_reducible first | apply q0n | apply q0d | apply Wsq | apply Wbk | apply Wsk | apply Wex | apply Wrt | apply q0o | apply q0p | apply q0e | apply q0f | refine q0b rfl ?_ | apply q0q | apply q0r | apply And.intro)
 | (with_reducible refine Wrn hC ?_; intro K hK)
 | ((with_reducible first | refine q0u ?_ | refine q0m ?_); refine siQ ?_; (try simp (disch := omega) only [w64, wu8]))
 | ((first | refine Wcd rfl (fun h => ?_) fun h => ?_ | refine Wcu rfl (fun h => ?_) ?_ | refine Wcn rfl ?_ fun h => ?_) <;> (try replace h := q0a h) <;> try (exfalso; first | omega | exact absurd h (by decide)))
 | (refine q0j ?_; refine subQ ?_)
 | (subst hK)
 | exact trivial
 all_goals try (intros; assumption)
 all_goals try refine q0w ?_
 all_goals try (intros; first | trivial | omega)
 all_goals (try (rw [w64 (by omega) (by omega)]; first | done | omega))
end
def cfg45 : Cfg := mkC 23 q8j
theorem qbpa : cfg45.pins = [] ∧ cfg45.P = Tryz.prog ∧ cfg45.N = 23 ∧ cfg45.T 52 = e52 ∧ cfg45.T 70 = e70 ∧ cfg45.ti = (fun _ => none) ∧ cfg45.mv = fun _ _ => [] := by and_intros <;> exact rfl
section
attribute [local go_sem] qbpa e52 e70
attribute [local go_sem] qc5 qcl q0h q0v qbk qby qbm qcj qcq
theorem qb0i (hC : COk cfg45) (ts : List Table) (l : List Entry) (hp : okTs ts ∧ l.length ≤ 1000000) : Sem Tryz.prog 45 [.d (.sl 6 (ts.map q0c)), .d (.sl 8 (l.map q0h))] (.tup [.d (.mp ((chkL ts l).map keyU) ((chkL ts l).map fun u => .cp (qed u))), .d (.i .i64 (chkE ts l))]) := by
 refine q0g (C := cfg45) (rs := [.tmp 4, .tmp 5]) (fun _ => []) Tryz.func45 rfl rfl rfl rfl rfl rfl ?_
 refine inQ ?_
 repeat' first
 | (with_reducible first | apply q0n | apply q0d | apply Wsq | apply Wbk | apply Wsk | apply Wex | apply Wrt | apply q0o | apply q0p | apply q0e | apply q0f | refine q0b rfl ?_ | apply q0q | apply q0r | apply And.intro)
 | (with_reducible refine Wrn hC ?_; intro K hK)
 | ((with_reducible first | refine q0u ?_ | refine q0m ?_); refine siQ ?_; (try simp (disch := omega) only [w64, wu8]))
 | ((first | refine Wcd rfl (fun h => ?_) fun h => ?_ | refine Wcu rfl (fun h => ?_) ?_ | refine Wcn rfl ?_ fun h => ?_) <;> (try replace h := q0a h) <;> try (exfalso; first | omega | exact absurd h (by decide)))
 | (refine q0j ?_; refine subQ ?_)
 | (subst hK)
 | exact trivial
 all_goals try (intros; assumption)
 all_goals try refine q0w ?_
 all_goals try replace hp := q0a hp
 all_goals try (intros; first | trivial | omega)
 all_goals (try (rw [w64 (by omega) (by omega)]; first | done | omega))
 all_goals clear hC
 all_goals first
 | omega
 | exact hp.1
 | exact hp.2
 | (rw [(qp5 (by assumption)).1]; exact q0k _)
 | (rw [(qp5 (by assumption)).1]; rfl)
 | (rw [(qp5 (by assumption)).2]; done)
 | (rw [(qkt (by assumption)).1]; exact q0k _)
 | (rw [(qkt (by assumption)).2]; done)
 | (rw [(qkt (by assumption)).1]; done)
end
def cfg75 : Cfg := ⟨Tryz.prog, 28, (fun _ _ => none), (fun _ _ => []), [0], (fun _ => none)⟩
theorem qbpb : cfg75.pins = [0] ∧ cfg75.P = Tryz.prog ∧ cfg75.N = 28 := ⟨rfl, rfl, rfl⟩
section
attribute [local go_sem] qbpb
attribute [local go_sem] qd0
theorem qb0j (hC : COk cfg75)  (l : List Change) (hp : l.length ≤ 1000000) : SemJ Tryz.prog 75 50 5 (l.map q0s) (l.reverse.map q0s) := by
 refine q8l (C := cfg75) Tryz.func75 rfl rfl (by decide) rfl rfl (qp7 l) (qp7 _) (by simp) ?_
 simp only [qkr, qmq, qhr, inO, inO2, inO1, inOs, List.append_nil, List.nil_append, Nat.mul_zero, List.cons_append, Nat.zero_add, Nat.reduceAdd, Nat.reduceMul, qbi, qbl, qck, qdc, qce, qdr, qd3, qet, Int.toNat_natCast, qdq, qd4, qee, qb9, qc2, qbx, qca, decI, List.length_map, nc0, qbj, qbo, q01, qb7, qdh, qd5, qb1, qb8, qem, qfe, q06, qbz, qcx, qdl, qcb, qcm, qd6, qen, qbt, qdm, qeo, qff, qb3, qbr, qc1, qdj, qcz, qeq, qdk, qc0, qer, qdi, qcy, qep, ← List.map_take, ← List.map_drop, List.length_take, qdd, Int.toNat_zero, Nat.sub_zero, List.drop_zero, q0c, q0y, qdn, qd7, q0s, q0x, q05, qba, qcv, qcw, List.length_set, Nat.le_refl, qd0]
 repeat' first
 | (with_reducible first | apply q0n | apply q0d | apply Wsq | apply Wbk | apply Wsk | apply Wex | apply Wrt | apply q0o | apply q0p | apply q0e | apply q0f | refine q0b rfl ?_ | apply q0q | apply q0r | apply And.intro)
 | (refine Wat 3 rfl ?_; have hj : ((l.length : Int) - 1 - (i : Int)).toNat = l.length - 1 - i := (by omega); have hl := ql7 l q08 i; have hs := qbf4 (l := l) (i := i) (by omega) (by omega))
 | (with_reducible first | (refine Whr hC ?_; intro K hK) | (refine Whd hC (by kernel_rfl) ?_; intro K hK))
 | (with_reducible first | (refine Wrn hC ?_; intro K hK) | (refine Wdr hC (by kernel_rfl) ?_; intro K hK))
 | ((with_reducible first | refine q0u ?_ | refine qbu ?_ | refine q0m ?_); (first | (simp (maxSteps := 1000000) only [go_sem, ↓reduceIte, reduceCtorEq, Nat.reduceEqDiff, Nat.reduceLT, Nat.reduceLeDiff, Nat.reduceMul, Nat.reduceAdd, Nat.reduceSub, reduceDIte, Nat.reduceBEq, Nat.reduceBNe, hj, hl, hs]) | (refine siQ ?_)); (try simp (disch := omega) only [w64, wu8]))
 | (with_reducible refine qbh (by kernel_rfl) ?_)
 | ((first | refine Wcd rfl (fun h => ?_) fun h => ?_ | refine Wcu rfl (fun h => ?_) ?_ | refine Wcn rfl ?_ fun h => ?_) <;> (try replace h := q0a h) <;> try (exfalso; first | omega | exact absurd h (by decide)))
 | (refine Wlp 1 rfl (ι := Nat) (fun i => mkS [(0, V.row 0 5 0 l.length), (2, V.d (.i .i64 (i : Int))), (3, V.d (.i .i64 ((l.length : Int) - 1 - (i : Int))))] ([(0, .live (.row 50 5 false ((qj4 l q08 i).map q0s)))])) (fun i => 2 * i ≤ l.length) (fun i => l.length - 2 * i) (0) ?_ ?_ (fun i hi => ?_) <;> (try dsimp only) <;> (try dsimp only at hi))
 | (refine Wnx 1 (i + 1) ?_ ?_ ?_ <;> (try dsimp only))
 | (refine q0j ?_; refine subQ ?_)
 | (subst hK)
 | exact trivial
 all_goals try (intros; assumption)
 all_goals try refine q0w ?_
 all_goals try replace hp := q0a hp
 all_goals try replace hi := q0a hi
 all_goals try replace hj := q0a hj
 all_goals try (intros; first | trivial | omega)
 all_goals (try (rw [w64 (by omega) (by omega)]; first | done | omega))
 all_goals (try have hl := ql7 l q08 i)
 all_goals first
 | omega
 | exact .inl trivial
 | exact .inl rfl
 | exact .inr rfl
 | exact q0k _
 | exact qhi q8c
 | exact ⟨false, by rw [← qbbn l q08 hi (by omega)]; rfl⟩
end
theorem qbjq (l : List Change) (h : l.length ≤ 1000000) : SemJ Tryz.prog 75 50 5 (l.map q0s) (l.reverse.map q0s) := qb0j (q0t (TabOk.nil _) follows) l h
def cfg47 : Cfg := mkC 43 q8k
theorem qbpc : cfg47.pins = [] ∧ cfg47.P = Tryz.prog ∧ cfg47.N = 43 ∧ cfg47.T 42 = e42 ∧ cfg47.T 48 = e48 ∧ cfg47.T 53 = e53 ∧ cfg47.ti = (fun _ => none) ∧ cfg47.mv = fun _ _ => [] := by and_intros <;> exact rfl
section
attribute [local go_sem] qbpc e42 e48 e53
attribute [local go_sem] qc5 qcl q0h q0v qbk qby qbm qcj qcq qn7 List.length_reverse
theorem qb0k (hC : COk cfg47) (l : List Entry) (back : Bool) (w : Want) (hp : l.length ≤ 1000000) : Sem Tryz.prog 47 [.d (.sl 8 (l.map q0h)), .d (.b back), .d (qn7 w)] (.d (.sl 5 ((qfx w back l).map q0s))) := by
 refine q0g (C := cfg47) (rs := [.tmp 6]) (fun _ => []) Tryz.func47 rfl rfl rfl rfl rfl rfl ?_
 refine inQ ?_
 repeat' first
 | (refine AW.turnJ (id := 112) (qbjq (qfu w back (l.take i)) (by have := qq0 (w := w) (back := back) (l := l) (i := i); omega)) ⟨_, Tryz.func75, rfl, rfl⟩ (qp7 _) (by simp) (qp7 _) rfl rfl rfl rfl rfl rfl (by show _ < 43; decide) (by rw [List.length_map]; rfl) rfl rfl rfl ?_)
 | (with_reducible first | apply q0n | apply q0d | apply Wsq | apply Wbk | apply Wsk | apply Wex | apply Wrt | apply q0o | apply q0p | apply q0e | apply q0f | refine q0b rfl ?_ | apply q0q | apply q0r | apply And.intro)
 | (refine Wat 5 rfl ?_; obtain ⟨up, n⟩ := w; cases up)
 | (with_reducible first | (refine Whr hC ?_; intro K hK) | (refine Whd hC (by kernel_rfl) ?_; intro K hK))
 | (with_reducible refine Wrn hC ?_; intro K hK)
 | ((with_reducible first | refine q0u ?_ | refine q0m ?_); refine siQ ?_; (try simp (disch := omega) only [w64, wu8]))
 | ((first | refine Wcd rfl (fun h => ?_) fun h => ?_ | refine Wcu rfl (fun h => ?_) ?_ | refine Wcn rfl ?_ fun h => ?_) <;> (try replace h := q0a h) <;> try (exfalso; first | omega | exact absurd h (by decide)))
 | (refine Wlp 3 rfl (ι := Nat) (fun i => mkS [(1, V.d (.b back)), (2, V.d (qn7 w)), (7, V.row 112 5 0 (qfu w back (l.take i)).length), (11, V.d (.sl 8 (l.map q0h))), (12, V.d (.i .i64 (l.length : Int))), (13, V.d (.i .i64 (i : Int)))] ([(112, .live (.row 50 5 false ((qfu w back (l.take i)).map q0s)))])) (fun i => i ≤ l.length) (fun i => l.length - i) (0) ?_ ?_ (fun i hi => ?_) <;> (try dsimp only) <;> (try dsimp only at hi))
 | (refine Wnx 3 (i + 1) ?_ ?_ ?_ <;> (try dsimp only))
 | (refine q0j ?_; refine subQ ?_)
 | (subst hK)
 | exact trivial
 all_goals try (intros; assumption)
 all_goals try refine q0w ?_
 all_goals try replace hp := q0a hp
 all_goals try replace hi := q0a hi
 all_goals try (intros; first | trivial | omega)
 all_goals (try (rw [w64 (by omega) (by omega)]; first | done | omega))
 all_goals clear hC
 all_goals first
 | omega
 | (intro d hd; subst hd; exact ⟨rfl, by simp [D.cells, D.one]⟩)
 | (have := qq0 (w := ⟨true, n⟩) (back := back) (l := l) (i := i); omega)
 | (have := qq0 (w := ⟨false, n⟩) (back := back) (l := l) (i := i); omega)
 | exact q0k _
 | (rw [qtm (by omega) (by rw [qq1]; omega)]; done)
 | (rw [qtm (by omega) (by rw [qq1]; omega)]; exact q0k _)
 | (subst h; rw [qq3 (by omega) (by rw [qq1]; omega), List.length_append]; rfl)
 | (subst h; rw [qq3 (by omega) (by rw [qq1]; omega), List.map_append]; exact q0k _)
 | (rw [qtm (by omega) (by rw [qq2]; omega)]; done)
 | (rw [qtm (by omega) (by rw [qq2]; omega)]; exact q0k _)
 | (subst h; rw [qq3 (by omega) (by rw [qq2]; omega), List.length_append]; rfl)
 | (subst h; rw [qq3 (by omega) (by rw [qq2]; omega), List.map_append]; exact q0k _)
 | (subst h; rw [qy7 (by omega)]; exact q0k _)
 | (subst h; rw [qbbl (by omega)]; exact q0k _)
 | (subst h; rw [q8b (by omega)]; exact q0k _)
end
def cfg46 : Cfg := mkC 78 q8m
theorem qbpd : cfg46.pins = [] ∧ cfg46.P = Tryz.prog ∧ cfg46.N = 78 ∧ cfg46.T 30 = e30 ∧ cfg46.T 71 = e71 ∧ cfg46.T 72 = e72 ∧ cfg46.T 73 = e73 ∧ cfg46.T 74 = e74 ∧ cfg46.ti = (fun _ => none) ∧ cfg46.mv = fun _ _ => [] := by and_intros <;> exact rfl
section
attribute [local go_sem] qbpd e30 e71 e72 e73 e74
attribute [local go_sem] qc5 qcl qd0 List.take_length
theorem qb0l (hC : COk cfg46) (ts : List Table) (cs : List Change) (hp : okTs ts ∧ cs.length ≤ 1000000) : Sem Tryz.prog 46 [.d (.sl 6 (ts.map q0c)), .d (.sl 5 (cs.map q0s))] (.tup [.d (.sl 6 ((qc4 ts cs).1.map q0c)), .d (.i .i64 (qc4 ts cs).2.1), .d (.i .i64 (qc4 ts cs).2.2)]) := by
 have hB : ts.length ≤ 1000000 := hp.1.1
 refine q0g (C := cfg46) (rs := [.tmp 4, .tmp 5, .tmp 6]) (fun _ => []) Tryz.func46 rfl rfl rfl rfl rfl rfl ?_
 refine inQ ?_
 repeat' first
 | (with_reducible first | apply q0n | apply q0d | apply Wsq | apply Wbk | apply Wsk | apply Wex | apply Wrt | apply q0o | apply q0p | apply q0e | apply q0f | refine q0b rfl ?_ | apply q0q | apply q0r | apply And.intro)
 | (refine Wat 4 rfl ?_; have hg : ∀ z, (ts.map q0c).getD i z = q0c (ts.getD i q0z) := fun z => qfr (by omega) z)
 | (refine Wat 8 rfl ?_; refine AWh.mk ?_; refine AW.frzBox 144 [.s (ts.getD i q0z).file.name, .s (ts.getD i q0z).file.format.name, .sl 4 ((ts.getD i q0z).file.format.fields.map q01), .sl 2 ((ts.getD i q0z).file.keys.map q06), .b (ts.getD i q0z).file.unique, .sl 2 ((ts.getD i q0z).records.map qbt)] [416, 528, 608] rfl (by simp (maxSteps := 1000000) only [toDs, toD1, go_sem, ↓reduceIte, reduceCtorEq, Nat.reduceEqDiff, Nat.reduceLT, Nat.reduceLeDiff, Nat.reduceMul, Nat.reduceAdd, Nat.reduceSub, reduceDIte, Nat.reduceBEq, Nat.reduceBNe, qbi, qbl, qck, qdc, qce, qdr, qd3, qet, Int.toNat_natCast, qdq, qd4, qee, qb9, qc2, qbx, qca, decI, List.length_map, nc0, qbj, qbo, q01, qb7, qdh, qd5, qb1, qb8, qem, qfe, q06, qbz, qcx, qdl, qcb, qcm, qd6, qen, qbt, qdm, qeo, qff, qb3, qbr, qc1, qdj, qcz, qeq, qdk, qc0, qer, qdi, qcy, qep, ← List.map_take, ← List.map_drop, List.length_take, qdd, Int.toNat_zero, Nat.sub_zero, List.drop_zero, q0c, q0y, qdn, qd7, q0s, q0x, q05, qba, qcv, qcw, List.length_set, Nat.le_refl, qc5, qcl, q0h, q0v, qbk, qby, qbm, qcj, qcq]) rfl rfl ?_; simp only [frzL, HS.frz, List.map_cons, List.map_nil, List.contains_cons, List.contains_nil, List.elem_cons, List.elem_nil, Nat.reduceEqDiff, Nat.reduceBEq, Bool.or_false, Bool.false_or, Bool.or_true, Bool.true_or, ↓reduceIte, Bool.false_eq_true]; refine Wat 8 rfl ?_)
 | (refine Wat 16 rfl ?_; have hb := qhe (mTo ts cs k).1 (cs.getD k q08).file; have hg : ∀ z, ((mTo ts cs k).1.map q0c).getD (qbg (mTo ts cs k).1 (cs.getD k q08).file).toNat z = q0c ((mTo ts cs k).1.getD (qbg (mTo ts cs k).1 (cs.getD k q08).file).toNat q0z) := fun z => qfr (by omega) z)
 | (with_reducible first | (refine Whr hC ?_; intro K hK) | (refine Whd hC (by kernel_rfl) ?_; intro K hK))
 | (with_reducible first | (refine Wrn hC ?_; intro K hK) | (refine Wdr hC (by kernel_rfl) ?_; intro K hK))
 | ((with_reducible first | refine q0u ?_ | refine qbu ?_ | refine q0m ?_); (first | (simp (maxSteps := 1000000) only [go_sem, ↓reduceIte, reduceCtorEq, Nat.reduceEqDiff, Nat.reduceLT, Nat.reduceLeDiff, Nat.reduceMul, Nat.reduceAdd, Nat.reduceSub, reduceDIte, Nat.reduceBEq, Nat.reduceBNe, hg]) | (refine siQ ?_)); (try simp (disch := omega) only [w64, wu8]))
 | (with_reducible refine qbh (by kernel_rfl) ?_)
 | ((first | refine Wcd rfl (fun h => ?_) fun h => ?_ | refine Wcu rfl (fun h => ?_) ?_ | refine Wcn rfl ?_ fun h => ?_) <;> (try replace h := q0a h) <;> try (exfalso; first | omega | exact absurd h (by decide)))
 | (refine Wlp 3 rfl (ι := Nat) (fun i => mkS [(1, V.d (.sl 5 (cs.map q0s))), (7, V.row 112 6 0 (ts.take i).length), (16, V.d (.sl 6 (ts.map q0c))), (17, V.d (.i .i64 (ts.length : Int))), (18, V.d (.i .i64 (i : Int)))] ([(112, .live (.row 69 6 false ((ts.take i).map q0c)))])) (fun i => i ≤ ts.length) (fun i => ts.length - i) (0) ?_ ?_ (fun i hi => ?_) <;> (try dsimp only) <;> (try dsimp only at hi))
 | (refine Wnx 3 (i + 1) ?_ ?_ ?_ <;> (try dsimp only))
 | (refine Wlp 12 rfl (ι := Nat) (fun k => mkS [(7, V.row 112 6 0 (mTo ts cs k).1.length), (10, V.d (.i .i64 (mTo ts cs k).2)), (45, V.d (.sl 5 (cs.map q0s))), (46, V.d (.i .i64 (cs.length : Int))), (47, V.d (.i .i64 (k : Int)))] ([(112, .live (.row 69 6 false ((mTo ts cs k).1.map q0c)))])) (fun k => k ≤ cs.length ∧ ∀ j, j < k → mErr ts cs j = 0) (fun k => cs.length - k) (0) ?_ ?_ (fun k hk => ?_) <;> (try dsimp only) <;> (try dsimp only at hk))
 | (refine Wnx 12 (k + 1) ?_ ?_ ?_ <;> (try dsimp only))
 | (refine q0j ?_; refine subQ ?_)
 | (subst hK)
 | exact trivial
 all_goals try (intros; assumption)
 all_goals try refine q0w ?_
 all_goals try replace hp := q0a hp
 all_goals try replace hi := q0a hi
 all_goals try replace hk := q0a hk
 all_goals try (intros; first | trivial | omega)
 all_goals (try (rw [w64 (by omega) (by omega)]; first | done | omega))
 all_goals clear hC
 all_goals (try have OK := qsi (cs := cs) hp.1 hk.2)
 all_goals (try have CN := qp6 ts cs k)
 all_goals (try have LN := qjj ts cs k)
 all_goals (try simp only [qm5] at *)
 all_goals first
 | omega
 | exact (hp.1.2 i).1
 | exact (hp.1.2 i).2.1
 | exact (hp.1.2 i).2.2
 | exact hp.1.1
 | exact OK.1
 | exact (OK.2 _).1
 | exact (OK.2 _).2.1
 | exact (OK.2 _).2.2
 | (rw [List.take_of_length_le (by omega)]; exact q0k _)
 | (rw [List.take_take, List.take_of_length_le (by omega)]; exact q0k _)
 | (rw [qdx q0z (by omega), List.map_append]; exact q0k _)
 | (intro d hd; subst hd; exact ⟨rfl, by simp [D.cells, D.one]⟩)
 | (rw [qj3 hk.2 (by omega) (by rw [qjk (by omega)]; assumption)]; done)
 | (rw [qj3 hk.2 (by omega) (by rw [qjk (by omega)]; assumption)]; rfl)
 | (rw [qj3 hk.2 (by omega) (by rw [qjk (by omega)]; assumption), qjk (by omega)]; done)
 | exact qex hk.2 (qy8 (by omega))
 | exact qex hk.2 (by rw [qjk (by omega)]; assumption)
 | (have L0 := qjj ts cs 0; have L1 := qjj ts cs (k + 1); omega)
 | (have L0 := qjj ts cs 0; omega)
 | (rw [qq4 (by omega)]; done)
 | (rw [qq4 (by omega)]; exact q0k _)
 | (rw [qlj (by omega)]; done)
 | (rw [qlj (by omega), w64 (by omega) (by omega)]; done)
 | (rw [qlj (by omega), w64 (by omega) (by omega)]; rfl)
 | (rw [qlj (by omega), List.map_set]; exact q0k _)
 | (rw [qhk (by assumption), qlj (by omega), List.map_set]; exact q0k _)
 | (rw [qmx hk.2 (by omega)]; done)
 | (rw [qmx hk.2 (by omega)]; exact q0k _)
end
def cfg19 : Cfg := mkC 53 q8n
theorem qbpe : cfg19.pins = [] ∧ cfg19.P = Tryz.prog ∧ cfg19.N = 53 ∧ cfg19.T 45 = e45 ∧ cfg19.T 46 = e46 ∧ cfg19.T 47 = e47 ∧ cfg19.T 48 = e48 ∧ cfg19.ti = (fun _ => none) ∧ cfg19.mv = fun _ _ => [] := by and_intros <;> exact rfl
section
attribute [local go_sem] qbpe e45 e46 e47 e48
attribute [local go_sem] qc5 qcl q0h q0v qbk qby qbm qcj qcq qn7 qp8
theorem qb0m (hC : COk cfg19) (ts : List Table) (l : List Entry) (n : Int) (hp : okTs ts ∧ l.length ≤ 1000000) : Sem Tryz.prog 19 [.d (.sl 6 (ts.map q0c)), .d (.sl 8 (l.map q0h)), .d (.i .i64 n)] (.tup [.d (.sl 6 ((qgn ts l n).1.map q0c)), .d (.i .i64 (qgn ts l n).2.1), .d (.i .i64 (qgn ts l n).2.2)]) := by
 refine q0g (C := cfg19) (rs := [.tmp 6, .tmp 7, .tmp 8]) (fun _ => []) Tryz.func19 rfl rfl rfl rfl rfl rfl ?_
 refine inQ ?_
 repeat' first
 | (with_reducible first | apply q0n | apply q0d | apply Wsq | apply Wbk | apply Wsk | apply Wex | apply Wrt | apply q0o | apply q0p | apply q0e | apply q0f | refine q0b rfl ?_ | apply q0q | apply q0r | apply And.intro)
 | (refine Wat 6 rfl ?_; have hq := (qjm (ts := ts) (l := l) (by assumption)).2; have h0 := qn8 hq (j := 0) (by omega); have h1 := qn8 hq (j := l.length - 1) (by omega); have hj : ((l.length : Int) - 1).toNat = l.length - 1 := (by omega))
 | (with_reducible first | (refine Whr hC ?_; intro K hK) | (refine Whd hC (by kernel_rfl) ?_; intro K hK))
 | (with_reducible first | (refine Wrn hC ?_; intro K hK) | (refine Wdr hC (by kernel_rfl) ?_; intro K hK))
 | ((with_reducible first | refine q0u ?_ | refine qbu ?_ | refine q0m ?_); (first | (simp (maxSteps := 1000000) only [go_sem, ↓reduceIte, reduceCtorEq, Nat.reduceEqDiff, Nat.reduceLT, Nat.reduceLeDiff, Nat.reduceMul, Nat.reduceAdd, Nat.reduceSub, reduceDIte, Nat.reduceBEq, Nat.reduceBNe, hj]) | (refine siQ ?_)); (try simp (disch := omega) only [w64, wu8]))
 | (with_reducible refine qbh (by kernel_rfl) ?_)
 | ((first | refine Wcd rfl (fun h => ?_) fun h => ?_ | refine Wcu rfl (fun h => ?_) ?_ | refine Wcn rfl ?_ fun h => ?_) <;> (try replace h := q0a h) <;> try (exfalso; first | omega | exact absurd h (by decide)))
 | (refine q0j ?_; refine subQ ?_)
 | (subst hK)
 | exact trivial
 all_goals try (intros; assumption)
 all_goals try refine q0w ?_
 all_goals try replace hp := q0a hp
 all_goals try replace hj := q0a hj
 all_goals try (intros; first | trivial | omega)
 all_goals (try (rw [w64 (by omega) (by omega)]; first | done | omega))
 all_goals clear hC
 all_goals (try have ES := qsj (l := l) (by omega))
 all_goals (try have EN := qsk (l := l) (by omega))
 all_goals first
 | omega
 | exact hp.1
 | exact hp.2
 | exact hp.1.1
 | (rw [qnj (by assumption)]; done)
 | (rw [qnj (by assumption)]; rfl)
 | (rw [qnj (by assumption)]; exact q0k _)
 | (rw [qpb (by assumption) (by omega)]; done)
 | (rw [qpb (by assumption) (by omega)]; rfl)
 | (rw [qpb (by assumption) (by omega)]; exact q0k _)
 | (rw [qq5 (by assumption) (by omega)]; done)
 | (rw [qq5 (by assumption) (by omega)]; exact q0k _)
 | (have := qja ⟨true, n⟩ false l; omega)
 | (have := qja ⟨false, n⟩ true l; omega)
end
end
end Go.Ev
