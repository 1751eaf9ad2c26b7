/- Tools and contracts under the laws of this seat: Drc27 to Drc8. -/
import Derived.Test.YtblpebplbdoneaaGreatE09
set_option linter.unusedVariables false
set_option linter.unusedSimpArgs false
namespace Go.Ev
noncomputable section
open Go.Proofs Ty
set_option maxRecDepth 10000
set_option maxHeartbeats 4000000
attribute [local go_sem] qbi qbl qck qdc qce qdr qd3 qet Int.toNat_natCast qdq qd4 qee qb9 qc2 qbx qca decI List.length_map nc0 qbj qbo q01 qb7 qdh qd5 qb1 qb8 qem qfe q06 qbz qcx qdl qcb qcm qd6 qen qbt qdm qeo qff qb3 qbr qc1 qdj qcz qeq qdk qc0 qer qdi qcy qep List.length_take qdd Int.toNat_zero Nat.sub_zero List.drop_zero q0c q0y qdn qd7 q0s q0x q05 qba qcv qcw List.length_set Nat.le_refl
attribute [local go_sem ←] List.map_take List.map_drop
def cfg27 : Cfg := mkC 53 q8o
theorem qbpf : cfg27.pins = [] ∧ cfg27.P = Tryz.prog ∧ cfg27.N = 53 ∧ cfg27.T 45 = e45 ∧ cfg27.T 46 = e46 ∧ cfg27.T 47 = e47 ∧ cfg27.T 53 = e53 ∧ cfg27.ti = (fun _ => none) ∧ cfg27.mv = fun _ _ => [] := by and_intros <;> exact rfl
section
attribute [local go_sem] qbpf e45 e46 e47 e53
attribute [local go_sem] qc5 qcl q0h q0v qbk qby qbm qcj qcq qn7 qp8
theorem qb0n (hC : COk cfg27) (ts : List Table) (l : List Entry) (n : Int) (hp : okTs ts ∧ l.length ≤ 1000000) : Sem Tryz.prog 27 [.d (.sl 6 (ts.map q0c)), .d (.sl 8 (l.map q0h)), .d (.i .i64 n)] (.tup [.d (.sl 6 ((qfb ts l n).1.map q0c)), .d (.i .i64 (qfb ts l n).2.1), .d (.i .i64 (qfb ts l n).2.2)]) := by
 refine q0g (C := cfg27) (rs := [.tmp 6, .tmp 7, .tmp 8]) (fun _ => []) Tryz.func27 rfl rfl rfl rfl rfl rfl ?_
 refine inQ ?_
 repeat' first
 | (with_reducible first | apply q0n | apply q0d | apply Wsq | apply Wbk | apply Wsk | apply Wex | apply Wrt | apply q0o | apply q0p | apply q0e | apply q0f | refine q0b rfl ?_ | apply q0q | apply q0r | apply And.intro)
 | (refine Wat 6 rfl ?_; have hq := (qjm (ts := ts) (l := l) (by assumption)).2; have h0 := qn8 hq (j := 0) (by omega); have h1 := qn8 hq (j := l.length - 1) (by omega); have hj : ((l.length : Int) - 1).toNat = l.length - 1 := (by omega))
 | (with_reducible first | (refine Whr hC ?_; intro K hK) | (refine Whd hC (by kernel_rfl) ?_; intro K hK))
 | (with_reducible first | (refine Wrn hC ?_; intro K hK) | (refine Wdr hC (by kernel_rfl) ?_; intro K hK))
 | ((with_reducible first | refine q0u ?_ | refine qbu ?_ | refine q0m ?_); (first | (simp (maxSteps := 1000000) only [go_sem, ↓reduceIte, reduceCtorEq, Nat.reduceEqDiff, Nat.reduceLT, Nat.reduceLeDiff, Nat.reduceMul, Nat.reduceAdd, Nat.reduceSub, reduceDIte, Nat.reduceBEq, Nat.reduceBNe, hj]) | (refine siQ ?_)); (try simp (disch := omega) only [w64, wu8]))
 | (with_reducible refine qbh (by kernel_rfl) ?_)
 | ((first | refine Wcd rfl (fun h => ?_) fun h => ?_ | refine Wcu rfl (fun h => ?_) ?_ | refine Wcn rfl ?_ fun h => ?_) <;> (try replace h := q0a h) <;> try (exfalso; first | omega | exact absurd h (by decide)))
 | (refine q0j ?_; refine subQ ?_)
 | (subst hK)
 | exact trivial
 all_goals try (intros; assumption)
 all_goals try refine q0w ?_
 all_goals try replace hp := q0a hp
 all_goals try replace hj := q0a hj
 all_goals try (intros; first | trivial | omega)
 all_goals (try (rw [w64 (by omega) (by omega)]; first | done | omega))
 all_goals clear hC
 all_goals (try have ES := qsj (l := l) (by omega))
 all_goals (try have EN := qsk (l := l) (by omega))
 all_goals first
 | omega
 | exact hp.1
 | exact hp.2
 | exact hp.1.1
 | (rw [qk3 (by assumption)]; done)
 | (rw [qk3 (by assumption)]; rfl)
 | (rw [qk3 (by assumption)]; exact q0k _)
 | (rw [qk4 (by assumption) (by omega)]; done)
 | (rw [qk4 (by assumption) (by omega)]; rfl)
 | (rw [qk4 (by assumption) (by omega)]; exact q0k _)
 | (rw [qnk (by assumption) (by omega)]; done)
 | (rw [qnk (by assumption) (by omega)]; exact q0k _)
 | (have := qja ⟨true, n⟩ false l; omega)
 | (have := qja ⟨false, n⟩ true l; omega)
end
def cfg88 : Cfg := mkC 9 q8p
theorem qbpg : cfg88.pins = [] ∧ cfg88.P = Tryz.prog ∧ cfg88.N = 9 := ⟨rfl, rfl, rfl⟩
section
attribute [local go_sem] qbpg
theorem qb0o (hC : COk cfg88) (f : Fmt) (hp : f.fields.length ≤ 1000000) : Sem Tryz.prog 88 [.d (qb1 f)] (.d (qb1 f)) := by
 refine q0g (C := cfg88) (rs := [.cell 2 63]) (fun _ => []) Tryz.func88 rfl rfl rfl rfl rfl rfl ?_
 refine inQ ?_
 repeat' first
 | (with_reducible first | apply q0n | apply q0d | apply Wsq | apply Wbk | apply Wsk | apply Wex | apply Wrt | apply q0o | apply q0p | apply q0e | apply q0f | refine q0b rfl ?_ | apply q0q | apply q0r | apply And.intro)
 | (with_reducible first | (refine Wrn hC ?_; intro K hK) | (refine Wdr hC (by kernel_rfl) ?_; intro K hK))
 | ((with_reducible first | refine q0u ?_ | refine qbu ?_ | refine q0m ?_); refine siQ ?_; (try simp (disch := omega) only [w64, wu8]))
 | (with_reducible refine qbh (by kernel_rfl) ?_)
 | ((first | refine Wcd rfl (fun h => ?_) fun h => ?_ | refine Wcu rfl (fun h => ?_) ?_ | refine Wcn rfl ?_ fun h => ?_) <;> (try replace h := q0a h) <;> try (exfalso; first | omega | exact absurd h (by decide)))
 | (refine q0j ?_; refine subQ ?_)
 | (subst hK)
 | exact trivial
 all_goals try (intros; assumption)
 all_goals try refine q0w ?_
 all_goals try replace hp := q0a hp
 all_goals try (intros; first | trivial | omega)
 all_goals (try (rw [w64 (by omega) (by omega)]; first | done | omega))
 all_goals clear hC
 all_goals first | omega | (simp_all [dles]; done) | exact q0k _
end
def cfg56 : Cfg := mkC 14 q8q
theorem qbph : cfg56.pins = [] ∧ cfg56.P = Tryz.prog ∧ cfg56.N = 14 ∧ cfg56.ti 88 = none ∧ cfg56.T 88 = e88 ∧ cfg56.mv 88 = (fun _ => []) := by and_intros <;> exact rfl
section
attribute [local go_sem] qbph e88
theorem qb0p (hC : COk cfg56) (f : File) (hp : f.format.fields.length ≤ 1000000 ∧ f.keys.length ≤ 1000000) : Sem Tryz.prog 56 [.d (qcb f)] (.d (qcb f)) := by
 refine q0g (C := cfg56) (rs := [.cell 2 66]) (fun _ => []) Tryz.func56 rfl rfl rfl rfl rfl rfl ?_
 refine inQ ?_
 repeat' first
 | (with_reducible first | apply q0n | apply q0d | apply Wsq | apply Wbk | apply Wsk | apply Wex | apply Wrt | apply q0o | apply q0p | apply q0e | apply q0f | refine q0b rfl ?_ | apply q0q | apply q0r | apply And.intro)
 | (with_reducible first | (refine Wrn hC ?_; intro K hK) | (refine Wdr hC (by kernel_rfl) ?_; intro K hK))
 | ((with_reducible first | refine q0u ?_ | refine qbu ?_ | refine q0m ?_); refine siQ ?_; (try simp (disch := omega) only [w64, wu8]))
 | (with_reducible refine qbh (by kernel_rfl) ?_)
 | ((first | refine Wcd rfl (fun h => ?_) fun h => ?_ | refine Wcu rfl (fun h => ?_) ?_ | refine Wcn rfl ?_ fun h => ?_) <;> (try replace h := q0a h) <;> try (exfalso; first | omega | exact absurd h (by decide)))
 | (refine q0j ?_; refine subQ ?_)
 | (subst hK)
 | exact trivial
 all_goals try (intros; assumption)
 all_goals try refine q0w ?_
 all_goals try replace hp := q0a hp
 all_goals try (intros; first | trivial | omega)
 all_goals (try (rw [w64 (by omega) (by omega)]; first | done | omega))
 all_goals clear hC
 all_goals first | omega | (simp_all [dles]; done) | exact q0k _
end
def cfg31 : Cfg := mkC 10 q8r
theorem qbpi : cfg31.pins = [] ∧ cfg31.P = Tryz.prog ∧ cfg31.N = 10 ∧ cfg31.ti 56 = none ∧ cfg31.T 56 = e56 ∧ cfg31.mv 56 = (fun _ => []) := by and_intros <;> exact rfl
section
attribute [local go_sem] qbpi e56
theorem qb0q (hC : COk cfg31) (t : Table) (hp : (t.file.format.fields.length ≤ 1000000 ∧ t.file.keys.length ≤ 1000000 ∧ t.records.length ≤ 1000000)) : Sem Tryz.prog 31 [.d (q0c t)] (.d (q0c t)) := by
 refine q0g (C := cfg31) (rs := [.cell 2 69]) (fun _ => []) Tryz.func31 rfl rfl rfl rfl rfl rfl ?_
 refine inQ ?_
 repeat' first
 | (with_reducible first | apply q0n | apply q0d | apply Wsq | apply Wbk | apply Wsk | apply Wex | apply Wrt | apply q0o | apply q0p | apply q0e | apply q0f | refine q0b rfl ?_ | apply q0q | apply q0r | apply And.intro)
 | (with_reducible first | (refine Wrn hC ?_; intro K hK) | (refine Wdr hC (by kernel_rfl) ?_; intro K hK))
 | ((with_reducible first | refine q0u ?_ | refine qbu ?_ | refine q0m ?_); refine siQ ?_; (try simp (disch := omega) only [w64, wu8]))
 | (with_reducible refine qbh (by kernel_rfl) ?_)
 | ((first | refine Wcd rfl (fun h => ?_) fun h => ?_ | refine Wcu rfl (fun h => ?_) ?_ | refine Wcn rfl ?_ fun h => ?_) <;> (try replace h := q0a h) <;> try (exfalso; first | omega | exact absurd h (by decide)))
 | (refine q0j ?_; refine subQ ?_)
 | (subst hK)
 | exact trivial
 all_goals try (intros; assumption)
 all_goals try refine q0w ?_
 all_goals try replace hp := q0a hp
 all_goals try (intros; first | trivial | omega)
 all_goals (try (rw [w64 (by omega) (by omega)]; first | done | omega))
 all_goals clear hC
 all_goals first | omega | (simp_all [dles]; done) | exact q0k _
end
def cfg12 : Cfg := mkC 20 q8s
theorem qbpj : cfg12.pins = [] ∧ cfg12.P = Tryz.prog ∧ cfg12.N = 20 ∧ cfg12.ti 31 = none ∧ cfg12.T 31 = e31 ∧ cfg12.mv 31 = (fun _ => []) := by and_intros <;> exact rfl
section
attribute [local go_sem] qbpj e31
attribute [local go_sem] qc5 qcl List.take_length
theorem qb0r (hC : COk cfg12) (ts : List Table) (hp : okTs ts) : Sem Tryz.prog 12 [.d (.sl 6 (ts.map q0c))] (.own 69 6 (ts.map q0c)) := by
 have hB : ts.length ≤ 1000000 := hp.1
 refine q0g (C := cfg12) (rs := [.tmp 2]) (fun _ => [(0, 69, 6)]) Tryz.func12 rfl rfl rfl rfl rfl rfl ?_
 refine inQ ?_
 repeat' first
 | (with_reducible first | apply q0n | apply q0d | apply Wsq | apply Wbk | apply Wsk | apply Wex | apply Wrt | apply q0o | apply q0p | apply q0e | apply q0f | refine q0b rfl ?_ | apply q0q | apply q0r | apply And.intro)
 | (refine Wat 5 rfl ?_; have hg : ∀ z, (ts.map q0c).getD i z = q0c (ts.getD i q0z) := fun z => qfr (by omega) z)
 | (with_reducible first | (refine Whr hC ?_; intro K hK) | (refine Whd hC (by kernel_rfl) ?_; intro K hK))
 | (with_reducible refine Wrn hC ?_; intro K hK)
 | ((with_reducible first | refine q0u ?_ | refine q0m ?_); (first | (simp (maxSteps := 1000000) only [go_sem, ↓reduceIte, reduceCtorEq, Nat.reduceEqDiff, Nat.reduceLT, Nat.reduceLeDiff, Nat.reduceMul, Nat.reduceAdd, Nat.reduceSub, reduceDIte, Nat.reduceBEq, Nat.reduceBNe, hg]) | (refine siQ ?_)); (try simp (disch := omega) only [w64, wu8]))
 | ((first | refine Wcd rfl (fun h => ?_) fun h => ?_ | refine Wcu rfl (fun h => ?_) ?_ | refine Wcn rfl ?_ fun h => ?_) <;> (try replace h := q0a h) <;> try (exfalso; first | omega | exact absurd h (by decide)))
 | (refine Wlp 3 rfl (ι := Nat) (fun i => mkS [(0, V.d (.sl 6 (ts.map q0c))), (3, V.row 48 6 0 (ts.take i).length), (4, V.d (.i .i64 (i : Int)))] ([(48, .live (.row 69 6 false ((ts.take i).map q0c)))])) (fun i => i ≤ ts.length) (fun i => ts.length - i) (0) ?_ ?_ (fun i hi => ?_) <;> (try dsimp only) <;> (try dsimp only at hi))
 | (refine Wnx 3 (i + 1) ?_ ?_ ?_ <;> (try dsimp only))
 | (refine q0j ?_; refine subQ ?_)
 | (subst hK)
 | exact trivial
 all_goals try (intros; assumption)
 all_goals try refine q0w ?_
 all_goals try replace hp := q0a hp
 all_goals try replace hi := q0a hi
 all_goals try (intros; first | trivial | omega)
 all_goals (try (rw [w64 (by omega) (by omega)]; first | done | omega))
 all_goals clear hC
 all_goals first
 | omega
 | exact (hp.2 i).1
 | exact (hp.2 i).2.1
 | exact (hp.2 i).2.2
 | (intro d hd; subst hd; exact ⟨rfl, by simp [D.cells, D.one]⟩)
 | (rw [qdx q0z (by omega), List.map_append]; exact q0k _)
 | (rw [List.take_of_length_le (by omega)]; exact q0k _)
 | (rw [List.take_take, List.take_of_length_le (by omega)]; exact q0k _)
end
def cfg64 : Cfg := mkC 26 q8t
theorem qbpk : cfg64.pins = [] ∧ cfg64.P = Tryz.prog ∧ cfg64.N = 26 := ⟨rfl, rfl, rfl⟩
section
attribute [local go_sem] qbpk
theorem qb0s (hC : COk cfg64) (a : List Rec) (b : List Rec) (hp : a.length ≤ 1000000) : Sem Tryz.prog 64 [.d (.sl 2 (a.map qbt)), .d (.sl 2 (b.map qbt))] (.d (.b (decide (a = b)))) := by
 refine q0g (C := cfg64) (rs := [.tmp 4]) (fun _ => []) Tryz.func64 rfl rfl rfl rfl rfl rfl ?_
 refine inQ ?_
 repeat' first
 | (with_reducible first | apply q0n | apply q0d | apply Wsq | apply Wbk | apply Wsk | apply Wex | apply Wrt | apply q0o | apply q0p | apply q0e | apply q0f | refine q0b rfl ?_ | apply q0q | apply q0r | apply And.intro)
 | (with_reducible first | (refine Wrn hC ?_; intro K hK) | (refine Wdr hC (by kernel_rfl) ?_; intro K hK))
 | ((with_reducible first | refine q0u ?_ | refine qbu ?_ | refine q0m ?_); refine siQ ?_; (try simp (disch := omega) only [w64, wu8]))
 | (with_reducible refine qbh (by kernel_rfl) ?_)
 | ((first | refine Wcd rfl (fun h => ?_) fun h => ?_ | refine Wcu rfl (fun h => ?_) ?_ | refine Wcn rfl ?_ fun h => ?_) <;> (try replace h := q0a h) <;> try (exfalso; first | omega | exact absurd h (by decide)))
 | (refine Wlp 4 rfl (ι := Nat) (fun i => mkS [(0, V.d (.sl 2 (a.map qbt))), (1, V.d (.sl 2 (b.map qbt))), (5, V.d (.i .i64 (i : Int)))] ([])) (fun i => i ≤ a.length ∧ a.length = b.length ∧ a.take i = b.take i) (fun i => a.length - i) (0) ?_ ?_ (fun i hi => ?_) <;> (try dsimp only) <;> (try dsimp only at hi))
 | (refine Wnx 4 (i + 1) ?_ ?_ ?_ <;> (try dsimp only))
 | (refine q0j ?_; refine subQ ?_)
 | (subst hK)
 | exact trivial
 all_goals try (intros; assumption)
 all_goals try refine q0w ?_
 all_goals try replace hp := q0a hp
 all_goals try replace hi := q0a hi
 all_goals try (intros; first | trivial | omega)
 all_goals (try (rw [w64 (by omega) (by omega)]; first | done | omega))
 all_goals clear hC
 all_goals first
 | rfl
 | omega
 | (intro e; subst e; exact h rfl)
 | (intro e; subst e; simp at h; done)
 | (intro e; rw [e] at h; simp at h; done)
 | exact qda hi.2.2 (by omega) (by omega)
 | exact qih hi.2.2 (by omega) (by omega) (by assumption)
 | (simp only [decide_eq_true_eq]; exact qda hi.2.2 (by omega) (by omega))
 | exact h.1
 | exact h.1.1.1
 | exact h.1.1.2
 | exact h.1.2
 | exact hi.2.1.1
 | exact hi.2.1.2.1
 | exact hi.2.1.2.2.1
 | exact qsl hi.2.1.1 (qda hi.2.2 (by omega) (by omega))
 | exact qp9 hi.2.1.1 hi.2.1.2.1 hi.2.1.2.2.1 (qda hi.2.2 (by omega) (by omega))
 | exact hp.1
 | exact hp.2.1
 | exact fun _ => hp.2.2
 | exact qnl a b
end
def cfg93 : Cfg := mkC 38 q8u
theorem qbpl : cfg93.pins = [] ∧ cfg93.P = Tryz.prog ∧ cfg93.N = 38 := ⟨rfl, rfl, rfl⟩
section
attribute [local go_sem] qbpl
theorem qb0t (hC : COk cfg93) (a : Fmt) (b : Fmt) (hp : a.fields.length ≤ 1000000) : Sem Tryz.prog 93 [.d (qb1 a), .d (qb1 b)] (.d (.b (decide (a = b)))) := by
 refine q0g (C := cfg93) (rs := [.tmp 4]) (fun _ => []) Tryz.func93 rfl rfl rfl rfl rfl rfl ?_
 refine inQ ?_
 repeat' first
 | (with_reducible first | apply q0n | apply q0d | apply Wsq | apply Wbk | apply Wsk | apply Wex | apply Wrt | apply q0o | apply q0p | apply q0e | apply q0f | refine q0b rfl ?_ | apply q0q | apply q0r | apply And.intro)
 | (with_reducible first | (refine Wrn hC ?_; intro K hK) | (refine Wdr hC (by kernel_rfl) ?_; intro K hK))
 | ((with_reducible first | refine q0u ?_ | refine qbu ?_ | refine q0m ?_); refine siQ ?_; (try simp (disch := omega) only [w64, wu8]))
 | (with_reducible refine qbh (by kernel_rfl) ?_)
 | ((first | refine Wcd rfl (fun h => ?_) fun h => ?_ | refine Wcu rfl (fun h => ?_) ?_ | refine Wcn rfl ?_ fun h => ?_) <;> (try replace h := q0a h) <;> try (exfalso; first | omega | exact absurd h (by decide)))
 | (refine Wlp 4 rfl (ι := Nat) (fun i => mkS [(2, V.ptr 32 0), (3, V.ptr 48 0), (5, V.d (.i .i64 (i : Int)))] ([(32, .live (.box 63 [.d (.s a.name), .d (.sl 4 (a.fields.map q01))])), (48, .live (.box 63 [.d (.s b.name), .d (.sl 4 (b.fields.map q01))]))])) (fun i => i ≤ a.fields.length ∧ (a.name = b.name ∧ a.fields.length = b.fields.length) ∧ a.fields.take i = b.fields.take i) (fun i => a.fields.length - i) (0) ?_ ?_ (fun i hi => ?_) <;> (try dsimp only) <;> (try dsimp only at hi))
 | (refine Wnx 4 (i + 1) ?_ ?_ ?_ <;> (try dsimp only))
 | (refine q0j ?_; refine subQ ?_)
 | (subst hK)
 | exact trivial
 all_goals try (intros; assumption)
 all_goals try refine q0w ?_
 all_goals try replace hp := q0a hp
 all_goals try replace hi := q0a hi
 all_goals try (intros; first | trivial | omega)
 all_goals (try (rw [w64 (by omega) (by omega)]; first | done | omega))
 all_goals clear hC
 all_goals first
 | rfl
 | omega
 | (intro e; subst e; exact h rfl)
 | (intro e; subst e; simp at h; done)
 | (intro e; rw [e] at h; simp at h; done)
 | exact qda hi.2.2 (by omega) (by omega)
 | exact qih hi.2.2 (by omega) (by omega) (by assumption)
 | (simp only [decide_eq_true_eq]; exact qda hi.2.2 (by omega) (by omega))
 | exact h.1
 | exact h.1.1.1
 | exact h.1.1.2
 | exact h.1.2
 | exact hi.2.1.1
 | exact hi.2.1.2.1
 | exact hi.2.1.2.2.1
 | exact qsl hi.2.1.1 (qda hi.2.2 (by omega) (by omega))
 | exact qp9 hi.2.1.1 hi.2.1.2.1 hi.2.1.2.2.1 (qda hi.2.2 (by omega) (by omega))
 | exact hp.1
 | exact hp.2.1
 | exact fun _ => hp.2.2
 | exact qnl a b
end
def cfg63 : Cfg := mkC 53 q8v
theorem qbpm : cfg63.pins = [] ∧ cfg63.P = Tryz.prog ∧ cfg63.N = 53 ∧ cfg63.ti 93 = none ∧ cfg63.T 93 = e93 ∧ cfg63.mv 93 = (fun _ => []) := by and_intros <;> exact rfl
section
attribute [local go_sem] qbpm e93
theorem qb0u (hC : COk cfg63) (a : File) (b : File) (hp : a.format.fields.length ≤ 1000000 ∧ a.keys.length ≤ 1000000) : Sem Tryz.prog 63 [.d (qcb a), .d (qcb b)] (.d (.b (decide (a = b)))) := by
 refine q0g (C := cfg63) (rs := [.tmp 4]) (fun _ => []) Tryz.func63 rfl rfl rfl rfl rfl rfl ?_
 refine inQ ?_
 repeat' first
 | (with_reducible first | apply q0n | apply q0d | apply Wsq | apply Wbk | apply Wsk | apply Wex | apply Wrt | apply q0o | apply q0p | apply q0e | apply q0f | refine q0b rfl ?_ | apply q0q | apply q0r | apply And.intro)
 | (with_reducible first | (refine Wrn hC ?_; intro K hK) | (refine Wdr hC (by kernel_rfl) ?_; intro K hK))
 | ((with_reducible first | refine q0u ?_ | refine qbu ?_ | refine q0m ?_); refine siQ ?_; (try simp (disch := omega) only [w64, wu8]))
 | (with_reducible refine qbh (by kernel_rfl) ?_)
 | ((first | refine Wcd rfl (fun h => ?_) fun h => ?_ | refine Wcu rfl (fun h => ?_) ?_ | refine Wcn rfl ?_ fun h => ?_) <;> (try replace h := q0a h) <;> try (exfalso; first | omega | exact absurd h (by decide)))
 | (refine Wlp 4 rfl (ι := Nat) (fun i => mkS [(2, V.ptr 32 0), (3, V.ptr 48 0), (5, V.d (.i .i64 (i : Int)))] ([(32, .live (.box 66 [.d (.s a.name), .d (.s a.format.name), .d (.sl 4 (a.format.fields.map q01)), .d (.sl 2 (a.keys.map q06)), .d (.b a.unique)])), (48, .live (.box 66 [.d (.s b.name), .d (.s b.format.name), .d (.sl 4 (b.format.fields.map q01)), .d (.sl 2 (b.keys.map q06)), .d (.b b.unique)]))])) (fun i => i ≤ a.keys.length ∧ (a.name = b.name ∧ a.unique = b.unique ∧ a.format = b.format ∧ a.keys.length = b.keys.length) ∧ a.keys.take i = b.keys.take i) (fun i => a.keys.length - i) (0) ?_ ?_ (fun i hi => ?_) <;> (try dsimp only) <;> (try dsimp only at hi))
 | (refine Wnx 4 (i + 1) ?_ ?_ ?_ <;> (try dsimp only))
 | (refine q0j ?_; refine subQ ?_)
 | (subst hK)
 | exact trivial
 all_goals try (intros; assumption)
 all_goals try refine q0w ?_
 all_goals try replace hp := q0a hp
 all_goals try replace hi := q0a hi
 all_goals try (intros; first | trivial | omega)
 all_goals (try (rw [w64 (by omega) (by omega)]; first | done | omega))
 all_goals clear hC
 all_goals first
 | rfl
 | omega
 | (intro e; subst e; exact h rfl)
 | (intro e; subst e; simp at h; done)
 | (intro e; rw [e] at h; simp at h; done)
 | exact qda hi.2.2 (by omega) (by omega)
 | exact qih hi.2.2 (by omega) (by omega) (by assumption)
 | (simp only [decide_eq_true_eq]; exact qda hi.2.2 (by omega) (by omega))
 | exact h.1
 | exact h.1.1.1
 | exact h.1.1.2
 | exact h.1.2
 | exact hi.2.1.1
 | exact hi.2.1.2.1
 | exact hi.2.1.2.2.1
 | exact qsl hi.2.1.1 (qda hi.2.2 (by omega) (by omega))
 | exact qp9 hi.2.1.1 hi.2.1.2.1 hi.2.1.2.2.1 (qda hi.2.2 (by omega) (by omega))
 | exact hp.1
 | exact hp.2.1
 | exact fun _ => hp.2.2
 | exact qnl a b
end
def cfg38 : Cfg := mkC 17 q8w
theorem qbpn : cfg38.pins = [] ∧ cfg38.P = Tryz.prog ∧ cfg38.N = 17 ∧ cfg38.T 63 = e63 ∧ cfg38.T 64 = e64 ∧ cfg38.ti = (fun _ => none) ∧ cfg38.mv = fun _ _ => [] := by and_intros <;> exact rfl
section
attribute [local go_sem] qbpn e63 e64
theorem qb0v (hC : COk cfg38) (a : Table) (b : Table) (hp : okT a) : Sem Tryz.prog 38 [.d (q0c a), .d (q0c b)] (.d (.b (decide (a = b)))) := by
 refine q0g (C := cfg38) (rs := [.tmp 4]) (fun _ => []) Tryz.func38 rfl rfl rfl rfl rfl rfl ?_
 refine inQ ?_
 repeat' first
 | (with_reducible first | apply q0n | apply q0d | apply Wsq | apply Wbk | apply Wsk | apply Wex | apply Wrt | apply q0o | apply q0p | apply q0e | apply q0f | refine q0b rfl ?_ | apply q0q | apply q0r | apply And.intro)
 | (with_reducible refine Wrn hC ?_; intro K hK)
 | ((with_reducible first | refine q0u ?_ | refine q0m ?_); refine siQ ?_; (try simp (disch := omega) only [w64, wu8]))
 | ((first | refine Wcd rfl (fun h => ?_) fun h => ?_ | refine Wcu rfl (fun h => ?_) ?_ | refine Wcn rfl ?_ fun h => ?_) <;> (try replace h := q0a h) <;> try (exfalso; first | omega | exact absurd h (by decide)))
 | (refine q0j ?_; refine subQ ?_)
 | (subst hK)
 | exact trivial
 all_goals try (intros; assumption)
 all_goals try refine q0w ?_
 all_goals try replace hp := q0a hp
 all_goals try replace hi := q0a hi
 all_goals try (intros; first | trivial | omega)
 all_goals (try (rw [w64 (by omega) (by omega)]; first | done | omega))
 all_goals clear hC
 all_goals first
 | rfl
 | omega
 | (intro e; subst e; exact h rfl)
 | (intro e; subst e; simp at h; done)
 | (intro e; rw [e] at h; simp at h; done)
 | exact qda hi.2.2 (by omega) (by omega)
 | exact qih hi.2.2 (by omega) (by omega) (by assumption)
 | (simp only [decide_eq_true_eq]; exact qda hi.2.2 (by omega) (by omega))
 | exact h.1
 | exact h.1.1.1
 | exact h.1.1.2
 | exact h.1.2
 | exact hi.2.1.1
 | exact hi.2.1.2.1
 | exact hi.2.1.2.2.1
 | exact qsl hi.2.1.1 (qda hi.2.2 (by omega) (by omega))
 | exact qp9 hi.2.1.1 hi.2.1.2.1 hi.2.1.2.2.1 (qda hi.2.2 (by omega) (by omega))
 | exact hp.1
 | exact hp.2.1
 | exact fun _ => hp.2.2
 | exact qnl a b
end
def cfg23 : Cfg := mkC 7 q8x
theorem qbpo : cfg23.pins = [] ∧ cfg23.P = Tryz.prog ∧ cfg23.N = 7 := ⟨rfl, rfl, rfl⟩
section
attribute [local go_sem] qbpo
theorem qb0w (hC : COk cfg23) (f : Fmt) : Sem Tryz.prog 23 [.d (qb1 f)] (.d (.b (decide ((f.fields.length : Int) ≤ 22)))) := by
 refine q0g (C := cfg23) (rs := [.tmp 2]) (fun _ => []) Tryz.func23 rfl rfl rfl rfl rfl rfl ?_
 refine inQ ?_
 repeat' first
 | (with_reducible first | apply q0n | apply q0d | apply Wsq | apply Wbk | apply Wsk | apply Wex | apply Wrt | apply q0o | apply q0p | apply q0e | apply q0f | refine q0b rfl ?_ | apply q0q | apply q0r | apply And.intro)
 | (with_reducible refine Wrn hC ?_; intro K hK)
 | ((with_reducible first | refine q0u ?_ | refine q0m ?_); refine siQ ?_; (try simp (disch := omega) only [w64, wu8]))
 | ((first | refine Wcd rfl (fun h => ?_) fun h => ?_ | refine Wcu rfl (fun h => ?_) ?_ | refine Wcn rfl ?_ fun h => ?_) <;> (try replace h := q0a h) <;> try (exfalso; first | omega | exact absurd h (by decide)))
 | (refine q0j ?_; refine subQ ?_)
 | (subst hK)
 | exact trivial
 all_goals try (intros; assumption)
 all_goals try refine q0w ?_
 all_goals try (intros; first | trivial | omega)
 all_goals (try (rw [w64 (by omega) (by omega)]; first | done | omega))
end
def cfg15 : Cfg := mkC 27 q8y
theorem qbpp : cfg15.pins = [] ∧ cfg15.P = Tryz.prog ∧ cfg15.N = 27 ∧ cfg15.ti 38 = none ∧ cfg15.T 38 = e38 ∧ cfg15.mv 38 = (fun _ => []) := by and_intros <;> exact rfl
section
attribute [local go_sem] qbpp e38
attribute [local go_sem] qc5 qcl
theorem qb0x (hC : COk cfg15) (a : List Table) (b : List Table) (hp : okTs a) : Sem Tryz.prog 15 [.d (.sl 6 (a.map q0c)), .d (.sl 6 (b.map q0c))] (.d (.b (decide (a = b)))) := by
 have hB : a.length ≤ 1000000 := hp.1
 refine q0g (C := cfg15) (rs := [.tmp 4]) (fun _ => []) Tryz.func15 rfl rfl rfl rfl rfl rfl ?_
 refine inQ ?_
 repeat' first
 | (with_reducible first | apply q0n | apply q0d | apply Wsq | apply Wbk | apply Wsk | apply Wex | apply Wrt | apply q0o | apply q0p | apply q0e | apply q0f | refine q0b rfl ?_ | apply q0q | apply q0r | apply And.intro)
 | (refine Wat 6 rfl ?_; have hga : ∀ z, (a.map q0c).getD i z = q0c (a.getD i q0z) := fun z => qfr (by omega) z; have hgb : ∀ z, (b.map q0c).getD i z = q0c (b.getD i q0z) := fun z => qfr (by omega) z)
 | (with_reducible first | (refine Whr hC ?_; intro K hK) | (refine Whd hC (by kernel_rfl) ?_; intro K hK))
 | (with_reducible first | (refine Wrn hC ?_; intro K hK) | (refine Wdr hC (by kernel_rfl) ?_; intro K hK))
 | ((with_reducible first | refine q0u ?_ | refine qbu ?_ | refine q0m ?_); (first | (simp (maxSteps := 1000000) only [go_sem, ↓reduceIte, reduceCtorEq, Nat.reduceEqDiff, Nat.reduceLT, Nat.reduceLeDiff, Nat.reduceMul, Nat.reduceAdd, Nat.reduceSub, reduceDIte, Nat.reduceBEq, Nat.reduceBNe, hga, hgb]) | (refine siQ ?_)); (try simp (disch := omega) only [w64, wu8]))
 | (with_reducible refine qbh (by kernel_rfl) ?_)
 | ((first | refine Wcd rfl (fun h => ?_) fun h => ?_ | refine Wcu rfl (fun h => ?_) ?_ | refine Wcn rfl ?_ fun h => ?_) <;> (try replace h := q0a h) <;> try (exfalso; first | omega | exact absurd h (by decide)))
 | (refine Wlp 4 rfl (ι := Nat) (fun i => mkS [(0, V.d (.sl 6 (a.map q0c))), (1, V.d (.sl 6 (b.map q0c))), (5, V.d (.i .i64 (i : Int)))] ([])) (fun i => i ≤ a.length ∧ a.length = b.length ∧ a.take i = b.take i) (fun i => a.length - i) (0) ?_ ?_ (fun i hi => ?_) <;> (try dsimp only) <;> (try dsimp only at hi))
 | (refine Wnx 4 (i + 1) ?_ ?_ ?_ <;> (try dsimp only))
 | (refine q0j ?_; refine subQ ?_)
 | (subst hK)
 | exact trivial
 all_goals try (intros; assumption)
 all_goals try refine q0w ?_
 all_goals try replace hp := q0a hp
 all_goals try replace hi := q0a hi
 all_goals try (intros; first | trivial | omega)
 all_goals (try (rw [w64 (by omega) (by omega)]; first | done | omega))
 all_goals clear hC
 all_goals first
 | rfl
 | omega
 | (intro e; subst e; exact h rfl)
 | (intro e; subst e; simp at h; done)
 | (intro e; rw [e] at h; simp at h; done)
 | exact qda hi.2.2 (by omega) (by omega)
 | exact qih hi.2.2 (by omega) (by omega) (by assumption)
 | (simp only [decide_eq_true_eq]; exact qda hi.2.2 (by omega) (by omega))
 | exact h.1
 | exact h.1.1.1
 | exact h.1.1.2
 | exact h.1.2
 | exact hi.2.1.1
 | exact hi.2.1.2.1
 | exact hi.2.1.2.2.1
 | exact qsl hi.2.1.1 (qda hi.2.2 (by omega) (by omega))
 | exact qp9 hi.2.1.1 hi.2.1.2.1 hi.2.1.2.2.1 (qda hi.2.2 (by omega) (by omega))
 | exact (hp.2 i).1
 | exact (hp.2 i).2.1
 | exact (hp.2 i).2.2
 | exact hp.2 i
 | exact hp.1
 | exact hp.2.1
 | exact fun _ => hp.2.2
 | exact qnl a b
end
def cfg8 : Cfg := mkC 62 q80
theorem qbuq : cfg8.pins = [] ∧ cfg8.P = Tryz.prog ∧ cfg8.N = 62 ∧ cfg8.ti 23 = none ∧ cfg8.T 23 = e23 ∧ cfg8.mv 23 = (fun _ => []) := by and_intros <;> exact rfl
section
attribute [local go_sem] qbuq e23
attribute [local go_sem] qc5 qcl
theorem con8 (hC : COk cfg8) (l : List Table) : Sem Tryz.prog 8 [.d (.sl 6 (l.map q0c))] (.d (.b (qk5 l))) := by
 refine q0g (C := cfg8) (rs := [.tmp 2]) (fun _ => []) Tryz.func8 rfl rfl rfl rfl rfl rfl ?_
 refine inQ ?_
 repeat' first
 | (with_reducible first | apply q0n | apply q0d | apply Wsq | apply Wbk | apply Wsk | apply Wex | apply Wrt | apply q0o | apply q0p | apply q0e | apply q0f | refine q0b rfl ?_ | apply q0q | apply q0r | apply And.intro)
 | (refine Wat 6 rfl ?_; have hg : ∀ z, (l.map q0c).getD i z = q0c (l.getD i q0z) := fun z => qfr (by omega) z)
 | (with_reducible first | (refine Whr hC ?_; intro K hK) | (refine Whd hC (by kernel_rfl) ?_; intro K hK))
 | (with_reducible refine Wrn hC ?_; intro K hK)
 | ((with_reducible first | refine q0u ?_ | refine q0m ?_); (first | (simp (maxSteps := 1000000) only [go_sem, ↓reduceIte, reduceCtorEq, Nat.reduceEqDiff, Nat.reduceLT, Nat.reduceLeDiff, Nat.reduceMul, Nat.reduceAdd, Nat.reduceSub, reduceDIte, Nat.reduceBEq, Nat.reduceBNe, hg]) | (refine siQ ?_)); (try simp (disch := omega) only [w64, wu8]))
 | ((first | refine Wcd rfl (fun h => ?_) fun h => ?_ | refine Wcu rfl (fun h => ?_) ?_ | refine Wcn rfl ?_ fun h => ?_) <;> (try replace h := q0a h) <;> try (exfalso; first | omega | exact absurd h (by decide)))
 | (refine Wlp 4 rfl (ι := Nat) (fun i => mkS [(0, V.d (.sl 6 (l.map q0c))), (3, V.d (.i .i64 (i : Int)))] ([])) (fun i => i ≤ l.length ∧ (l.length : Int) ≤ 10 ∧ ∀ j, j < i → qi0 l j = 0) (fun i => l.length - i) (0) ?_ ?_ (fun i hi => ?_) <;> (try dsimp only) <;> (try dsimp only at hi))
 | (refine Wnx 4 (i + 1) ?_ ?_ ?_ <;> (try dsimp only))
 | (refine Wlp 9 rfl (ι := Nat) (fun k => mkS [(0, V.d (.sl 6 (l.map q0c))), (3, V.d (.i .i64 (i : Int))), (4, V.d (.i .i64 (k : Int)))] ([])) (fun k => k ≤ (l.getD i q0z).records.length ∧ ¬qjn (l.getD i q0z) ∧ ∀ j, j < k → qor (l.getD i q0z) j = 0) (fun k => (l.getD i q0z).records.length - k) (0) ?_ ?_ (fun k hk => ?_) <;> (try dsimp only) <;> (try dsimp only at hk))
 | (refine Wnx 9 (k + 1) ?_ ?_ ?_ <;> (try dsimp only))
 | (refine q0j ?_; refine subQ ?_)
 | (subst hK)
 | exact trivial
 all_goals try (intros; assumption)
 all_goals try refine q0w ?_
 all_goals try replace hi := q0a hi
 all_goals try replace hk := q0a hk
 all_goals try (intros; first | trivial | omega)
 all_goals (try (rw [w64 (by omega) (by omega)]; first | done | omega))
 all_goals clear hC
 all_goals first
 | omega
 | rfl
 | (unfold qjn; omega)
 | (rw [qbf5 (by assumption)]; done)
 | (rw [q5v hi.2.1 hi.2.2 (by omega) (q4y (by unfold qjn; omega))]; done)
 | (rw [q5v hi.2.1 hi.2.2 (by omega) (q8z hk.2.2 (by omega) (by assumption))]; done)
 | (rw [q5w hi.2.1 hi.2.2 (by omega)]; done)
 | exact qex hk.2.2 (qzb (by assumption))
 | exact qex hi.2.2 (qwi hk.2.1 hk.2.2 (by omega))
 | (have := hk.2.1; unfold qjn at this; omega)
end
end
end Go.Ev
