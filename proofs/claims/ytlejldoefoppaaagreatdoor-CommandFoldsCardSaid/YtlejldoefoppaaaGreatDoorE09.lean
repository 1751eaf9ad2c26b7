/- Tools and contracts under the laws of this seat: Dtc131 to Dtc23. -/
import Derived.Test.YtlejldoefoppaaaGreatDoorE07
set_option linter.unusedVariables false
set_option linter.unusedSimpArgs false
namespace Go.Ev
noncomputable section
open Go.Proofs Ty
set_option maxRecDepth 10000
set_option maxHeartbeats 4000000
def cfg131 : Cfg := ⟨Tryz.prog, 7, qru, mvs, [], (fun _ => none)⟩
theorem q41 : cfg131.pins = [] ∧ cfg131.P = Tryz.prog ∧ cfg131.N = 7 ∧ cfg131.T 138 = qqr ∧ cfg131.mv 138 = (fun _ => []) ∧ cfg131.T 146 = e146 ∧ cfg131.mv 146 = (fun _ => []) ∧ cfg131.ti = (fun _ => none) := by and_intros <;> exact rfl
section
attribute [local go_sem] q41 qqr e146
attribute [local go_sem] ql8 qe2
theorem qba1 (hC : COk cfg131) (s : ByteArray) (hp : s.size ≤ 1000000) : Sem Tryz.prog 131 [.d (.s s)] (.d (.b (qde s))) := by
 refine q0i (C := cfg131) (rs := [.tmp 2]) (fun _ => []) Tryz.func131 rfl rfl rfl rfl rfl rfl ?_
 refine inQ ?_
 repeat' first
 | (with_reducible first | apply q0n | apply q0f | apply Wsq | apply Wbk | apply Wsk | apply Wex | apply Wrt | apply q0o | apply q0p | apply q0g | apply q0h | refine q0c rfl ?_ | apply q0q | apply q0r | apply And.intro)
 | (with_reducible refine Wrn hC ?_; intro K hK)
 | ((with_reducible first | refine q0w ?_ | refine q0m ?_); refine siQ ?_; (try simp (disch := omega) only [w64, wu8]))
 | ((first | refine Wcd rfl (fun h => ?_) fun h => ?_ | refine Wcu rfl (fun h => ?_) ?_ | refine Wcn rfl ?_ fun h => ?_) <;> (try replace h := q0a h) <;> try (exfalso; first | omega | exact absurd h (by decide)))
 | (refine q0j ?_; refine subQ ?_)
 | (subst hK)
 | exact trivial
 all_goals try (intros; assumption)
 all_goals try refine q07 ?_
 all_goals try replace hp := q0a hp
 all_goals try (intros; first | trivial | omega)
 all_goals (try (rw [w64 (by omega) (by omega)]; first | done | omega))
 all_goals first
 | rfl
end
def cfg112 : Cfg := ⟨Tryz.prog, 14, qv8, mvs, [], (fun _ => none)⟩
theorem q42 : cfg112.pins = [] ∧ cfg112.P = Tryz.prog ∧ cfg112.N = 14 ∧ cfg112.ti 131 = none ∧ cfg112.T 131 = e131 ∧ cfg112.mv 131 = (fun _ => []) := by and_intros <;> exact rfl
section
attribute [local go_sem] q42 e131
theorem qba2 (hC : COk cfg112) (s : ByteArray) (hp : s.size ≤ 1000000) : Sem Tryz.prog 112 [.d (.s s)] (.d (.b (qes s))) := by
 refine q0i (C := cfg112) (rs := [.tmp 2]) (fun _ => []) Tryz.func112 rfl rfl rfl rfl rfl rfl ?_
 refine inQ ?_
 repeat' first
 | (with_reducible first | apply q0n | apply q0f | apply Wsq | apply Wbk | apply Wsk | apply Wex | apply Wrt | apply q0o | apply q0p | apply q0g | apply q0h | refine q0c rfl ?_ | apply q0q | apply q0r | apply And.intro)
 | (with_reducible refine Wrn hC ?_; intro K hK)
 | ((with_reducible first | refine q0w ?_ | refine q0m ?_); refine siQ ?_; (try simp (disch := omega) only [w64, wu8]))
 | ((first | refine Wcd rfl (fun h => ?_) fun h => ?_ | refine Wcu rfl (fun h => ?_) ?_ | refine Wcn rfl ?_ fun h => ?_) <;> (try replace h := q0a h) <;> try (exfalso; first | omega | exact absurd h (by decide)))
 | (refine q0j ?_; refine subQ ?_)
 | (subst hK)
 | exact trivial
 all_goals try (intros; assumption)
 all_goals try refine q07 ?_
 all_goals try replace hp := q0a hp
 all_goals try (intros; first | trivial | omega)
 all_goals (try (rw [w64 (by omega) (by omega)]; first | done | omega))
 all_goals first
 | (unfold qes; rw [Bool.eq_iff_iff]; simp; done)
 | (unfold qes; rw [Bool.eq_iff_iff]; simp; try omega)
end
def cfg115 : Cfg := ⟨Tryz.prog, 40, qv9, mvs, [], (fun _ => none)⟩
theorem q43 : cfg115.pins = [] ∧ cfg115.P = Tryz.prog ∧ cfg115.N = 40 ∧ cfg115.T 62 = e62 ∧ cfg115.mv 62 = (fun _ => []) ∧ cfg115.T 64 = e64 ∧ cfg115.mv 64 = (fun _ => []) ∧ cfg115.T 89 = e89 ∧ cfg115.mv 89 = (fun _ => []) ∧ cfg115.T 124 = e124 ∧ cfg115.mv 124 = (fun _ => []) ∧ cfg115.T 131 = e131 ∧ cfg115.mv 131 = (fun _ => []) ∧ cfg115.ti = (fun _ => none) := by and_intros <;> exact rfl
section
attribute [local go_sem] q43 e62 e64 e89 e124 e131
attribute [local go_sem] q0k qba qbq qb4 q09 qbr qbs qrf ql5 qob decI List.length_cons List.length_nil q7r
theorem qba3 (hC : COk cfg115) (v : CVal) (hp : qf9 v) : Sem Tryz.prog 115 [.d (q0k v)] (.d (.i .i64 (vErr v))) := by
 refine q0i (C := cfg115) (rs := [.tmp 2]) (fun _ => []) Tryz.func115 rfl rfl rfl rfl rfl rfl ?_
 refine inQ ?_
 repeat' first
 | (with_reducible first | apply q0n | apply q0f | apply Wsq | apply Wbk | apply Wsk | apply Wex | apply Wrt | apply q0o | apply q0p | apply q0g | apply q0h | refine q0c rfl ?_ | apply q0q | apply q0r | apply And.intro)
 | (with_reducible first | (refine Wrn hC ?_; intro K hK) | (refine Wdr hC (by kernel_rfl) ?_; intro K hK))
 | ((with_reducible first | refine q0w ?_ | refine qdx ?_ | refine q0m ?_); refine siQ ?_; (try simp (disch := omega) only [w64, wu8]))
 | (with_reducible refine qc7 (by kernel_rfl) ?_)
 | ((first | refine Wcd rfl (fun h => ?_) fun h => ?_ | refine Wcu rfl (fun h => ?_) ?_ | refine Wcn rfl ?_ fun h => ?_) <;> (try replace h := q0a h) <;> try (exfalso; first | omega | exact absurd h (by decide)))
 | (refine q0j ?_; refine subQ ?_)
 | (subst hK)
 | exact trivial
 all_goals try (intros; assumption)
 all_goals try refine q07 ?_
 all_goals try replace hp := q0a hp
 all_goals try (intros; first | trivial | omega)
 all_goals (try (rw [w64 (by omega) (by omega)]; first | done | omega))
 all_goals first
 | exact hp
 | (intro d hd; first | (subst hd; exact ⟨rfl, by simp [D.cells, D.one]⟩) | (rcases hd with rfl | rfl <;> exact ⟨rfl, by simp [D.cells, D.one]⟩) | (rcases hd with rfl | rfl | rfl <;> exact ⟨rfl, by simp [D.cells, D.one]⟩) | (rcases hd with rfl | rfl | rfl | rfl <;> exact ⟨rfl, by simp [D.cells, D.one]⟩))
 | (simp; done)
end
def cfg105 : Cfg := ⟨Tryz.prog, 45, qwa, mvs, [], (fun _ => none)⟩
theorem q44 : cfg105.pins = [] ∧ cfg105.P = Tryz.prog ∧ cfg105.N = 45 ∧ cfg105.T 62 = e62 ∧ cfg105.mv 62 = (fun _ => []) ∧ cfg105.T 64 = e64 ∧ cfg105.mv 64 = (fun _ => []) ∧ cfg105.T 87 = e87 ∧ cfg105.mv 87 = (fun _ => []) ∧ cfg105.T 115 = e115 ∧ cfg105.mv 115 = (fun _ => []) ∧ cfg105.ti = (fun _ => none) := by and_intros <;> exact rfl
section
attribute [local go_sem] q44 e62 e64 e87 e115
attribute [local go_sem] q0k qba qbq qb4 q09 qbr qbs q0d qbd qcd qcy qce qcf qrf ql5 qob decI List.length_cons List.length_nil List.length_map Int.toNat_natCast q4b
theorem qba4 (hC : COk cfg105) (p : CPart) (hp : qvv p) : Sem Tryz.prog 105 [.d (q0d p)] (.d (.i .i64 (pErr p))) := by
 refine q0i (C := cfg105) (rs := [.tmp 2]) (fun _ => []) Tryz.func105 rfl rfl rfl rfl rfl rfl ?_
 refine inQ ?_
 repeat' first
 | (with_reducible first | apply q0n | apply q0f | apply Wsq | apply Wbk | apply Wsk | apply Wex | apply Wrt | apply q0o | apply q0p | apply q0g | apply q0h | refine q0c rfl ?_ | apply q0q | apply q0r | apply And.intro)
 | (with_reducible first | (refine Wrn hC ?_; intro K hK) | (refine Wdr hC (by kernel_rfl) ?_; intro K hK))
 | ((with_reducible first | refine q0w ?_ | refine qdx ?_ | refine q0m ?_); refine siQ ?_; (try simp (disch := omega) only [w64, wu8]))
 | (with_reducible refine qc7 (by kernel_rfl) ?_)
 | ((first | refine Wcd rfl (fun h => ?_) fun h => ?_ | refine Wcu rfl (fun h => ?_) ?_ | refine Wcn rfl ?_ fun h => ?_) <;> (try replace h := q0a h) <;> try (exfalso; first | omega | exact absurd h (by decide)))
 | (refine Wlp 5 rfl (ι := Nat) (fun k => mkS [(33, V.d (.sl 2 (p.values.map q0k))), (34, V.d (.i .i64 (p.values.length : Int))), (35, V.d (.i .i64 (k : Int)))] ([])) (fun k => k ≤ p.values.length ∧ ∀ j, j < k → vErr (p.values.getD j qbi) = 0) (fun k => p.values.length - k) (0) ?_ ?_ (fun k hi => ?_) <;> (try dsimp only) <;> (try dsimp only at hi))
 | (refine Wnx 5 (k + 1) ?_ ?_ ?_ <;> (try dsimp only))
 | (refine q0j ?_; refine subQ ?_)
 | (subst hK)
 | exact trivial
 all_goals try (intros; assumption)
 all_goals try refine q07 ?_
 all_goals try replace hp := q0a hp
 all_goals try replace hi := q0a hi
 all_goals try replace hj := q0a hj
 all_goals try (intros; first | trivial | omega)
 all_goals (try (rw [w64 (by omega) (by omega)]; first | done | omega))
 all_goals first
 | omega
 | exact hp.2 _
 | (intro d hd; first | (subst hd; exact ⟨rfl, by simp [D.cells, D.one]⟩) | (rcases hd with rfl | rfl <;> exact ⟨rfl, by simp [D.cells, D.one]⟩) | (rcases hd with rfl | rfl | rfl <;> exact ⟨rfl, by simp [D.cells, D.one]⟩) | (rcases hd with rfl | rfl | rfl | rfl <;> exact ⟨rfl, by simp [D.cells, D.one]⟩))
 | (rw [w64 (by have := hp.1; omega) (by have := hp.1; omega)]; omega)
 | exact (qgy (by assumption))
 | (rw [qqk (by assumption)]; first | exact qit fun j hj => hi.2 j (by omega) | (rw [qis (f := fun k => vErr (p.values.getD k qbi)) (i := k) (by omega) (by assumption) hi.2]))
 | exact qhg (f := fun k => vErr (p.values.getD k qbi)) hi.2 (by assumption)
end
def cfg63 : Cfg := ⟨Tryz.prog, 35, qwb, mvs, [], (fun _ => none)⟩
theorem q8l : cfg63.pins = [] ∧ cfg63.P = Tryz.prog ∧ cfg63.N = 35 ∧ cfg63.T 62 = e62 ∧ cfg63.mv 62 = (fun _ => []) ∧ cfg63.T 64 = e64 ∧ cfg63.mv 64 = (fun _ => []) ∧ cfg63.T 87 = e87 ∧ cfg63.mv 87 = (fun _ => []) ∧ cfg63.T 105 = e105 ∧ cfg63.mv 105 = (fun _ => []) ∧ cfg63.ti = (fun _ => none) := by and_intros <;> exact rfl
section
attribute [local go_sem] q8l e62 e64 e87 e105
attribute [local go_sem] q0k qba qbq qb4 q09 qbr qbs q0d qbd qcd qcy qce qcf q05 qbf qd6 qew qrf ql5 qob decI List.length_cons List.length_nil List.length_map Int.toNat_natCast q4c
theorem qbcl (hC : COk cfg63) (c : CStr) (hp : okC c) : Sem Tryz.prog 63 [.d (q05 c)] (.d (.i .i64 (cErr c))) := by
 refine q0i (C := cfg63) (rs := [.tmp 2]) (fun _ => []) Tryz.func63 rfl rfl rfl rfl rfl rfl ?_
 refine inQ ?_
 repeat' first
 | (with_reducible first | apply q0n | apply q0f | apply Wsq | apply Wbk | apply Wsk | apply Wex | apply Wrt | apply q0o | apply q0p | apply q0g | apply q0h | refine q0c rfl ?_ | apply q0q | apply q0r | apply And.intro)
 | (refine Wat 6 rfl ?_; have hga : ∀ z, (c.parts.map q0d).getD i z = q0d (c.parts.getD i q0b) := fun z => qdw (by omega) z)
 | (with_reducible first | (refine Whr hC ?_; intro K hK) | (refine Whd hC (by kernel_rfl) ?_; intro K hK))
 | (with_reducible first | (refine Wrn hC ?_; intro K hK) | (refine Wdr hC (by kernel_rfl) ?_; intro K hK))
 | ((with_reducible first | refine q0w ?_ | refine qdx ?_ | refine q0m ?_); (first | (simp (maxSteps := 1000000) only [go_sem, ↓reduceIte, reduceCtorEq, Nat.reduceEqDiff, Nat.reduceLT, Nat.reduceLeDiff, Nat.reduceMul, Nat.reduceAdd, Nat.reduceSub, reduceDIte, Nat.reduceBEq, Nat.reduceBNe, hga]) | (refine siQ ?_)); (try simp (disch := omega) only [w64, wu8]))
 | (with_reducible refine qc7 (by kernel_rfl) ?_)
 | ((first | refine Wcd rfl (fun h => ?_) fun h => ?_ | refine Wcu rfl (fun h => ?_) ?_ | refine Wcn rfl ?_ fun h => ?_) <;> (try replace h := q0a h) <;> try (exfalso; first | omega | exact absurd h (by decide)))
 | (refine Wlp 5 rfl (ι := Nat) (fun i => mkS [(23, V.d (.sl 2 (c.parts.map q0d))), (24, V.d (.i .i64 (c.parts.length : Int))), (25, V.d (.i .i64 (i : Int)))] ([])) (fun i => i ≤ c.parts.length ∧ ∀ j, j < i → pErr (c.parts.getD j q0b) = 0) (fun i => c.parts.length - i) (0) ?_ ?_ (fun i hi => ?_) <;> (try dsimp only) <;> (try dsimp only at hi))
 | (refine Wnx 5 (i + 1) ?_ ?_ ?_ <;> (try dsimp only))
 | (refine q0j ?_; refine subQ ?_)
 | (subst hK)
 | exact trivial
 all_goals try (intros; assumption)
 all_goals try refine q07 ?_
 all_goals try replace hp := q0a hp
 all_goals try replace hi := q0a hi
 all_goals try replace hj := q0a hj
 all_goals try (intros; first | trivial | omega)
 all_goals (try (rw [w64 (by omega) (by omega)]; first | done | omega))
 all_goals first
 | omega
 | exact hp.2 _
 | (intro d hd; first | (subst hd; exact ⟨rfl, by simp [D.cells, D.one]⟩) | (rcases hd with rfl | rfl <;> exact ⟨rfl, by simp [D.cells, D.one]⟩) | (rcases hd with rfl | rfl | rfl <;> exact ⟨rfl, by simp [D.cells, D.one]⟩) | (rcases hd with rfl | rfl | rfl | rfl <;> exact ⟨rfl, by simp [D.cells, D.one]⟩))
 | (rw [w64 (by have := hp.1; omega) (by have := hp.1; omega)]; omega)
 | exact (qmg (by assumption))
 | (rw [qql (by assumption)]; first | exact qit fun j hj => hi.2 j (by omega) | (rw [qis (f := fun k => pErr (c.parts.getD k q0b)) (i := i) (by omega) (by assumption) hi.2]))
 | exact qhg (f := fun k => pErr (c.parts.getD k q0b)) hi.2 (by assumption)
end
def cfg113 : Cfg := ⟨Tryz.prog, 48, qzq, mvs, [], (fun _ => none)⟩
theorem q45 : cfg113.pins = [] ∧ cfg113.P = Tryz.prog ∧ cfg113.N = 48 ∧ cfg113.T 132 = e132 ∧ cfg113.mv 132 = (fun _ => []) ∧ cfg113.T 133 = e133 ∧ cfg113.mv 133 = (fun _ => []) ∧ cfg113.ti = (fun _ => none) := by and_intros <;> exact rfl
section
attribute [local go_sem] q45 e132 e133
attribute [local go_sem] q0k qba qbq qb4 q09 qbr qbs q0d qbd qcd qcy qce qcf decS q7u List.length_map Int.toNat_natCast List.map_append List.map_cons List.map_nil List.length_append List.length_cons List.length_nil qld qkm q7v qx3
theorem qba5 (hC : COk cfg113) (p : CPart) (hp : pErr p = 0) : Sem Tryz.prog 113 [.d (q0d p)] (.d (.s (qbv p))) := by
 refine q0i (C := cfg113) (rs := [.tmp 2]) (fun _ => []) Tryz.func113 rfl rfl rfl rfl rfl rfl ?_
 refine inQ ?_
 repeat' first
 | (with_reducible first | apply q0n | apply q0f | apply Wsq | apply Wbk | apply Wsk | apply Wex | apply Wrt | apply q0o | apply q0p | apply q0g | apply q0h | refine q0c rfl ?_ | apply q0q | apply q0r | apply And.intro)
 | (with_reducible refine Wrn hC ?_; intro K hK)
 | ((with_reducible first | refine q0w ?_ | refine q0m ?_); refine siQ ?_; (try simp (disch := omega) only [w64, wu8]))
 | ((first | refine Wcd rfl (fun h => ?_) fun h => ?_ | refine Wcu rfl (fun h => ?_) ?_ | refine Wcn rfl ?_ fun h => ?_) <;> (try replace h := q0a h) <;> try (exfalso; first | omega | exact absurd h (by decide)))
 | (refine Wlp 3 rfl (ι := Nat) (fun i => mkS [(1, V.ptr 16 0), (3, V.row 48 1 0 (p.values.take i).length), (8, V.d (.sl 2 (p.values.map q0k))), (9, V.d (.i .i64 (p.values.length : Int))), (10, V.d (.i .i64 (i : Int)))] ([(16, .live (.box 70 [.d (.s p.keyword), .d (.sl 2 (p.values.map q0k))])), (48, .live (.row 9 1 false (((p.values.take i).map writ).map D.s)))])) (fun i => i ≤ p.values.length) (fun i => p.values.length - i) (0) ?_ ?_ (fun i hi => ?_) <;> (try dsimp only) <;> (try dsimp only at hi))
 | (refine Wnx 3 (i + 1) ?_ ?_ ?_ <;> (try dsimp only))
 | (refine q0j ?_; refine subQ ?_)
 | (subst hK)
 | exact trivial
 all_goals try (intros; assumption)
 all_goals try refine q07 ?_
 all_goals try replace hp := q0a hp
 all_goals try replace hi := q0a hi
 all_goals try (intros; first | trivial | omega)
 all_goals (try (rw [w64 (by omega) (by omega)]; first | done | omega))
 all_goals clear hC
 all_goals (try have hz := qgz hp)
 all_goals first
 | omega
 | (intro d hd; first | (subst hd; exact ⟨rfl, by simp [D.cells, D.one]⟩) | (rcases hd with rfl | rfl <;> exact ⟨rfl, by simp [D.cells, D.one]⟩))
 | (have hv := hz.2.2.2 i (by omega)
    have hd := q7w hv
    have h64 := (qdp hv).2
    first
     | omega
     | (show 1 + (dblL _).length ≤ _; omega)
     | (show 1 + (dblL _).length + 1 ≤ _; omega)
     | (rw [w64 (by omega) (by omega)]; omega)
     | (rw [List.length_take]; omega)
     | (rw [qs8 (by omega), q7x (by assumption)]; first | done | rfl | exact q00 _)
     | (rw [qs8 (by omega), qbaa hv (by assumption)]; first | done | rfl | exact q00 _)
     | (rw [List.length_take, List.length_take]; omega)
     )
 | (have hi := Nat.le_antisymm hi (by omega)
    subst hi
    have hs := qle hp (n := p.values.length)
    simp only [List.take_length] at *
    first
     | omega
     | (simp only [sz40, sz41]; omega)
     | (rw [qx4 (by assumption)]; done)
     | (rw [qx5 (by assumption)]; done)
     | exact Nat.le_trans hs (by decide)
     )
end
def cfg75 : Cfg := ⟨Tryz.prog, 22, qwc, mvs, [], (fun _ => none)⟩
theorem q8m : cfg75.pins = [] ∧ cfg75.P = Tryz.prog ∧ cfg75.N = 22 ∧ cfg75.ti 113 = none ∧ cfg75.T 113 = e113 ∧ cfg75.mv 113 = (fun _ => []) := by and_intros <;> exact rfl
section
attribute [local go_sem] q8m e113
attribute [local go_sem] q0k qba qbq qb4 q09 qbr qbs q0d qbd qcd qcy qce qcf q05 qbf qd6 qew List.length_map Int.toNat_natCast qld qkm
theorem qbcm (hC : COk cfg75) (c : CStr) (hp : cErr c = 0) : Sem Tryz.prog 75 [.d (q05 c)] (.d (.s (comT c))) := by
 refine q0i (C := cfg75) (rs := [.tmp 2]) (fun _ => []) Tryz.func75 rfl rfl rfl rfl rfl rfl ?_
 refine inQ ?_
 repeat' first
 | (with_reducible first | apply q0n | apply q0f | apply Wsq | apply Wbk | apply Wsk | apply Wex | apply Wrt | apply q0o | apply q0p | apply q0g | apply q0h | refine q0c rfl ?_ | apply q0q | apply q0r | apply And.intro)
 | (refine Wat 4 rfl ?_; have hga : ∀ z, (c.parts.map q0d).getD i z = q0d (c.parts.getD i q0b) := fun z => qdw (by omega) z)
 | (with_reducible first | (refine Whr hC ?_; intro K hK) | (refine Whd hC (by kernel_rfl) ?_; intro K hK))
 | (with_reducible refine Wrn hC ?_; intro K hK)
 | ((with_reducible first | refine q0w ?_ | refine q0m ?_); (first | (simp (maxSteps := 1000000) only [go_sem, ↓reduceIte, reduceCtorEq, Nat.reduceEqDiff, Nat.reduceLT, Nat.reduceLeDiff, Nat.reduceMul, Nat.reduceAdd, Nat.reduceSub, reduceDIte, Nat.reduceBEq, Nat.reduceBNe, hga]) | (refine siQ ?_)); (try simp (disch := omega) only [w64, wu8]))
 | ((first | refine Wcd rfl (fun h => ?_) fun h => ?_ | refine Wcu rfl (fun h => ?_) ?_ | refine Wcn rfl ?_ fun h => ?_) <;> (try replace h := q0a h) <;> try (exfalso; first | omega | exact absurd h (by decide)))
 | (refine Wlp 3 rfl (ι := Nat) (fun i => mkS [(3, V.d (.s (comL c.name (c.parts.take i)))), (9, V.d (.sl 2 (c.parts.map q0d))), (10, V.d (.i .i64 (c.parts.length : Int))), (11, V.d (.i .i64 (i : Int)))] ([])) (fun i => i ≤ c.parts.length) (fun i => c.parts.length - i) (0) ?_ ?_ (fun i hi => ?_) <;> (try dsimp only) <;> (try dsimp only at hi))
 | (refine Wnx 3 (i + 1) ?_ ?_ ?_ <;> (try dsimp only))
 | (refine q0j ?_; refine subQ ?_)
 | (subst hK)
 | exact trivial
 all_goals try (intros; assumption)
 all_goals try refine q07 ?_
 all_goals try replace hp := q0a hp
 all_goals try replace hi := q0a hi
 all_goals try (intros; first | trivial | omega)
 all_goals (try (rw [w64 (by omega) (by omega)]; first | done | omega))
 all_goals clear hC
 all_goals (try have hz := qi3 hp)
 all_goals (try have hs := qmh hp (i := i))
 all_goals first
 | (rw [w64 (by omega) (by omega)]; omega)
 | exact hz.2.2 i (by omega)
 | exact qvz (by assumption)
 | exact qmj (by assumption)
 | (have hq := qqo (hz.2.2 i (by omega)); simp only [sz32]; omega)
 | omega
end
def cfg36 : Cfg := ⟨Tryz.prog, 12, qzr, mvs, [], (fun _ => none)⟩
theorem q8n : cfg36.pins = [] ∧ cfg36.P = Tryz.prog ∧ cfg36.N = 12 ∧ cfg36.T 63 = e63 ∧ cfg36.mv 63 = (fun _ => []) ∧ cfg36.T 75 = e75 ∧ cfg36.mv 75 = (fun _ => []) ∧ cfg36.ti = (fun _ => none) := by and_intros <;> exact rfl
section
attribute [local go_sem] q8n e63 e75
attribute [local go_sem] q0k qba qbq qb4 q09 qbr qbs q0d qbd qcd qcy qce qcf q05 qbf qd6 qew
theorem qbcn (hC : COk cfg36) (c : CStr) (hp : okC c) : Sem Tryz.prog 36 [.d (q05 c)] (.tup [.d (.s (if cErr c = 0 then comT c else ⟨#[]⟩)), .d (.i .i64 (cErr c))]) := by
 refine q0i (C := cfg36) (rs := [.tmp 2, .tmp 3]) (fun _ => []) Tryz.func36 rfl rfl rfl rfl rfl rfl ?_
 refine inQ ?_
 repeat' first
 | (with_reducible first | apply q0n | apply q0f | apply Wsq | apply Wbk | apply Wsk | apply Wex | apply Wrt | apply q0o | apply q0p | apply q0g | apply q0h | refine q0c rfl ?_ | apply q0q | apply q0r | apply And.intro)
 | (with_reducible refine Wrn hC ?_; intro K hK)
 | ((with_reducible first | refine q0w ?_ | refine q0m ?_); refine siQ ?_; (try simp (disch := omega) only [w64, wu8]))
 | ((first | refine Wcd rfl (fun h => ?_) fun h => ?_ | refine Wcu rfl (fun h => ?_) ?_ | refine Wcn rfl ?_ fun h => ?_) <;> (try replace h := q0a h) <;> try (exfalso; first | omega | exact absurd h (by decide)))
 | (refine q0j ?_; refine subQ ?_)
 | (subst hK)
 | exact trivial
 all_goals try (intros; assumption)
 all_goals try refine q07 ?_
 all_goals try replace hp := q0a hp
 all_goals try (intros; first | trivial | omega)
 all_goals (try (rw [w64 (by omega) (by omega)]; first | done | omega))
 all_goals first
 | exact hp
 | assumption
 | (simp [*]; done)
end
def cfg114 : Cfg := ⟨Tryz.prog, 28, qzs, mvs, [], (fun _ => none)⟩
theorem q46 : cfg114.pins = [] ∧ cfg114.P = Tryz.prog ∧ cfg114.N = 28 ∧ cfg114.T 91 = e91 ∧ cfg114.mv 91 = (fun _ => []) ∧ cfg114.T 99 = e99 ∧ cfg114.mv 99 = (fun _ => []) ∧ cfg114.T 100 = e100 ∧ cfg114.mv 100 = (fun _ => []) ∧ cfg114.ti = (fun _ => none) := by and_intros <;> exact rfl
section
attribute [local go_sem] q46 e91 e99 e100
attribute [local go_sem] Int.toNat_natCast qd4
theorem qba6 (hC : COk cfg114) (s : ByteArray) (hp : s.size ≤ 1000000) : Sem Tryz.prog 114 [.d (.s s)] (.d (.b (qes s))) := by
 refine q0i (C := cfg114) (rs := [.tmp 2]) (fun _ => []) Tryz.func114 rfl rfl rfl rfl rfl rfl ?_
 refine inQ ?_
 repeat' first
 | (with_reducible first | apply q0n | apply q0f | apply Wsq | apply Wbk | apply Wsk | apply Wex | apply Wrt | apply q0o | apply q0p | apply q0g | apply q0h | refine q0c rfl ?_ | apply q0q | apply q0r | apply And.intro)
 | (with_reducible refine Wrn hC ?_; intro K hK)
 | ((with_reducible first | refine q0w ?_ | refine q0m ?_); refine siQ ?_; (try simp (disch := omega) only [w64, wu8]))
 | ((first | refine Wcd rfl (fun h => ?_) fun h => ?_ | refine Wcu rfl (fun h => ?_) ?_ | refine Wcn rfl ?_ fun h => ?_) <;> (try replace h := q0a h) <;> try (exfalso; first | omega | exact absurd h (by decide)))
 | (refine Wlp 2 rfl (ι := Nat) (fun i => mkS [(0, V.d (.s s)), (3, V.d (.i .i64 (i : Int)))] ([])) (fun i => i ≤ s.size ∧ i ≤ 65 ∧ ∀ j, j < i → qbh (chr s j) = false) (fun i => s.size - i) (0) ?_ ?_ (fun i hi => ?_) <;> (try dsimp only) <;> (try dsimp only at hi))
 | (refine Wnx 2 (i + 1) ?_ ?_ ?_ <;> (try dsimp only))
 | (refine q0j ?_; refine subQ ?_)
 | (subst hK)
 | exact trivial
 all_goals try (intros; assumption)
 all_goals try refine q07 ?_
 all_goals try replace hp := q0a hp
 all_goals try replace hi := q0a hi
 all_goals try replace hj := q0a hj
 all_goals try (intros; first | trivial | omega)
 all_goals (try (rw [w64 (by omega) (by omega)]; first | done | omega))
 all_goals clear hC
 all_goals first
 | (rw [q4f (i := i) (by omega) (qvx.2 (by first | exact h | (simpa using h)))]; done)
 | exact q5n hi.2.2 (by rw [← Bool.not_eq_true, qvx]; rintro (k | k); (rw [h.1] at k; cases k); omega)
 | (by_cases e : 64 < s.size
    ·rw [q4g e, decide_eq_false (by omega : ¬ (s.size : Int) ≤ 64)]; simp
    ·exact q17 fun j hj => hi.2.2 j (by omega))
 | omega
end
def cfg79 : Cfg := ⟨Tryz.prog, 48, qwd, mvs, [], (fun _ => none)⟩
theorem q8o : cfg79.pins = [] ∧ cfg79.P = Tryz.prog ∧ cfg79.N = 48 ∧ cfg79.T 91 = e91 ∧ cfg79.mv 91 = (fun _ => []) ∧ cfg79.T 114 = e114 ∧ cfg79.mv 114 = (fun _ => []) ∧ cfg79.ti = (fun _ => none) := by and_intros <;> exact rfl
section
attribute [local go_sem] q8o e91 e114
attribute [local go_sem] q0k qba qbq qb4 q09 qbr qbs Int.toNat_natCast qd4
theorem qbco (hC : COk cfg79) (v : CVal) (hp : qf9 v) : Sem Tryz.prog 79 [.d (q0k v)] (.d (.i .i64 (vErr v))) := by
 refine q0i (C := cfg79) (rs := [.tmp 2]) (fun _ => []) Tryz.func79 rfl rfl rfl rfl rfl rfl ?_
 refine inQ ?_
 repeat' first
 | (with_reducible first | apply q0n | apply q0f | apply Wsq | apply Wbk | apply Wsk | apply Wex | apply Wrt | apply q0o | apply q0p | apply q0g | apply q0h | refine q0c rfl ?_ | apply q0q | apply q0r | apply And.intro)
 | (with_reducible refine Wrn hC ?_; intro K hK)
 | ((with_reducible first | refine q0w ?_ | refine q0m ?_); refine siQ ?_; (try simp (disch := omega) only [w64, wu8]))
 | ((first | refine Wcd rfl (fun h => ?_) fun h => ?_ | refine Wcu rfl (fun h => ?_) ?_ | refine Wcn rfl ?_ fun h => ?_) <;> (try replace h := q0a h) <;> try (exfalso; first | omega | exact absurd h (by decide)))
 | (refine Wlp 10 rfl (ι := Nat) (fun i => mkS [(1, V.ptr 16 0), (3, V.d (.i .i64 (i : Int)))] ([(16, .live (.box 76 [.d (.i .i64 v.kind), .d (.s v.text)]))])) (fun i => i ≤ v.text.size ∧ ∀ j, j < i → badC (chr v.text j) = false) (fun i => v.text.size - i) (0) ?_ ?_ (fun i hi => ?_) <;> (try dsimp only) <;> (try dsimp only at hi))
 | (refine Wnx 10 (i + 1) ?_ ?_ ?_ <;> (try dsimp only))
 | (refine q0j ?_; refine subQ ?_)
 | (subst hK)
 | exact trivial
 all_goals try (intros; assumption)
 all_goals try refine q07 ?_
 all_goals try replace hp := q0a hp
 all_goals try replace hi := q0a hi
 all_goals try (intros; first | trivial | omega)
 all_goals (try (rw [w64 (by omega) (by omega)]; first | done | omega))
 all_goals clear hC
 all_goals first
 | exact qbab h
 | exact vE1 h
 | exact vE2 (by assumption) (by assumption) h
 | exact vE5w (by assumption) (by assumption) (by assumption) h
 | exact vE5s (i := i) (by assumption) (by assumption) (by assumption) (by assumption) h
 | exact vEz (by assumption) (by assumption) (by assumption) (by assumption) h hi.2
 | exact q5n hi.2 (qt4 h)
 | omega
 | exact hp
 | (unfold qf9 at hp; omega)
end
def cfg34 : Cfg := ⟨Tryz.prog, 60, qzt, mvs, [], (fun _ => none)⟩
theorem q8p : cfg34.pins = [] ∧ cfg34.P = Tryz.prog ∧ cfg34.N = 60 ∧ cfg34.T 48 = e48 ∧ cfg34.mv 48 = (fun _ => []) ∧ cfg34.T 79 = e79 ∧ cfg34.mv 79 = (fun _ => []) ∧ cfg34.ti = (fun _ => none) := by and_intros <;> exact rfl
section
attribute [local go_sem] q8p e48 e79
attribute [local go_sem] q0k qba qbq qb4 q09 qbr qbs q0d qbd qcd qcy qce qcf q05 qbf qd6 qew List.length_map Int.toNat_natCast
theorem qbcp (hC : COk cfg34) (c : CStr) (hp : okC c) : Sem Tryz.prog 34 [.d (q05 c)] (.d (.i .i64 (cErr c))) := by
 refine q0i (C := cfg34) (rs := [.tmp 2]) (fun _ => []) Tryz.func34 rfl rfl rfl rfl rfl rfl ?_
 refine inQ ?_
 repeat' first
 | (with_reducible first | apply q0n | apply q0f | apply Wsq | apply Wbk | apply Wsk | apply Wex | apply Wrt | apply q0o | apply q0p | apply q0g | apply q0h | refine q0c rfl ?_ | apply q0q | apply q0r | apply And.intro)
 | (refine Wat 8 rfl ?_; have hga : ∀ z, (c.parts.map q0d).getD i z = q0d (c.parts.getD i q0b) := fun z => qdw (by omega) z)
 | (with_reducible first | (refine Whr hC ?_; intro K hK) | (refine Whd hC (by kernel_rfl) ?_; intro K hK))
 | (with_reducible refine Wrn hC ?_; intro K hK)
 | ((with_reducible first | refine q0w ?_ | refine q0m ?_); (first | (simp (maxSteps := 1000000) only [go_sem, ↓reduceIte, reduceCtorEq, Nat.reduceEqDiff, Nat.reduceLT, Nat.reduceLeDiff, Nat.reduceMul, Nat.reduceAdd, Nat.reduceSub, reduceDIte, Nat.reduceBEq, Nat.reduceBNe, hga]) | (refine siQ ?_)); (try simp (disch := omega) only [w64, wu8]))
 | ((first | refine Wcd rfl (fun h => ?_) fun h => ?_ | refine Wcu rfl (fun h => ?_) ?_ | refine Wcn rfl ?_ fun h => ?_) <;> (try replace h := q0a h) <;> try (exfalso; first | omega | exact absurd h (by decide)))
 | (refine Wlp 6 rfl (ι := Nat) (fun i => mkS [(1, V.ptr 16 0), (3, V.d (.i .i64 (i : Int)))] ([(16, .live (.box 33 [.d (.s c.name), .d (.sl 2 (c.parts.map q0d))]))])) (fun i => i ≤ c.parts.length ∧ ∀ j, j < i → pErr (c.parts.getD j q0b) = 0) (fun i => c.parts.length - i) (0) ?_ ?_ (fun i hi => ?_) <;> (try dsimp only) <;> (try dsimp only at hi))
 | (refine Wnx 6 (i + 1) ?_ ?_ ?_ <;> (try dsimp only))
 | (refine Wlp 16 rfl (ι := Nat) (fun k => mkS [(1, V.ptr 16 0), (3, V.d (.i .i64 (i : Int))), (4, V.ptr 64 0), (5, V.d (.i .i64 (k : Int)))] ([(16, .live (.box 33 [.d (.s c.name), .d (.sl 2 (c.parts.map q0d))])), (64, .live (.box 70 [.d (.s (c.parts.getD i q0b).keyword), .d (.sl 2 ((c.parts.getD i q0b).values.map q0k))]))])) (fun k => k ≤ (c.parts.getD i q0b).values.length ∧ ∀ j, j < k → vErr ((c.parts.getD i q0b).values.getD j qbi) = 0) (fun k => (c.parts.getD i q0b).values.length - k) (0) ?_ ?_ (fun k hk => ?_) <;> (try dsimp only) <;> (try dsimp only at hk))
 | (refine Wnx 16 (k + 1) ?_ ?_ ?_ <;> (try dsimp only))
 | (refine q0j ?_; refine subQ ?_)
 | (subst hK)
 | exact trivial
 all_goals try (intros; assumption)
 all_goals try refine q07 ?_
 all_goals try replace hp := q0a hp
 all_goals try replace hi := q0a hi
 all_goals try replace hk := q0a hk
 all_goals try (intros; first | trivial | omega)
 all_goals (try (rw [w64 (by omega) (by omega)]; first | done | omega))
 all_goals clear hC
 all_goals first
 | exact qbah h
 | exact cE2 (by assumption) h
 | exact cEp (i := i) (by assumption) (by assumption) (by assumption) hi.2 (qbae h) (by decide)
 | exact cEp (i := i) (by assumption) (by assumption) (by assumption) hi.2 (pE1 (by assumption) h) (by decide)
 | exact cEp (i := i) (by assumption) (by assumption) (by assumption) hi.2 (pE2 (by assumption) (by assumption) h) (by decide)
 | exact cEp (i := i) (by assumption) (by assumption) (by assumption) hi.2 (pEv (by assumption) (by assumption) (by assumption) (by assumption) hk.2 h) h
 | exact cEz (by assumption) (by assumption) h hi.2
 | exact qhg (f := fun k => vErr ((c.parts.getD i q0b).values.getD k qbi)) hk.2 (by assumption)
 | exact qhg (f := fun k => pErr (c.parts.getD k q0b)) hi.2 (pEz (by assumption) (by assumption) (by assumption) (by assumption) hk.2)
 | exact (hp.2 i).2 k
 | omega
 | (rw [w64 (by omega) (by omega)]; omega)
end
def cfg77 : Cfg := ⟨Tryz.prog, 34, qzu, mvs, [], (fun _ => none)⟩
theorem q8q : cfg77.pins = [] ∧ cfg77.P = Tryz.prog ∧ cfg77.N = 34 := ⟨rfl, rfl, rfl⟩
section
attribute [local go_sem] q8q
attribute [local go_sem] q0k qba qbq qb4 q09 qbr qbs Int.toNat_natCast qd4 toN1 qld qkm
theorem qbcq (hC : COk cfg77) (v : CVal) (hp : vErr v = 0) : Sem Tryz.prog 77 [.d (q0k v)] (.d (.s (writ v))) := by
 refine q0i (C := cfg77) (rs := [.tmp 2]) (fun _ => []) Tryz.func77 rfl rfl rfl rfl rfl rfl ?_
 refine inQ ?_
 repeat' first
 | (with_reducible first | apply q0n | apply q0f | apply Wsq | apply Wbk | apply Wsk | apply Wex | apply Wrt | apply q0o | apply q0p | apply q0g | apply q0h | refine q0c rfl ?_ | apply q0q | apply q0r | apply And.intro)
 | (with_reducible refine Wrn hC ?_; intro K hK)
 | ((with_reducible first | refine q0w ?_ | refine q0m ?_); refine siQ ?_; (try simp (disch := omega) only [w64, wu8]))
 | ((first | refine Wcd rfl (fun h => ?_) fun h => ?_ | refine Wcu rfl (fun h => ?_) ?_ | refine Wcn rfl ?_ fun h => ?_) <;> (try replace h := q0a h) <;> try (exfalso; first | omega | exact absurd h (by decide)))
 | (refine Wlp 5 rfl (ι := Nat) (fun i => mkS [(1, V.ptr 16 0), (3, V.d (.s ⟨(39 :: dblL (v.text.data.toList.take i)).toArray⟩)), (4, V.d (.i .i64 (i : Int)))] ([(16, .live (.box 76 [.d (.i .i64 v.kind), .d (.s v.text)]))])) (fun i => i ≤ v.text.size) (fun i => v.text.size - i) (0) ?_ ?_ (fun i hi => ?_) <;> (try dsimp only) <;> (try dsimp only at hi))
 | (refine Wnx 5 (i + 1) ?_ ?_ ?_ <;> (try dsimp only))
 | (refine q0j ?_; refine subQ ?_)
 | (subst hK)
 | exact trivial
 all_goals try (intros; assumption)
 all_goals try refine q07 ?_
 all_goals try replace hp := q0a hp
 all_goals try replace hi := q0a hi
 all_goals try (intros; first | trivial | omega)
 all_goals (try (rw [w64 (by omega) (by omega)]; first | done | omega))
 all_goals clear hC
 all_goals (try have hz := qdp hp)
 all_goals first
 | exact if_pos h
 | (have hd := q4i v.text i
    have hw : IntKind.i64.wrap ((i : Int) + 1) = (i : Int) + 1 := w64 (by omega) (by omega)
    first
     | (rw [hw]; omega)
     | (show 1 + (dblL _).length + 1 ≤ _; omega)
     | (show (dblL _).length + 1 + 1 ≤ _; omega)
     | (rw [hw, toN1]; have he := ext1 (s := v.text) (i := i) (by omega); show (dblL _).length + 1 + 1 + (v.text.extract i (i + 1)).size ≤ _; omega)
     | (rw [hw, toN1]; have he := ext1 (s := v.text) (i := i) (by omega); show (dblL _).length + 1 + (v.text.extract i (i + 1)).size ≤ _; omega)
     | (rw [hw, toN1]; exact wq_1 (by omega) (by assumption))
     | (rw [hw, toN1]; exact wq_0 (by omega) (by assumption))
     | exact q4j (by assumption) (by omega)
     | omega
     )
end
def cfg31 : Cfg := ⟨Tryz.prog, 61, qzv, mvs, [], (fun _ => none)⟩
theorem q8r : cfg31.pins = [] ∧ cfg31.P = Tryz.prog ∧ cfg31.N = 61 ∧ cfg31.ti 77 = none ∧ cfg31.T 77 = e77 ∧ cfg31.mv 77 = (fun _ => []) := by and_intros <;> exact rfl
section
attribute [local go_sem] q8r e77
attribute [local go_sem] q0k qba qbq qb4 q09 qbr qbs q0d qbd qcd qcy qce qcf q05 qbf qd6 qew List.length_map Int.toNat_natCast qld qkm
theorem qbcr (hC : COk cfg31) (c : CStr) (hp : cErr c = 0) : Sem Tryz.prog 31 [.d (q05 c)] (.d (.s (comT c))) := by
 refine q0i (C := cfg31) (rs := [.tmp 2]) (fun _ => []) Tryz.func31 rfl rfl rfl rfl rfl rfl ?_
 refine inQ ?_
 repeat' first
 | (with_reducible first | apply q0n | apply q0f | apply Wsq | apply Wbk | apply Wsk | apply Wex | apply Wrt | apply q0o | apply q0p | apply q0g | apply q0h | refine q0c rfl ?_ | apply q0q | apply q0r | apply And.intro)
 | (refine Wat 5 rfl ?_; have hga : ∀ z, (c.parts.map q0d).getD i z = q0d (c.parts.getD i q0b) := fun z => qdw (by omega) z)
 | (with_reducible first | (refine Whr hC ?_; intro K hK) | (refine Whd hC (by kernel_rfl) ?_; intro K hK))
 | (with_reducible refine Wrn hC ?_; intro K hK)
 | ((with_reducible first | refine q0w ?_ | refine q0m ?_); (first | (simp (maxSteps := 1000000) only [go_sem, ↓reduceIte, reduceCtorEq, Nat.reduceEqDiff, Nat.reduceLT, Nat.reduceLeDiff, Nat.reduceMul, Nat.reduceAdd, Nat.reduceSub, reduceDIte, Nat.reduceBEq, Nat.reduceBNe, hga]) | (refine siQ ?_)); (try simp (disch := omega) only [w64, wu8]))
 | ((first | refine Wcd rfl (fun h => ?_) fun h => ?_ | refine Wcu rfl (fun h => ?_) ?_ | refine Wcn rfl ?_ fun h => ?_) <;> (try replace h := q0a h) <;> try (exfalso; first | omega | exact absurd h (by decide)))
 | (refine Wlp 3 rfl (ι := Nat) (fun i => mkS [(1, V.ptr 16 0), (3, V.d (.s (comL c.name (c.parts.take i)))), (4, V.d (.i .i64 (i : Int)))] ([(16, .live (.box 33 [.d (.s c.name), .d (.sl 2 (c.parts.map q0d))]))])) (fun i => i ≤ c.parts.length) (fun i => c.parts.length - i) (0) ?_ ?_ (fun i hi => ?_) <;> (try dsimp only) <;> (try dsimp only at hi))
 | (refine Wnx 3 (i + 1) ?_ ?_ ?_ <;> (try dsimp only))
 | (refine Wlp 8 rfl (ι := Nat) (fun k => mkS [(1, V.ptr 16 0), (3, V.d (.s (comL c.name (c.parts.take i)))), (4, V.d (.i .i64 (i : Int))), (5, V.ptr 80 0), (6, V.d (.s (spJ (((c.parts.getD i q0b).values.take k).map writ)))), (7, V.d (.i .i64 (k : Int)))] ([(16, .live (.box 33 [.d (.s c.name), .d (.sl 2 (c.parts.map q0d))])), (80, .live (.box 70 [.d (.s (c.parts.getD i q0b).keyword), .d (.sl 2 ((c.parts.getD i q0b).values.map q0k))]))])) (fun k => k ≤ (c.parts.getD i q0b).values.length) (fun k => (c.parts.getD i q0b).values.length - k) (0) ?_ ?_ (fun k hk => ?_) <;> (try dsimp only) <;> (try dsimp only at hk))
 | (refine Wnx 8 (k + 1) ?_ ?_ ?_ <;> (try dsimp only))
 | (refine q0j ?_; refine subQ ?_)
 | (subst hK)
 | exact trivial
 all_goals try (intros; assumption)
 all_goals try refine q07 ?_
 all_goals try replace hp := q0a hp
 all_goals try replace hi := q0a hi
 all_goals try replace hk := q0a hk
 all_goals try (intros; first | trivial | omega)
 all_goals (try (rw [w64 (by omega) (by omega)]; first | done | omega))
 all_goals clear hC
 all_goals (try have hz := qi3 hp)
 all_goals (try have hs := qmh hp (i := i))
 all_goals first
 | exact qvz (by assumption)
 | (rw [w64 (by omega) (by omega)]; omega)
 | (have hq := hz.2.2 i (by omega)
    have hp2 := qgz hq
    have hw := qle hq (n := k)
    first
     | exact hp2.2.2.2 k (by omega)
     | (simp only [sz32, sz40, sz41]; omega)
     | (have hv := qs6 (hp2.2.2.2 k (by omega)); first | omega | (simp only [sz32, sz40, sz41]; omega))
     | exact qbak (by omega) (by omega)
     | exact qbal (by omega) (by omega)
     | exact qbam (by omega) (by omega) (by assumption)
     | exact qban (by omega) (by omega) hp2.2.1 (by assumption)
     | (rw [w64 (by omega) (by omega)]; omega)
     | omega
     )
 | omega
end
def cfg23 : Cfg := ⟨Tryz.prog, 35, qzw, mvs, [], (fun _ => none)⟩
theorem q8s : cfg23.pins = [] ∧ cfg23.P = Tryz.prog ∧ cfg23.N = 35 := ⟨rfl, rfl, rfl⟩
section
attribute [local go_sem] q8s
attribute [local go_sem] q0k qba qbq qb4 q09 qbr qbs q0d qbd qcd qcy qce qcf q05 qbf qd6 qew List.length_map Int.toNat_natCast List.map_append List.map_cons List.map_nil List.length_append List.length_cons List.length_nil qx3
theorem qbcs (hC : COk cfg23) (c : CStr) (hp : okC c) : Sem Tryz.prog 23 [.d (q05 c)] (.d (q05 c)) := by
 refine q0i (C := cfg23) (rs := [.cell 2 33]) (fun _ => []) Tryz.func23 rfl rfl rfl rfl rfl rfl ?_
 refine inQ ?_
 repeat' first
 | (with_reducible first | apply q0n | apply q0f | apply Wsq | apply Wbk | apply Wsk | apply Wex | apply Wrt | apply q0o | apply q0p | apply q0g | apply q0h | refine q0c rfl ?_ | apply q0q | apply q0r | apply And.intro)
 | (refine Wat 5 rfl ?_; have hga : ∀ z, (c.parts.map q0d).getD i z = q0d (c.parts.getD i q0b) := fun z => qdw (by omega) z)
 | (with_reducible first | (refine Whr hC ?_; intro K hK) | (refine Whd hC (by kernel_rfl) ?_; intro K hK))
 | (with_reducible first | (refine Wrn hC ?_; intro K hK) | (refine Wdr hC (by kernel_rfl) ?_; intro K hK))
 | ((with_reducible first | refine q0w ?_ | refine qdx ?_ | refine q0m ?_); (first | (simp (maxSteps := 1000000) only [go_sem, ↓reduceIte, reduceCtorEq, Nat.reduceEqDiff, Nat.reduceLT, Nat.reduceLeDiff, Nat.reduceMul, Nat.reduceAdd, Nat.reduceSub, reduceDIte, Nat.reduceBEq, Nat.reduceBNe, hga]) | (refine siQ ?_)); (try simp (disch := omega) only [w64, wu8]))
 | (with_reducible refine qc7 (by kernel_rfl) ?_)
 | ((first | refine Wcd rfl (fun h => ?_) fun h => ?_ | refine Wcu rfl (fun h => ?_) ?_ | refine Wcn rfl ?_ fun h => ?_) <;> (try replace h := q0a h) <;> try (exfalso; first | omega | exact absurd h (by decide)))
 | (refine Wlp 3 rfl (ι := Nat) (fun i => mkS [(1, V.ptr 16 0), (2, V.ptr 32 0), (3, V.ptr 48 0), (4, V.d (.i .i64 (i : Int)))] ([(16, .live (.box 33 [.d (.s c.name), .d (.sl 2 (c.parts.map q0d))])), (32, .live (.box 33 [.d (.s ⟨#[]⟩), .d .nil])), (48, .live (.box 33 [.d (.s c.name), V.row 64 2 0 (c.parts.take i).length])), (64, .live (.row 70 2 false ((c.parts.take i).map q0d)))])) (fun i => i ≤ c.parts.length) (fun i => c.parts.length - i) (0) ?_ ?_ (fun i hi => ?_) <;> (try dsimp only) <;> (try dsimp only at hi))
 | (refine Wnx 3 (i + 1) ?_ ?_ ?_ <;> (try dsimp only))
 | (refine q0j ?_; refine subQ ?_)
 | (subst hK)
 | exact trivial
 all_goals try (intros; assumption)
 all_goals try refine q07 ?_
 all_goals try replace hp := q0a hp
 all_goals try replace hi := q0a hi
 all_goals try (intros; first | trivial | omega)
 all_goals (try (rw [w64 (by omega) (by omega)]; first | done | omega))
 all_goals clear hC
 all_goals (have g1 := hp.1)
 all_goals (try have g2 := (hp.2 i).1)
 all_goals first
 | omega
 | (rw [w64 (by omega) (by omega)]; omega)
 | (rw [List.length_take]; omega)
 | (rw [List.length_take, List.length_take]; omega)
 | (intro d hd; subst hd; exact ⟨rfl, by simp [D.cells, D.one]⟩)
 | (rw [qej q0b (by omega), List.map_append, List.map_cons, List.map_nil]; exact q00 _)
 | (rw [List.take_of_length_le (by omega)]; exact q00 _)
end
end
end Go.Ev
