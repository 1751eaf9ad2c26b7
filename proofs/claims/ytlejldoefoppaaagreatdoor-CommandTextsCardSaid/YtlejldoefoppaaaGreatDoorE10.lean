/- Tools and contracts under the laws of this seat: Dtc21, Dtc9. -/
import Derived.Test.YtlejldoefoppaaaGreatDoorE07
set_option linter.unusedVariables false
set_option linter.unusedSimpArgs false
namespace Go.Ev
noncomputable section
open Go.Proofs Ty
set_option maxRecDepth 10000
set_option maxHeartbeats 4000000
attribute [local go_sem] q0t qbl qc7 qd3 qb1 qc8 qc9 q0d qbo qdw qeu qdx qdy q08 qbv qf1 qhd
def cfg21 : Cfg := ⟨Tryz.prog, 47, qvj, mvs, [], (fun _ => none)⟩
theorem q16 : cfg21.pins = [] ∧ cfg21.P = Tryz.prog ∧ cfg21.N = 47 := ⟨rfl, rfl, rfl⟩
section
attribute [local go_sem] q16
attribute [local go_sem] List.length_map Int.toNat_natCast
theorem q5p (hC : COk cfg21) (c : CStr) : Sem Tryz.prog 21 [.d (q08 c)] (.d (.b (fewS c))) := by
 refine q0i (C := cfg21) (rs := [.tmp 2]) (fun _ => []) Tryz.func21 rfl rfl rfl rfl rfl rfl ?_
 refine inQ ?_
 repeat' first
 | (with_reducible first | apply q0x | apply q0f | apply Wsq | apply Wbk | apply Wsk | apply Wex | apply Wrt | apply q0y | apply q0z | apply q0g | apply q0h | refine q0e rfl ?_ | apply q00 | apply q01 | apply And.intro)
 | (refine Wat 6 rfl ?_; have hga : ∀ z, (c.parts.map q0d).getD i z = q0d (c.parts.getD i q0b) := fun z => qdr (by omega) z)
 | (refine Wat 9 rfl ?_; have hga : ∀ z, (c.parts.map q0d).getD i z = q0d (c.parts.getD i q0b) := fun z => qdr (by omega) z)
 | (refine Wat 11 rfl ?_; have hga : ∀ z, (c.parts.map q0d).getD i z = q0d (c.parts.getD i q0b) := fun z => qdr (by omega) z)
 | (with_reducible first | (refine Whr hC ?_; intro K hK) | (refine Whd hC (by kernel_rfl) ?_; intro K hK))
 | (with_reducible refine Wrn hC ?_; intro K hK)
 | ((with_reducible first | refine q05 ?_ | refine q0w ?_); (first | (simp (maxSteps := 1000000) only [go_sem, ↓reduceIte, reduceCtorEq, Nat.reduceEqDiff, Nat.reduceLT, Nat.reduceLeDiff, Nat.reduceMul, Nat.reduceAdd, Nat.reduceSub, reduceDIte, Nat.reduceBEq, Nat.reduceBNe, hga]) | (refine siQ ?_)); (try simp (disch := omega) only [w64, wu8]))
 | ((first | refine Wcd rfl (fun h => ?_) fun h => ?_ | refine Wcu rfl (fun h => ?_) ?_ | refine Wcn rfl ?_ fun h => ?_) <;> (try replace h := q0c h) <;> try (exfalso; first | omega | exact absurd h (by decide)))
 | (refine Wlp 4 rfl (ι := Nat) (fun i => mkS [(1, V.ptr 16 0), (3, V.d (.i .i64 (i : Int)))] ([(16, .live (.box 33 [.d (.s c.name), .d (.sl 2 (c.parts.map q0d))]))])) (fun i => i ≤ c.parts.length ∧ c.parts.length ≤ 13 ∧ ∀ j, j < i → bigP c j = 0) (fun i => c.parts.length - i) (0) ?_ ?_ (fun i hi => ?_) <;> (try dsimp only) <;> (try dsimp only at hi))
 | (refine Wnx 4 (i + 1) ?_ ?_ ?_ <;> (try dsimp only))
 | (refine Wlp 9 rfl (ι := Nat) (fun k => mkS [(1, V.ptr 16 0), (3, V.d (.i .i64 (i : Int))), (4, V.d (.i .i64 (k : Int)))] ([(16, .live (.box 33 [.d (.s c.name), .d (.sl 2 (c.parts.map q0d))]))])) (fun k => k ≤ (c.parts.getD i q0b).values.length ∧ (c.parts.getD i q0b).values.length ≤ 11 ∧ ∀ j, j < k → bigV (c.parts.getD i q0b) j = 0) (fun k => (c.parts.getD i q0b).values.length - k) (0) ?_ ?_ (fun k hk => ?_) <;> (try dsimp only) <;> (try dsimp only at hk))
 | (refine Wnx 9 (k + 1) ?_ ?_ ?_ <;> (try dsimp only))
 | (refine q0o ?_; refine subQ ?_)
 | (subst hK)
 | exact trivial
 all_goals try (intros; assumption)
 all_goals try refine qbd ?_
 all_goals try replace hi := q0c hi
 all_goals try replace hj := q0c hj
 all_goals try replace hk := q0c hk
 all_goals try (intros; first | trivial | omega)
 all_goals (try (rw [w64 (by omega) (by omega)]; first | done | omega))
 all_goals clear hC
 all_goals first
 | exact q3c h
 | exact q3d hi.2.1 (by omega) hi.2.2 h
 | exact q3e hi.2.1 (by omega) hi.2.2 (by omega) (by omega) hk.2.2 h
 | exact q4p hi.2.1 (by omega) hi.2.2
 | exact qf4 (f := bigV (c.parts.getD i q0b)) hk.2.2 (if_neg (by omega))
 | exact qf4 (f := bigP c) hi.2.2 (q3f (by omega) fun j hj => hk.2.2 j (by omega))
 | omega
 | (rw [w64 (by omega) (by omega)]; omega)
end
def cfg9 : Cfg := ⟨Tryz.prog, 36, qvk, mvs, [], (fun _ => none)⟩
theorem q3x : cfg9.pins = [] ∧ cfg9.P = Tryz.prog ∧ cfg9.N = 36 ∧ cfg9.T 13 = e13 ∧ cfg9.mv 13 = (fun _ => []) ∧ cfg9.T 21 = e21 ∧ cfg9.mv 21 = (fun _ => []) ∧ cfg9.T 23 = e23 ∧ cfg9.mv 23 = (fun _ => []) ∧ cfg9.T 31 = e31 ∧ cfg9.mv 31 = (fun _ => []) ∧ cfg9.T 34 = e34 ∧ cfg9.mv 34 = (fun _ => []) ∧ cfg9.T 36 = e36 ∧ cfg9.mv 36 = (fun _ => []) ∧ cfg9.ti = (fun _ => none) := by and_intros <;> exact rfl
section
attribute [local go_sem] q3x e13 e21 e23 e31 e34 e36
theorem con9 (hC : COk cfg9) (c : CStr) : Sem Tryz.prog 9 [.d (q08 c)] (.d (.b true)) := by
 refine q0i (C := cfg9) (rs := [.tmp 2]) (fun _ => []) Tryz.func9 rfl rfl rfl rfl rfl rfl ?_
 refine inQ ?_
 repeat' first
 | (with_reducible first | apply q0x | apply q0f | apply Wsq | apply Wbk | apply Wsk | apply Wex | apply Wrt | apply q0y | apply q0z | apply q0g | apply q0h | refine q0e rfl ?_ | apply q00 | apply q01 | apply And.intro)
 | (with_reducible refine Wrn hC ?_; intro K hK)
 | ((with_reducible first | refine q05 ?_ | refine q0w ?_); refine siQ ?_; (try simp (disch := omega) only [w64, wu8]))
 | ((first | refine Wcd rfl (fun h => ?_) fun h => ?_ | refine Wcu rfl (fun h => ?_) ?_ | refine Wcn rfl ?_ fun h => ?_) <;> (try replace h := q0c h) <;> try (exfalso; first | omega | exact absurd h (by decide)))
 | (refine q0o ?_; refine subQ ?_)
 | (subst hK)
 | exact trivial
 all_goals try (intros; assumption)
 all_goals try refine qbd ?_
 all_goals try (intros; first | trivial | omega)
 all_goals (try (rw [w64 (by omega) (by omega)]; first | done | omega))
 all_goals clear hC
 all_goals first
 | exact q2u (by assumption)
 | (rw [if_neg (by assumption)]; rfl)
 | (have e : cErr c = 0 := by assumption
    rw [if_pos e, e]; simp)
 | assumption
end
end
end Go.Ev
