/- Tools and contracts under the laws of this seat: Dtc21 to Dtc97. -/
import Derived.Test.YtlejldoefoppaaaGreatDoorE07
set_option linter.unusedVariables false
set_option linter.unusedSimpArgs false
namespace Go.Ev
noncomputable section
open Go.Proofs Ty
set_option maxRecDepth 10000
set_option maxHeartbeats 4000000
def cfg21 : Cfg := ⟨Tryz.prog, 47, qzx, mvs, [], (fun _ => none)⟩
theorem q8t : cfg21.pins = [] ∧ cfg21.P = Tryz.prog ∧ cfg21.N = 47 := ⟨rfl, rfl, rfl⟩
section
attribute [local go_sem] q8t
attribute [local go_sem] q0k qba qbq qb4 q09 qbr qbs q0d qbd qcd qcy qce qcf q05 qbf qd6 qew List.length_map Int.toNat_natCast
theorem qbct (hC : COk cfg21) (c : CStr) : Sem Tryz.prog 21 [.d (q05 c)] (.d (.b (fewS c))) := by
 refine q0i (C := cfg21) (rs := [.tmp 2]) (fun _ => []) Tryz.func21 rfl rfl rfl rfl rfl rfl ?_
 refine inQ ?_
 repeat' first
 | (with_reducible first | apply q0n | apply q0f | apply Wsq | apply Wbk | apply Wsk | apply Wex | apply Wrt | apply q0o | apply q0p | apply q0g | apply q0h | refine q0c rfl ?_ | apply q0q | apply q0r | apply And.intro)
 | (refine Wat 6 rfl ?_; have hga : ∀ z, (c.parts.map q0d).getD i z = q0d (c.parts.getD i q0b) := fun z => qdw (by omega) z)
 | (refine Wat 9 rfl ?_; have hga : ∀ z, (c.parts.map q0d).getD i z = q0d (c.parts.getD i q0b) := fun z => qdw (by omega) z)
 | (refine Wat 11 rfl ?_; have hga : ∀ z, (c.parts.map q0d).getD i z = q0d (c.parts.getD i q0b) := fun z => qdw (by omega) z)
 | (with_reducible first | (refine Whr hC ?_; intro K hK) | (refine Whd hC (by kernel_rfl) ?_; intro K hK))
 | (with_reducible refine Wrn hC ?_; intro K hK)
 | ((with_reducible first | refine q0w ?_ | refine q0m ?_); (first | (simp (maxSteps := 1000000) only [go_sem, ↓reduceIte, reduceCtorEq, Nat.reduceEqDiff, Nat.reduceLT, Nat.reduceLeDiff, Nat.reduceMul, Nat.reduceAdd, Nat.reduceSub, reduceDIte, Nat.reduceBEq, Nat.reduceBNe, hga]) | (refine siQ ?_)); (try simp (disch := omega) only [w64, wu8]))
 | ((first | refine Wcd rfl (fun h => ?_) fun h => ?_ | refine Wcu rfl (fun h => ?_) ?_ | refine Wcn rfl ?_ fun h => ?_) <;> (try replace h := q0a h) <;> try (exfalso; first | omega | exact absurd h (by decide)))
 | (refine Wlp 4 rfl (ι := Nat) (fun i => mkS [(1, V.ptr 16 0), (3, V.d (.i .i64 (i : Int)))] ([(16, .live (.box 33 [.d (.s c.name), .d (.sl 2 (c.parts.map q0d))]))])) (fun i => i ≤ c.parts.length ∧ c.parts.length ≤ 13 ∧ ∀ j, j < i → bigP c j = 0) (fun i => c.parts.length - i) (0) ?_ ?_ (fun i hi => ?_) <;> (try dsimp only) <;> (try dsimp only at hi))
 | (refine Wnx 4 (i + 1) ?_ ?_ ?_ <;> (try dsimp only))
 | (refine Wlp 9 rfl (ι := Nat) (fun k => mkS [(1, V.ptr 16 0), (3, V.d (.i .i64 (i : Int))), (4, V.d (.i .i64 (k : Int)))] ([(16, .live (.box 33 [.d (.s c.name), .d (.sl 2 (c.parts.map q0d))]))])) (fun k => k ≤ (c.parts.getD i q0b).values.length ∧ (c.parts.getD i q0b).values.length ≤ 11 ∧ ∀ j, j < k → bigV (c.parts.getD i q0b) j = 0) (fun k => (c.parts.getD i q0b).values.length - k) (0) ?_ ?_ (fun k hk => ?_) <;> (try dsimp only) <;> (try dsimp only at hk))
 | (refine Wnx 9 (k + 1) ?_ ?_ ?_ <;> (try dsimp only))
 | (refine q0j ?_; refine subQ ?_)
 | (subst hK)
 | exact trivial
 all_goals try (intros; assumption)
 all_goals try refine q07 ?_
 all_goals try replace hi := q0a hi
 all_goals try replace hj := q0a hj
 all_goals try replace hk := q0a hk
 all_goals try (intros; first | trivial | omega)
 all_goals (try (rw [w64 (by omega) (by omega)]; first | done | omega))
 all_goals clear hC
 all_goals first
 | exact qbao h
 | exact qbap hi.2.1 (by omega) hi.2.2 h
 | exact qbaq hi.2.1 (by omega) hi.2.2 (by omega) (by omega) hk.2.2 h
 | exact qbby hi.2.1 (by omega) hi.2.2
 | exact qhg (f := bigV (c.parts.getD i q0b)) hk.2.2 (if_neg (by omega))
 | exact qhg (f := bigP c) hi.2.2 (qbar (by omega) fun j hj => hk.2.2 j (by omega))
 | omega
 | (rw [w64 (by omega) (by omega)]; omega)
end
def cfg9 : Cfg := ⟨Tryz.prog, 36, qzy, mvs, [], (fun _ => none)⟩
theorem qba7 : cfg9.pins = [] ∧ cfg9.P = Tryz.prog ∧ cfg9.N = 36 ∧ cfg9.T 13 = e13 ∧ cfg9.mv 13 = (fun _ => []) ∧ cfg9.T 21 = e21 ∧ cfg9.mv 21 = (fun _ => []) ∧ cfg9.T 23 = e23 ∧ cfg9.mv 23 = (fun _ => []) ∧ cfg9.T 31 = e31 ∧ cfg9.mv 31 = (fun _ => []) ∧ cfg9.T 34 = e34 ∧ cfg9.mv 34 = (fun _ => []) ∧ cfg9.T 36 = e36 ∧ cfg9.mv 36 = (fun _ => []) ∧ cfg9.ti = (fun _ => none) := by and_intros <;> exact rfl
section
attribute [local go_sem] qba7 e13 e21 e23 e31 e34 e36
attribute [local go_sem] q0k qba qbq qb4 q09 qbr qbs q0d qbd qcd qcy qce qcf q05 qbf qd6 qew
theorem con9 (hC : COk cfg9) (c : CStr) : Sem Tryz.prog 9 [.d (q05 c)] (.d (.b true)) := by
 refine q0i (C := cfg9) (rs := [.tmp 2]) (fun _ => []) Tryz.func9 rfl rfl rfl rfl rfl rfl ?_
 refine inQ ?_
 repeat' first
 | (with_reducible first | apply q0n | apply q0f | apply Wsq | apply Wbk | apply Wsk | apply Wex | apply Wrt | apply q0o | apply q0p | apply q0g | apply q0h | refine q0c rfl ?_ | apply q0q | apply q0r | apply And.intro)
 | (with_reducible refine Wrn hC ?_; intro K hK)
 | ((with_reducible first | refine q0w ?_ | refine q0m ?_); refine siQ ?_; (try simp (disch := omega) only [w64, wu8]))
 | ((first | refine Wcd rfl (fun h => ?_) fun h => ?_ | refine Wcu rfl (fun h => ?_) ?_ | refine Wcn rfl ?_ fun h => ?_) <;> (try replace h := q0a h) <;> try (exfalso; first | omega | exact absurd h (by decide)))
 | (refine q0j ?_; refine subQ ?_)
 | (subst hK)
 | exact trivial
 all_goals try (intros; assumption)
 all_goals try refine q07 ?_
 all_goals try (intros; first | trivial | omega)
 all_goals (try (rw [w64 (by omega) (by omega)]; first | done | omega))
 all_goals clear hC
 all_goals first
 | exact qqm (by assumption)
 | (rw [if_neg (by assumption)]; rfl)
 | (have e : cErr c = 0 := by assumption
    rw [if_pos e, e]; simp)
 | assumption
end
def cfg126 : Cfg := ⟨Tryz.prog, 17, qwe, mvs, [], (fun _ => none)⟩
theorem q47 : cfg126.pins = [] ∧ cfg126.P = Tryz.prog ∧ cfg126.N = 17 := ⟨rfl, rfl, rfl⟩
section
attribute [local go_sem] q47
theorem qba8 (hC : COk cfg126) (c : Int) : Sem Tryz.prog 126 [.d (.i .u8 c)] (.d (.b (endC c))) := by
 refine q0i (C := cfg126) (rs := [.tmp 2]) (fun _ => []) Tryz.func126 rfl rfl rfl rfl rfl rfl ?_
 refine inQ ?_
 repeat' first
 | (with_reducible first | apply q0n | apply q0f | apply Wsq | apply Wbk | apply Wsk | apply Wex | apply Wrt | apply q0o | apply q0p | apply q0g | apply q0h | refine q0c rfl ?_ | apply q0q | apply q0r | apply And.intro)
 | (with_reducible refine Wrn hC ?_; intro K hK)
 | ((with_reducible first | refine q0w ?_ | refine q0m ?_); refine siQ ?_; (try simp (disch := omega) only [w64, wu8]))
 | ((first | refine Wcd rfl (fun h => ?_) fun h => ?_ | refine Wcu rfl (fun h => ?_) ?_ | refine Wcn rfl ?_ fun h => ?_) <;> (try replace h := q0a h) <;> try (exfalso; first | omega | exact absurd h (by decide)))
 | (refine q0j ?_; refine subQ ?_)
 | (subst hK)
 | exact trivial
 all_goals try (intros; assumption)
 all_goals try refine q07 ?_
 all_goals try (intros; first | trivial | omega)
 all_goals (try (rw [w64 (by omega) (by omega)]; first | done | omega))
 all_goals (simp [endC, *]; try omega)
end
def cfg96 : Cfg := ⟨Tryz.prog, 28, qwf, mvs, [], (fun _ => none)⟩
theorem q8u : cfg96.pins = [] ∧ cfg96.P = Tryz.prog ∧ cfg96.N = 28 := ⟨rfl, rfl, rfl⟩
section
attribute [local go_sem] q8u
attribute [local go_sem] Int.toNat_natCast qd4
theorem qbcu (hC : COk cfg96) (r : Rd) (c : Int) (hp : r.pos ≤ 401 ∧ r.s.size ≤ 400) : Sem Tryz.prog 96 [.d (.cp [.s r.s, .i .i64 (r.pos : Int), .i .i64 r.place, .i .i64 r.err]), .d (.i .u8 c)] (.d (.b (isAt r.s r.pos c))) := by
 refine q0i (C := cfg96) (rs := [.tmp 4]) (fun _ => []) Tryz.func96 rfl rfl rfl rfl rfl rfl ?_
 refine inQ ?_
 repeat' first
 | (with_reducible first | apply q0n | apply q0f | apply Wsq | apply Wbk | apply Wsk | apply Wex | apply Wrt | apply q0o | apply q0p | apply q0g | apply q0h | refine q0c rfl ?_ | apply q0q | apply q0r | apply And.intro)
 | (with_reducible first | (refine Wrn hC ?_; intro K hK) | (refine Wdr hC (by kernel_rfl) ?_; intro K hK))
 | ((with_reducible first | refine q0w ?_ | refine qdx ?_ | refine q0m ?_); refine siQ ?_; (try simp (disch := omega) only [w64, wu8]))
 | (with_reducible refine qc7 (by kernel_rfl) ?_)
 | ((first | refine Wcd rfl (fun h => ?_) fun h => ?_ | refine Wcu rfl (fun h => ?_) ?_ | refine Wcn rfl ?_ fun h => ?_) <;> (try replace h := q0a h) <;> try (exfalso; first | omega | exact absurd h (by decide)))
 | (refine q0j ?_; refine subQ ?_)
 | (subst hK)
 | exact trivial
 all_goals try (intros; assumption)
 all_goals try refine q07 ?_
 all_goals try replace hp := q0a hp
 all_goals try (intros; first | trivial | omega)
 all_goals (try (rw [w64 (by omega) (by omega)]; first | done | omega))
 all_goals (unfold isAt; rw [Bool.eq_iff_iff]; simp)
end
def cfg54 : Cfg := ⟨Tryz.prog, 19, qzz, mvs, [0], (fun _ => none)⟩
theorem q8v : cfg54.pins = [0] ∧ cfg54.P = Tryz.prog ∧ cfg54.N = 19 := ⟨rfl, rfl, rfl⟩
section
attribute [local go_sem] q8v
theorem qbcv (hC : COk cfg54) (r : Rd) (place : Int) (e : Int) : Sem Tryz.prog 54 [.bx 99 [.d (.s r.s), .d (.i .i64 (r.pos : Int)), .d (.i .i64 r.place), .d (.i .i64 r.err)], .d (.i .i64 place), .d (.i .i64 e)] (.tup [.bx 99 [.d (.s r.s), .d (.i .i64 (r.pos : Int)), .d (.i .i64 (fP r.err r.place place)), .d (.i .i64 (fE r.err e))]]) := by
 refine q0i (C := cfg54) (rs := []) (fun j => if j = 0 then [(4242, 99, 0)] else []) Tryz.func54 rfl rfl rfl rfl rfl rfl ?_
 refine inQ ?_
 repeat' first
 | (with_reducible first | apply q0n | apply q0f | apply Wsq | apply Wbk | apply Wsk | apply Wex | apply Wrt | apply q0o | apply q0p | apply q0g | apply q0h | refine q0c rfl ?_ | apply q0q | apply q0r | apply And.intro)
 | (with_reducible refine Wrn hC ?_; intro K hK)
 | ((with_reducible first | refine q0w ?_ | refine q0m ?_); refine siQ ?_; (try simp (disch := omega) only [w64, wu8]))
 | ((first | refine Wcd rfl (fun h => ?_) fun h => ?_ | refine Wcu rfl (fun h => ?_) ?_ | refine Wcn rfl ?_ fun h => ?_) <;> (try replace h := q0a h) <;> try (exfalso; first | omega | exact absurd h (by decide)))
 | (refine q0j ?_; refine subQ ?_)
 | (subst hK)
 | exact trivial
 all_goals try (intros; assumption)
 all_goals try refine q07 ?_
 all_goals try (intros; first | trivial | omega)
 all_goals (try (rw [w64 (by omega) (by omega)]; first | done | omega))
 all_goals (simp [fP, fE, *])
end
def cfg53 : Cfg := ⟨Tryz.prog, 31, qz0, mvs, [0], (fun _ => none)⟩
theorem q8w : cfg53.pins = [0] ∧ cfg53.P = Tryz.prog ∧ cfg53.N = 31 := ⟨rfl, rfl, rfl⟩
section
attribute [local go_sem] q8w
attribute [local go_sem] Int.toNat_natCast qd4
theorem qbcw (hC : COk cfg53) (r : Rd) (hp : r.pos ≤ 401 ∧ r.s.size ≤ 400) : Sem Tryz.prog 53 [.bx 99 [.d (.s r.s), .d (.i .i64 (r.pos : Int)), .d (.i .i64 r.place), .d (.i .i64 r.err)]] (.tup [.bx 99 [.d (.s r.blanks.s), .d (.i .i64 (r.blanks.pos : Int)), .d (.i .i64 r.blanks.place), .d (.i .i64 r.blanks.err)]]) := by
 refine q0i (C := cfg53) (rs := []) (fun j => if j = 0 then [(4242, 99, 0)] else []) Tryz.func53 rfl rfl rfl rfl rfl rfl ?_
 refine inQ ?_
 repeat' first
 | (with_reducible first | apply q0n | apply q0f | apply Wsq | apply Wbk | apply Wsk | apply Wex | apply Wrt | apply q0o | apply q0p | apply q0g | apply q0h | refine q0c rfl ?_ | apply q0q | apply q0r | apply And.intro)
 | (with_reducible first | (refine Wrn hC ?_; intro K hK) | (refine Wdr hC (by kernel_rfl) ?_; intro K hK))
 | ((with_reducible first | refine q0w ?_ | refine qdx ?_ | refine q0m ?_); refine siQ ?_; (try simp (disch := omega) only [w64, wu8]))
 | (with_reducible refine qc7 (by kernel_rfl) ?_)
 | ((first | refine Wcd rfl (fun h => ?_) fun h => ?_ | refine Wcu rfl (fun h => ?_) ?_ | refine Wcn rfl ?_ fun h => ?_) <;> (try replace h := q0a h) <;> try (exfalso; first | omega | exact absurd h (by decide)))
 | (refine Wlp 0 rfl (ι := Nat) (fun i => mkS [(0, .ptr 0 0)] ([(0, .live (.box 99 [.d (.s r.s), .d (.i .i64 (i : Int)), .d (.i .i64 r.place), .d (.i .i64 r.err)]))])) (fun i => r.pos ≤ i ∧ (i ≤ r.s.size ∨ i = r.pos) ∧ ∀ k, r.pos ≤ k → k < i → isBl (chr r.s k) = true) (fun i => r.s.size - i) (r.pos) ?_ ?_ (fun i hi => ?_) <;> (try dsimp only) <;> (try dsimp only at hi))
 | (refine Wnx 0 (i + 1) ?_ ?_ ?_ <;> (try dsimp only))
 | (refine q0j ?_; refine subQ ?_)
 | (subst hK)
 | exact trivial
 all_goals try (intros; assumption)
 all_goals try refine q07 ?_
 all_goals try replace hp := q0a hp
 all_goals try replace hi := q0a hi
 all_goals try (intros; first | trivial | omega)
 all_goals (try (rw [w64 (by omega) (by omega)]; first | done | omega))
 all_goals first
 | omega
 | exact qsp hi.2.2 (qva.2 (by omega))
 | exact .inr trivial
 | exact .inr rfl
 | (intros; omega)
 | (by_cases e : i ≤ r.s.size
    ·rw [show r.blanks.pos = i from qri hi.1 e hi.2.2 (by rw [← Bool.not_eq_true, qva]; omega)]
    ·rw [show r.blanks.pos = i from by
      have : i = r.pos := by omega
      subst this
      exact qu9 (by omega)])
end
def cfg95 : Cfg := ⟨Tryz.prog, 49, qz1, mvs, [0], (fun _ => none)⟩
theorem q8x : cfg95.pins = [0] ∧ cfg95.P = Tryz.prog ∧ cfg95.N = 49 ∧ cfg95.T 126 = e126 ∧ cfg95.mv 126 = (fun _ => []) ∧ cfg95.T 127 = e127 ∧ cfg95.mv 127 = (fun _ => []) ∧ cfg95.ti = (fun _ => none) := by and_intros <;> exact rfl
section
attribute [local go_sem] q8x e126 e127
attribute [local go_sem] Int.toNat_natCast qd4
theorem qbcx (hC : COk cfg95) (r : Rd) (hp : r.pos ≤ r.s.size ∧ asc r.s) : Sem Tryz.prog 95 [.bx 99 [.d (.s r.s), .d (.i .i64 (r.pos : Int)), .d (.i .i64 r.place), .d (.i .i64 r.err)]] (.tup [.d (.s r.wtxt), .bx 99 [.d (.s r.word.s), .d (.i .i64 (r.word.pos : Int)), .d (.i .i64 r.word.place), .d (.i .i64 r.word.err)]]) := by
 refine q0i (C := cfg95) (rs := [.tmp 2]) (fun j => if j = 1 then [(4242, 99, 0)] else []) Tryz.func95 rfl rfl rfl rfl rfl rfl ?_
 refine inQ ?_
 repeat' first
 | (with_reducible first | apply q0n | apply q0f | apply Wsq | apply Wbk | apply Wsk | apply Wex | apply Wrt | apply q0o | apply q0p | apply q0g | apply q0h | refine q0c rfl ?_ | apply q0q | apply q0r | apply And.intro)
 | (with_reducible first | (refine Wrn hC ?_; intro K hK) | (refine Wdr hC (by kernel_rfl) ?_; intro K hK))
 | ((with_reducible first | refine q0w ?_ | refine qdx ?_ | refine q0m ?_); refine siQ ?_; (try simp (disch := omega) only [w64, wu8]))
 | (with_reducible refine qc7 (by kernel_rfl) ?_)
 | ((first | refine Wcd rfl (fun h => ?_) fun h => ?_ | refine Wcu rfl (fun h => ?_) ?_ | refine Wcn rfl ?_ fun h => ?_) <;> (try replace h := q0a h) <;> try (exfalso; first | omega | exact absurd h (by decide)))
 | (refine Wlp 2 rfl (ι := Nat) (fun i => mkS [(0, .ptr 0 0), (3, V.d (.i .i64 (r.pos : Int)))] ([(0, .live (.box 99 [.d (.s r.s), .d (.i .i64 (i : Int)), .d (.i .i64 r.place), .d (.i .i64 r.err)]))])) (fun i => r.pos ≤ i ∧ i ≤ r.s.size ∧ r.s.size ≤ 400 ∧ ∀ k, r.pos ≤ k → k < i → inW (chr r.s k) = true) (fun i => r.s.size - i) (r.pos) ?_ ?_ (fun i hi => ?_) <;> (try dsimp only) <;> (try dsimp only at hi))
 | (refine Wnx 2 (i + 1) ?_ ?_ ?_ <;> (try dsimp only))
 | (refine q0j ?_; refine subQ ?_)
 | (subst hK)
 | exact trivial
 all_goals try (intros; assumption)
 all_goals try refine q07 ?_
 all_goals try replace hp := q0a hp
 all_goals try replace hi := q0a hi
 all_goals try (intros; first | trivial | omega)
 all_goals (try (rw [w64 (by omega) (by omega)]; first | done | omega))
 all_goals (try have hz := hp.2.1)
 all_goals first
 | omega
 | exact qsp hi.2.2.2 (by simp [inW, h.2])
 | exact (qjv hp.2 _ _).1
 | exact (qjv hp.2 _ _).2
 | (have hw : r.wend = i := qri hi.1 hi.2.1 hi.2.2.2 (by
     rcases h with h | h
     ·exact .inl (by omega)
     ·exact .inr (q64.1 h))
    first
     | (rw [Rd.wtxt, hw])
     | (show ((r.wend : Nat) : Int) = _; rw [hw]))
end
def cfg51 : Cfg := ⟨Tryz.prog, 9, qz2, mvs, [], (fun _ => none)⟩
theorem q8y : cfg51.pins = [] ∧ cfg51.P = Tryz.prog ∧ cfg51.N = 9 := ⟨rfl, rfl, rfl⟩
section
attribute [local go_sem] q8y
theorem qbcy (hC : COk cfg51) (c : Int) : Sem Tryz.prog 51 [.d (.i .u8 c)] (.d (.b (decide (c < 32) || decide (126 < c)))) := by
 refine q0i (C := cfg51) (rs := [.tmp 2]) (fun _ => []) Tryz.func51 rfl rfl rfl rfl rfl rfl ?_
 refine inQ ?_
 repeat' first
 | (with_reducible first | apply q0n | apply q0f | apply Wsq | apply Wbk | apply Wsk | apply Wex | apply Wrt | apply q0o | apply q0p | apply q0g | apply q0h | refine q0c rfl ?_ | apply q0q | apply q0r | apply And.intro)
 | (with_reducible refine Wrn hC ?_; intro K hK)
 | ((with_reducible first | refine q0w ?_ | refine q0m ?_); refine siQ ?_; (try simp (disch := omega) only [w64, wu8]))
 | ((first | refine Wcd rfl (fun h => ?_) fun h => ?_ | refine Wcu rfl (fun h => ?_) ?_ | refine Wcn rfl ?_ fun h => ?_) <;> (try replace h := q0a h) <;> try (exfalso; first | omega | exact absurd h (by decide)))
 | (refine q0j ?_; refine subQ ?_)
 | (subst hK)
 | exact trivial
 all_goals try (intros; assumption)
 all_goals try refine q07 ?_
 all_goals try (intros; first | trivial | omega)
 all_goals (try (rw [w64 (by omega) (by omega)]; first | done | omega))
 all_goals (simp; try omega)
end
def cfg50 : Cfg := ⟨Tryz.prog, 19, qz3, mvs, [], (fun _ => none)⟩
theorem q8z : cfg50.pins = [] ∧ cfg50.P = Tryz.prog ∧ cfg50.N = 19 ∧ cfg50.ti 51 = none ∧ cfg50.T 51 = e51 ∧ cfg50.mv 51 = (fun _ => []) := by and_intros <;> exact rfl
section
attribute [local go_sem] q8z e51
attribute [local go_sem] Int.toNat_natCast qod
theorem qbcz (hC : COk cfg50) (l : List Int) (f : Unit) (hp : l.length ≤ 1000000) : Sem Tryz.prog 50 [.d (.sl 1 (l.map (D.i .u8))), .d (.fn 51 [])] (.d (.i .i64 (idxP badC l))) := by
 refine q0i (C := cfg50) (rs := [.tmp 4]) (fun _ => []) Tryz.func50 rfl rfl rfl rfl rfl rfl ?_
 refine inQ ?_
 repeat' first
 | (with_reducible first | apply q0n | apply q0f | apply Wsq | apply Wbk | apply Wsk | apply Wex | apply Wrt | apply q0o | apply q0p | apply q0g | apply q0h | refine q0c rfl ?_ | apply q0q | apply q0r | apply And.intro)
 | (with_reducible refine Wrn hC ?_; intro K hK)
 | ((with_reducible first | refine q0w ?_ | refine q0m ?_); refine siQ ?_; (try simp (disch := omega) only [w64, wu8]))
 | ((first | refine Wcd rfl (fun h => ?_) fun h => ?_ | refine Wcu rfl (fun h => ?_) ?_ | refine Wcn rfl ?_ fun h => ?_) <;> (try replace h := q0a h) <;> try (exfalso; first | omega | exact absurd h (by decide)))
 | (refine Wlp 2 rfl (ι := Nat) (fun i => mkS [(0, V.d (.sl 1 (l.map (D.i .u8)))), (1, V.d (.fn 51 [])), (7, V.d (.i .i64 (l.length : Int))), (8, V.d (.i .i64 (i : Int)))] ([])) (fun i => i ≤ l.length ∧ ∀ j, j < i → badC (l.getD j 0) = false) (fun i => l.length - i) (0) ?_ ?_ (fun i hi => ?_) <;> (try dsimp only) <;> (try dsimp only at hi))
 | (refine Wnx 2 (i + 1) ?_ ?_ ?_ <;> (try dsimp only))
 | (refine q0j ?_; refine subQ ?_)
 | (subst hK)
 | exact trivial
 all_goals try (intros; assumption)
 all_goals try refine q07 ?_
 all_goals try replace hp := q0a hp
 all_goals try replace hi := q0a hi
 all_goals try replace hj := q0a hj
 all_goals try (intros; first | trivial | omega)
 all_goals (try (rw [w64 (by omega) (by omega)]; first | done | omega))
 all_goals first
 | omega
 | (simp only [List.length_map]; done)
 | (simp only [List.length_map]; omega)
 | exact qrj (by omega) (by unfold badC; rw [Bool.or_eq_true, decide_eq_true_eq, decide_eq_true_eq]; exact h) hi.2
 | exact qkb fun j hj => hi.2 j (by omega)
 | exact fun j hj => if e : j < i then hi.2 j e else by
    have : j = i := by omega
    subst this
    unfold badC; rw [Bool.or_eq_false_iff, decide_eq_false_iff_not, decide_eq_false_iff_not]; omega
end
def cfg128 : Cfg := ⟨Tryz.prog, 82, qz4, mvs, [0], (fun _ => none)⟩
theorem q48 : cfg128.pins = [0] ∧ cfg128.P = Tryz.prog ∧ cfg128.N = 82 ∧ cfg128.T 54 = e54 ∧ cfg128.mv 54 = (fun j => if j = 0 then [(4242, 99, 0)] else []) ∧ cfg128.T 96 = e96 ∧ cfg128.mv 96 = (fun _ => []) ∧ cfg128.ti = (fun _ => none) := by and_intros <;> exact rfl
section
attribute [local go_sem] q48 e54 e96
attribute [local go_sem] q0k qba qbq qb4 q09 qbr qbs Int.toNat_natCast_add_one qim qha qin List.length_map List.map_append List.map_cons List.map_nil List.length_append List.length_cons List.length_nil Int.toNat_natCast qd4
theorem qba9 (hC : COk cfg128) (r : Rd) (hp : r.pos < r.s.size ∧ asc r.s) : Sem Tryz.prog 128 [.bx 99 [.d (.s r.s), .d (.i .i64 (r.pos : Int)), .d (.i .i64 r.place), .d (.i .i64 r.err)]] (.tup [.d (q0k r.qval), .bx 99 [.d (.s r.quoted.s), .d (.i .i64 (r.quoted.pos : Int)), .d (.i .i64 r.quoted.place), .d (.i .i64 r.quoted.err)]]) := by
 refine q0i (C := cfg128) (rs := [.cell 2 76]) (fun j => if j = 1 then [(4242, 99, 0)] else []) Tryz.func128 rfl rfl rfl rfl rfl rfl ?_
 refine inQ ?_
 repeat' first
 | (with_reducible first | apply q0n | apply q0f | apply Wsq | apply Wbk | apply Wsk | apply Wex | apply Wrt | apply q0o | apply q0p | apply q0g | apply q0h | refine q0c rfl ?_ | apply q0q | apply q0r | apply And.intro)
 | (with_reducible first | (refine Wrn hC ?_; intro K hK) | (refine Wdr hC (by kernel_rfl) ?_; intro K hK))
 | ((with_reducible first | refine q0w ?_ | refine qdx ?_ | refine q0m ?_); refine siQ ?_; (try simp (disch := omega) only [w64, wu8]))
 | (with_reducible refine qc7 (by kernel_rfl) ?_)
 | ((first | refine Wcd rfl (fun h => ?_) fun h => ?_ | refine Wcu rfl (fun h => ?_) ?_ | refine Wcn rfl ?_ fun h => ?_) <;> (try replace h := q0a h) <;> try (exfalso; first | omega | exact absurd h (by decide)))
 | (refine Wlp 4 rfl (ι := Nat × List Int) (fun p => mkS [(0, .ptr 0 0), (2, .ptr 32 0), (3, V.d (.i .i64 (r.pos : Int))), (4, V.row 64 1 0 p.2.length)] ([(0, .live (.box 99 [.d (.s r.s), .d (.i .i64 (p.1 : Int)), .d (.i .i64 r.place), .d (.i .i64 r.err)])), (32, .live (.box 76 [.d (.i .i64 0), .d (.s ⟨#[]⟩)])), (64, .live (.row 5 1 false (p.2.map (D.i .u8))))])) (fun p => p.1 ≤ r.s.size ∧ r.s.size ≤ 400 ∧ p.2.length ≤ p.1 ∧ r.qres = qq r.s p.1 p.2) (fun p => r.s.size - p.1) ((r.pos + 1, [])) ?_ ?_ (fun p hi => ?_) <;> (try dsimp only) <;> (try dsimp only at hi))
 | (refine Wnx 4 (qnx r.s p) ?_ ?_ ?_ <;> (try dsimp only))
 | (refine q0j ?_; refine subQ ?_)
 | (subst hK)
 | exact trivial
 all_goals try (intros; assumption)
 all_goals try refine q07 ?_
 all_goals try replace hp := q0a hp
 all_goals try replace hi := q0a hi
 all_goals try (intros; first | trivial | omega)
 all_goals (try (rw [w64 (by omega) (by omega)]; first | done | omega))
 all_goals (try simp only [isAt, Bool.and_eq_true, decide_eq_true_eq, Bool.and_eq_false_iff, decide_eq_false_iff_not] at *)
 all_goals (try have hz := hp.2.1)
 all_goals first
 | omega
 | (rw [w64 (by omega) (by omega)]; omega)
 | (simp only [List.length_nil]; omega)
 | rfl
 | (intro d hd; subst hd; exact ⟨rfl, by simp [D.cells, D.one]⟩)
 | (rw [qdk _ _ (by rw [List.length_map])]; exact qvb _)
 | (have c : chr r.s p.1 = 39 := by assumption
    have e : r.qres = (p.1 + 1, p.2, true) := hi.2.2.2.trans (qxr (by omega) c (by omega))
    simp [Rd.qval, Rd.quoted, Rd.to, e]
    try split
    all_goals first | rfl | omega | (simp; done) | (rw [qdk _ _ (by rw [List.length_map])]))
 | (have e : r.qres = (p.1, p.2, false) := hi.2.2.2.trans (q9y (by omega))
    simp [Rd.qval, Rd.quoted, Rd.to, Rd.fail, e, qbi])
 | (have c : chr r.s p.1 = 39 := by assumption
    have c2 : chr r.s (p.1 + 1) = 39 := by omega
    have e := hi.2.2.2.trans (q1k (by omega) c c2)
    rw [q65 c]
    first
     | omega
     | exact e
     | (rw [List.length_append]; simp; omega)
     | (simp [c2]; done)
     | (simp only [List.map_append, List.map_cons, List.map_nil, c2]; exact q00 _)
     )
 | (have c : ¬ chr r.s p.1 = 39 := by assumption
    have e := hi.2.2.2.trans (qxq (by omega) c)
    rw [q66 c]
    first
     | omega
     | exact e
     | (rw [List.length_append]; simp; omega)
     | (simp; done)
     | (simp only [List.map_append, List.map_cons, List.map_nil]; exact q00 _)
     )
end
def cfg98 : Cfg := ⟨Tryz.prog, 55, qwg, mvs, [0], (fun _ => none)⟩
theorem q80 : cfg98.pins = [0] ∧ cfg98.P = Tryz.prog ∧ cfg98.N = 55 ∧ cfg98.T 54 = e54 ∧ cfg98.mv 54 = (fun j => if j = 0 then [(4242, 99, 0)] else []) ∧ cfg98.T 95 = e95 ∧ cfg98.mv 95 = (fun j => if j = 0 then [(4242, 99, 0)] else []) ∧ cfg98.T 96 = e96 ∧ cfg98.mv 96 = (fun _ => []) ∧ cfg98.T 128 = e128 ∧ cfg98.mv 128 = (fun j => if j = 0 then [(4242, 99, 0)] else []) ∧ cfg98.ti = (fun _ => none) := by and_intros <;> exact rfl
section
attribute [local go_sem] q80 e54 e95 e96 e128
attribute [local go_sem] q0k qba qbq qb4 q09 qbr qbs Int.toNat_natCast_add_one qim qha qin List.length_map List.map_append List.map_cons List.map_nil List.length_append List.length_cons List.length_nil qpo qh0 qbe qcq Int.toNat_natCast qd4
theorem qbc0 (hC : COk cfg98) (r : Rd) (op : Bool) (hp : r.pos ≤ r.s.size ∧ asc r.s) : Sem Tryz.prog 98 [.bx 99 [.d (.s r.s), .d (.i .i64 (r.pos : Int)), .d (.i .i64 r.place), .d (.i .i64 r.err)], .d (.b op)] (.tup [.d (q0k r.valV), .bx 99 [.d (.s (r.valR.stop op).s), .d (.i .i64 ((r.valR.stop op).pos : Int)), .d (.i .i64 (r.valR.stop op).place), .d (.i .i64 (r.valR.stop op).err)]]) := by
 refine q0i (C := cfg98) (rs := [.cell 4 76]) (fun j => if j = 1 then [(4242, 99, 0)] else []) Tryz.func98 rfl rfl rfl rfl rfl rfl ?_
 refine inQ ?_
 repeat' first
 | (with_reducible first | apply q0n | apply q0f | apply Wsq | apply Wbk | apply Wsk | apply Wex | apply Wrt | apply q0o | apply q0p | apply q0g | apply q0h | refine q0c rfl ?_ | apply q0q | apply q0r | apply And.intro)
 | (with_reducible first | (refine Wrn hC ?_; intro K hK) | (refine Wdr hC (by kernel_rfl) ?_; intro K hK))
 | ((with_reducible first | refine q0w ?_ | refine qdx ?_ | refine q0m ?_); refine siQ ?_; (try simp (disch := omega) only [w64, wu8]))
 | (with_reducible refine qc7 (by kernel_rfl) ?_)
 | ((first | refine Wcd rfl (fun h => ?_) fun h => ?_ | refine Wcu rfl (fun h => ?_) ?_ | refine Wcn rfl ?_ fun h => ?_) <;> (try replace h := q0a h) <;> try (exfalso; first | omega | exact absurd h (by decide)))
 | (refine q0j ?_; refine subQ ?_)
 | (subst hK)
 | exact trivial
 all_goals try (intros; assumption)
 all_goals try refine q07 ?_
 all_goals try replace hp := q0a hp
 all_goals try (intros; first | trivial | omega)
 all_goals (try (rw [w64 (by omega) (by omega)]; first | done | omega))
 all_goals (try have hz := hp.2.1)
 all_goals (try have hw := qer hp.1)
 all_goals first
 | omega
 | exact hp.2
 | (have h39 : isAt r.s r.pos 39 = true := by assumption
    simp only [isAt, Bool.and_eq_true, decide_eq_true_eq] at h39
    omega)
 | (have h39 : isAt r.s r.pos 39 = true := by assumption
    have hq := qpq (r := r) (by simp only [isAt, Bool.and_eq_true, decide_eq_true_eq] at h39; omega)
    first
     | omega
     | (rw [qvc h39]; first
         | (rw [qgc (by rw [qcq]; exact h)]; done)
         | (rw [qgc (by rw [qcq]; exact h)]; first | rfl | exact qcq)
         | (rw [qhb (by rw [qcq]; exact h)]; done)
         | (rw [qhb (by rw [qcq]; exact h)]; first | rfl | exact qcq))
     | (simp_all [Rd.valV, Rd.valR, Rd.stop, Rd.is, Rd.fail, qcq]; done)
     | (cases op <;> simp_all [Rd.valV, Rd.valR, Rd.stop, Rd.is, Rd.fail, qcq] <;> done)
     )
 | (have h39 : isAt r.s r.pos 39 = false := by assumption
    first
     | omega
     | (rw [q1m h39 (by omega)]; first
         | (rw [qgc (r := r.word.fail r.pos 2) h]; done)
         | (rw [qgc (r := r.word.fail r.pos 2) h]; rfl)
         | (rw [qhb (r := r.word.fail r.pos 2) h]; done)
         | (rw [qhb (r := r.word.fail r.pos 2) h]; rfl))
     | (rw [q1n h39 (by omega)]; first
         | (rw [qgc (r := r.word) h]; done)
         | (rw [qgc (r := r.word) h]; rfl)
         | (rw [qhb (r := r.word) h]; done)
         | (rw [qhb (r := r.word) h]; rfl))
     | (simp_all [Rd.valV, Rd.valR, Rd.stop, Rd.is, Rd.fail, qh0]; done)
     | (cases op <;> simp_all [Rd.valV, Rd.valR, Rd.stop, Rd.is, Rd.fail, qh0] <;> done)
     )
end
def cfg52 : Cfg := ⟨Tryz.prog, 51, qz5, mvs, [0], (fun _ => none)⟩
theorem q81 : cfg52.pins = [0] ∧ cfg52.P = Tryz.prog ∧ cfg52.N = 51 ∧ cfg52.T 53 = e53 ∧ cfg52.mv 53 = (fun j => if j = 0 then [(4242, 99, 0)] else []) ∧ cfg52.T 54 = e54 ∧ cfg52.mv 54 = (fun j => if j = 0 then [(4242, 99, 0)] else []) ∧ cfg52.T 87 = e87 ∧ cfg52.mv 87 = (fun _ => []) ∧ cfg52.T 95 = e95 ∧ cfg52.mv 95 = (fun j => if j = 0 then [(4242, 99, 0)] else []) ∧ cfg52.T 96 = e96 ∧ cfg52.mv 96 = (fun _ => []) ∧ cfg52.ti = (fun _ => none) := by and_intros <;> exact rfl
section
attribute [local go_sem] q81 e53 e54 e87 e95 e96
attribute [local go_sem] q0k qba qbq qb4 q09 qbr qbs Int.toNat_natCast_add_one qim qha qin List.length_map List.map_append List.map_cons List.map_nil List.length_append List.length_cons List.length_nil qpo qh0 qbe qcq etaB etaW Int.toNat_natCast qd4
theorem qbc1 (hC : COk cfg52) (r : Rd) (hp : r.pos ≤ r.s.size ∧ asc r.s) : Sem Tryz.prog 52 [.bx 99 [.d (.s r.s), .d (.i .i64 (r.pos : Int)), .d (.i .i64 r.place), .d (.i .i64 r.err)]] (.tup [.d (.s r.nmT), .bx 99 [.d (.s r.nmR.s), .d (.i .i64 (r.nmR.pos : Int)), .d (.i .i64 r.nmR.place), .d (.i .i64 r.nmR.err)]]) := by
 refine q0i (C := cfg52) (rs := [.tmp 2]) (fun j => if j = 1 then [(4242, 99, 0)] else []) Tryz.func52 rfl rfl rfl rfl rfl rfl ?_
 refine inQ ?_
 repeat' first
 | (with_reducible first | apply q0n | apply q0f | apply Wsq | apply Wbk | apply Wsk | apply Wex | apply Wrt | apply q0o | apply q0p | apply q0g | apply q0h | refine q0c rfl ?_ | apply q0q | apply q0r | apply And.intro)
 | (with_reducible first | (refine Wrn hC ?_; intro K hK) | (refine Wdr hC (by kernel_rfl) ?_; intro K hK))
 | ((with_reducible first | refine q0w ?_ | refine qdx ?_ | refine q0m ?_); refine siQ ?_; (try simp (disch := omega) only [w64, wu8]))
 | (with_reducible refine qc7 (by kernel_rfl) ?_)
 | ((first | refine Wcd rfl (fun h => ?_) fun h => ?_ | refine Wcu rfl (fun h => ?_) ?_ | refine Wcn rfl ?_ fun h => ?_) <;> (try replace h := q0a h) <;> try (exfalso; first | omega | exact absurd h (by decide)))
 | (refine q0j ?_; refine subQ ?_)
 | (subst hK)
 | exact trivial
 all_goals try (intros; assumption)
 all_goals try refine q07 ?_
 all_goals try replace hp := q0a hp
 all_goals try (intros; first | trivial | omega)
 all_goals (try (rw [w64 (by omega) (by omega)]; first | done | omega))
 all_goals (try have hz := hp.2.1)
 all_goals (try have hb := qcn hp.1)
 all_goals (try have hw := qer (r := r.blanks) hb.2)
 all_goals first
 | omega
 | exact hp.2
 | exact qjv hp.2 _ _
 | (have h0 : r.blanks.pos = r.s.size := by omega
    first
     | (rw [qbbq h0]; done)
     | (rw [qy6 h0]; rfl))
 | (have h0 : ¬ r.blanks.pos = r.s.size := by omega
    first
     | (rw [qpr h0]; done)
     | (rw [qtv h0 (by assumption)]; first
         | (rw [qh1 (r := r.blanks.word) (by assumption) (by assumption)]; rfl)
         | (rw [qh1 (r := r.blanks.word) (And.left (by assumption)) (And.right (by assumption))]; rfl)
         | (rw [qhc (r := r.blanks.word) (by assumption)]; done)
         | (rw [qhc (r := r.blanks.word) (by assumption)]; rfl))
     | (rw [qy7 h0 (by assumption)]; first
         | (rw [qh1 (r := r.blanks.word) (And.left (by assumption)) (And.right (by assumption))]; rfl)
         | (rw [qhc (r := r.blanks.word) (by assumption)]; done)
         | (rw [qhc (r := r.blanks.word) (by assumption)]; rfl))
     )
end
def cfg97 : Cfg := ⟨Tryz.prog, 123, qz6, mvs, [0], (fun _ => none)⟩
theorem q82 : cfg97.pins = [0] ∧ cfg97.P = Tryz.prog ∧ cfg97.N = 123 ∧ cfg97.T 53 = e53 ∧ cfg97.mv 53 = (fun j => if j = 0 then [(4242, 99, 0)] else []) ∧ cfg97.T 54 = e54 ∧ cfg97.mv 54 = (fun j => if j = 0 then [(4242, 99, 0)] else []) ∧ cfg97.T 96 = e96 ∧ cfg97.mv 96 = (fun _ => []) ∧ cfg97.T 98 = e98 ∧ cfg97.mv 98 = (fun j => if j = 0 then [(4242, 99, 0)] else []) ∧ cfg97.ti = (fun _ => none) := by and_intros <;> exact rfl
section
attribute [local go_sem] q82 e53 e54 e96 e98
attribute [local go_sem] q0k qba qbq qb4 q09 qbr qbs Int.toNat_natCast_add_one qim qha qin List.length_map List.map_append List.map_cons List.map_nil List.length_append List.length_cons List.length_nil qpo qh0 qbe qcq etaB etaW etaS qbn qb9 Int.toNat_natCast qd4
theorem qbc2 (hC : COk cfg97) (r : Rd) (hp : r.pos < r.s.size ∧ r.s.size ≤ 400 ∧ asc r.s ∧ r.err = 0) : Sem Tryz.prog 97 [.bx 99 [.d (.s r.s), .d (.i .i64 (r.pos : Int)), .d (.i .i64 r.place), .d (.i .i64 r.err)]] (.tup [.d (.sl 2 (r.list.2.map q0k)), .bx 99 [.d (.s r.list.1.s), .d (.i .i64 (r.list.1.pos : Int)), .d (.i .i64 r.list.1.place), .d (.i .i64 r.list.1.err)]]) := by
 refine q0i (C := cfg97) (rs := [.tmp 2]) (fun j => if j = 1 then [(4242, 99, 0)] else []) Tryz.func97 rfl rfl rfl rfl rfl rfl ?_
 refine inQ ?_
 repeat' first
 | (with_reducible first | apply q0n | apply q0f | apply Wsq | apply Wbk | apply Wsk | apply Wex | apply Wrt | apply q0o | apply q0p | apply q0g | apply q0h | refine q0c rfl ?_ | apply q0q | apply q0r | apply And.intro)
 | (with_reducible first | (refine Wrn hC ?_; intro K hK) | (refine Wdr hC (by kernel_rfl) ?_; intro K hK))
 | ((with_reducible first | refine q0w ?_ | refine qdx ?_ | refine q0m ?_); refine siQ ?_; (try simp (disch := omega) only [w64, wu8]))
 | (with_reducible refine qc7 (by kernel_rfl) ?_)
 | ((first | refine Wcd rfl (fun h => ?_) fun h => ?_ | refine Wcu rfl (fun h => ?_) ?_ | refine Wcn rfl ?_ fun h => ?_) <;> (try replace h := q0a h) <;> try (exfalso; first | omega | exact absurd h (by decide)))
 | (refine Wlp 5 rfl (ι := Rd × List CVal) (fun p => mkS [(0, .ptr 0 0), (3, V.d (.i .i64 (r.pos : Int))), (4, V.row 64 2 0 p.2.length)] ([(0, .live (.box 99 [.d (.s p.1.s), .d (.i .i64 (p.1.pos : Int)), .d (.i .i64 p.1.place), .d (.i .i64 p.1.err)])), (64, .live (.row 76 2 false (p.2.map q0k)))])) (fun p => p.1.s = r.s ∧ p.1.pos ≤ r.s.size ∧ r.s.size ≤ 400 ∧ p.2.length ≤ 10 ∧ r.list = lrun r.pos (12 - p.2.length) p.1 p.2) (fun p => 11 - p.2.length) (((r.to (r.pos + 1)).blanks, [])) ?_ ?_ (fun p hi => ?_) <;> (try dsimp only) <;> (try dsimp only at hi))
 | (refine Wnx 5 (((p.1.valR.stop true).blanks, p.2 ++ [p.1.valV])) ?_ ?_ ?_ <;> (try dsimp only))
 | (refine q0j ?_; refine subQ ?_)
 | (subst hK)
 | exact trivial
 all_goals try (intros; assumption)
 all_goals try refine q07 ?_
 all_goals try replace hp := q0a hp
 all_goals try replace hi := q0a hi
 all_goals try (intros; first | trivial | omega)
 all_goals (try (rw [w64 (by omega) (by omega)]; first | done | omega))
 all_goals (try have hz := hp.2.1)
 all_goals first
 | omega
 | exact (qcn (r := r.to (r.pos + 1)) (by show r.pos + 1 ≤ r.s.size; omega)).2
 | (intro _; rw [hi.1]; omega)
 | (rw [hi.1]; omega)
 | (intro d hd; subst hd; exact ⟨rfl, by simp [D.cells, D.one]⟩)
 | (rw [hi.1]; exact hp.2.2.1)
 | (rw [List.length_append, List.length_singleton]; omega)
 | (have v := qhd (r := p.1) (by rw [hi.1]; omega)
    rw [hi.1] at v
    rw [qc8]; omega)
 | (rw [qbe, qbn, qb9, hi.1])
 | (have b := qcn (r := p.1.valR.stop true) (by rw [qc8, qbn, qb9]; exact (qhd (by rw [hi.1]; omega)).2)
    rw [qbn, qb9, hi.1] at b
    exact b.2)
 | exact q69 hi.2.2.2.2 hi.2.2.2.1 (by assumption) (by assumption) (by assumption)
 | (have e := q67 hi.2.2.2.2 hi.2.2.2.1 (by assumption) (by assumption)
    rw [e]
    first
     | rfl
     | (rw [qeg (q := p.1) (by assumption)]; rfl)
     | (rw [qeg (q := p.1) (by assumption)]; done)
     | (rw [qe1 (q := p.1) (by first | assumption | exact .inl (by show (p.1.s.size : Int) ≤ (p.1.pos : Int) + 1; omega))]; rfl)
     | (rw [qe1 (q := p.1) (by first | assumption | exact .inl (by show (p.1.s.size : Int) ≤ (p.1.pos : Int) + 1; omega))]; done)
     | (rw [qdk _ _ (by rw [List.length_map])]; exact q00 _)
     )
 | (have e := q68 hi.2.2.2.2 hi.2.2.2.1 (by assumption) (by assumption) (by assumption)
    rw [e]
    first
     | rfl
     | (rw [qeg (q := p.1) (by assumption)]; rfl)
     | (rw [qeg (q := p.1) (by assumption)]; done)
     | (rw [qe1 (q := p.1) (by first | assumption | exact .inl (by show (p.1.s.size : Int) ≤ (p.1.pos : Int) + 1; omega))]; rfl)
     | (rw [qe1 (q := p.1) (by first | assumption | exact .inl (by show (p.1.s.size : Int) ≤ (p.1.pos : Int) + 1; omega))]; done)
     | (rw [qdk _ _ (by rw [List.length_map])]; exact q00 _)
     )
 | (have e := q1o hi.2.2.2.2 hi.2.2.2.1 (by assumption) (by assumption)
    rw [e]; done)
 | (have e := q1o hi.2.2.2.2 hi.2.2.2.1 (by assumption) (by assumption)
    rw [e]
    first
     | rfl
     | (rw [qeg (q := p.1) (by assumption)]; rfl)
     | (rw [qeg (q := p.1) (by assumption)]; done)
     | (rw [qe1 (q := p.1) (by first | assumption | exact .inl (by show (p.1.s.size : Int) ≤ (p.1.pos : Int) + 1; omega))]; rfl)
     | (rw [qe1 (q := p.1) (by first | assumption | exact .inl (by show (p.1.s.size : Int) ≤ (p.1.pos : Int) + 1; omega))]; done)
     | (rw [qdk _ _ (by rw [List.length_map])]; exact q00 _)
     )
 | (have e := q9z hi.2.2.2.2 hi.2.2.2.1 (by assumption) (by assumption) (by assumption)
    rw [e]
    first
     | rfl
     | (rw [qjf (q := p.1) (by assumption)]; rfl)
     | (rw [qjf (q := p.1) (by assumption)]; done)
     | (rw [qk4 (q := p.1) (by first | assumption | exact .inl (by show (p.1.s.size : Int) ≤ (p.1.pos : Int) + 1; omega))]; rfl)
     | (rw [qk4 (q := p.1) (by first | assumption | exact .inl (by show (p.1.s.size : Int) ≤ (p.1.pos : Int) + 1; omega))]; done)
     | (rw [qdk _ _ (by rw [List.length_map])]; exact q00 _)
     )
 | (have e := q90 hi.2.2.2.2 hi.2.2.2.1 (by assumption) (by assumption) (by assumption) (by assumption)
    rw [e]
    first
     | rfl
     | (rw [qjf (q := p.1) (by assumption)]; rfl)
     | (rw [qjf (q := p.1) (by assumption)]; done)
     | (rw [qk4 (q := p.1) (by first | assumption | exact .inl (by show (p.1.s.size : Int) ≤ (p.1.pos : Int) + 1; omega))]; rfl)
     | (rw [qk4 (q := p.1) (by first | assumption | exact .inl (by show (p.1.s.size : Int) ≤ (p.1.pos : Int) + 1; omega))]; done)
     | (rw [qdk _ _ (by rw [List.length_map])]; exact q00 _)
     )
 | (have e := qbbr hi.2.2.2.2 hi.2.2.2.1 (by assumption) (by assumption) (by assumption) (by assumption)
    rw [e]
    first
     | rfl
     | (rw [qeg (q := p.1) (by assumption)]; rfl)
     | (rw [qeg (q := p.1) (by assumption)]; done)
     | (rw [qe1 (q := p.1) (by first | assumption | exact .inl (by show (p.1.s.size : Int) ≤ (p.1.pos : Int) + 1; omega))]; rfl)
     | (rw [qe1 (q := p.1) (by first | assumption | exact .inl (by show (p.1.s.size : Int) ≤ (p.1.pos : Int) + 1; omega))]; done)
     | (rw [qdk _ _ (by rw [List.length_map])]; exact q00 _)
     )
end
end
end Go.Ev
