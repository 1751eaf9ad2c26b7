/- Tools and contracts under the laws of this seat: Dtc126 to Dtc98. -/
import Derived.Test.YtlejldoefoppaaaGreatDoorE07
set_option linter.unusedVariables false
set_option linter.unusedSimpArgs false
namespace Go.Ev
noncomputable section
open Go.Proofs Ty
set_option maxRecDepth 10000
set_option maxHeartbeats 4000000
def cfg126 : Cfg := ⟨Tryz.prog, 17, qru, mvs, [], (fun _ => none)⟩
theorem qyi : cfg126.pins = [] ∧ cfg126.P = Tryz.prog ∧ cfg126.N = 17 := ⟨rfl, rfl, rfl⟩
section
attribute [local go_sem] qyi
theorem q2x (hC : COk cfg126) (c : Int) : Sem Tryz.prog 126 [.d (.i .u8 c)] (.d (.b (endC c))) := by
 refine q0i (C := cfg126) (rs := [.tmp 2]) (fun _ => []) Tryz.func126 rfl rfl rfl rfl rfl rfl ?_
 refine inQ ?_
 repeat' first
 | (with_reducible first | apply q0y | apply q0f | apply Wsq | apply Wbk | apply Wsk | apply Wex | apply Wrt | apply q0z | apply q00 | apply q0g | apply q0h | refine q0d rfl ?_ | apply q01 | apply q02 | apply And.intro)
 | (with_reducible refine Wrn hC ?_; intro K hK)
 | ((with_reducible first | refine q08 ?_ | refine q0x ?_); refine siQ ?_; (try simp (disch := omega) only [w64, wu8]))
 | ((first | refine Wcd rfl (fun h => ?_) fun h => ?_ | refine Wcu rfl (fun h => ?_) ?_ | refine Wcn rfl ?_ fun h => ?_) <;> (try replace h := q0e h) <;> try (exfalso; first | omega | exact absurd h (by decide)))
 | (refine q0t ?_; refine subQ ?_)
 | (subst hK)
 | exact trivial
 all_goals try (intros; assumption)
 all_goals try refine qbm ?_
 all_goals try (intros; first | trivial | omega)
 all_goals (try (rw [w64 (by omega) (by omega)]; first | done | omega))
 all_goals (simp [endC, *]; try omega)
end
def cfg96 : Cfg := ⟨Tryz.prog, 28, qrv, mvs, [], (fun _ => none)⟩
theorem q008 : cfg96.pins = [] ∧ cfg96.P = Tryz.prog ∧ cfg96.N = 28 := ⟨rfl, rfl, rfl⟩
section
attribute [local go_sem] q008
attribute [local go_sem] Int.toNat_natCast qct
theorem q33 (hC : COk cfg96) (r : Rd) (c : Int) (hp : r.pos ≤ 401 ∧ r.s.size ≤ 400) : Sem Tryz.prog 96 [.d (.cp [.s r.s, .i .i64 (r.pos : Int), .i .i64 r.place, .i .i64 r.err]), .d (.i .u8 c)] (.d (.b (isAt r.s r.pos c))) := by
 refine q0i (C := cfg96) (rs := [.tmp 4]) (fun _ => []) Tryz.func96 rfl rfl rfl rfl rfl rfl ?_
 refine inQ ?_
 repeat' first
 | (with_reducible first | apply q0y | apply q0f | apply Wsq | apply Wbk | apply Wsk | apply Wex | apply Wrt | apply q0z | apply q00 | apply q0g | apply q0h | refine q0d rfl ?_ | apply q01 | apply q02 | apply And.intro)
 | (with_reducible first | (refine Wrn hC ?_; intro K hK) | (refine Wdr hC (by kernel_rfl) ?_; intro K hK))
 | ((with_reducible first | refine q08 ?_ | refine qcl ?_ | refine q0x ?_); refine siQ ?_; (try simp (disch := omega) only [w64, wu8]))
 | (with_reducible refine qb4 (by kernel_rfl) ?_)
 | ((first | refine Wcd rfl (fun h => ?_) fun h => ?_ | refine Wcu rfl (fun h => ?_) ?_ | refine Wcn rfl ?_ fun h => ?_) <;> (try replace h := q0e h) <;> try (exfalso; first | omega | exact absurd h (by decide)))
 | (refine q0t ?_; refine subQ ?_)
 | (subst hK)
 | exact trivial
 all_goals try (intros; assumption)
 all_goals try refine qbm ?_
 all_goals try replace hp := q0e hp
 all_goals try (intros; first | trivial | omega)
 all_goals (try (rw [w64 (by omega) (by omega)]; first | done | omega))
 all_goals (unfold isAt; rw [Bool.eq_iff_iff]; simp)
end
def cfg54 : Cfg := ⟨Tryz.prog, 19, quj, mvs, [0], (fun _ => none)⟩
theorem q009 : cfg54.pins = [0] ∧ cfg54.P = Tryz.prog ∧ cfg54.N = 19 := ⟨rfl, rfl, rfl⟩
section
attribute [local go_sem] q009
theorem q34 (hC : COk cfg54) (r : Rd) (place : Int) (e : Int) : Sem Tryz.prog 54 [.bx 99 [.d (.s r.s), .d (.i .i64 (r.pos : Int)), .d (.i .i64 r.place), .d (.i .i64 r.err)], .d (.i .i64 place), .d (.i .i64 e)] (.tup [.bx 99 [.d (.s r.s), .d (.i .i64 (r.pos : Int)), .d (.i .i64 (fP r.err r.place place)), .d (.i .i64 (fE r.err e))]]) := by
 refine q0i (C := cfg54) (rs := []) (fun j => if j = 0 then [(4242, 99, 0)] else []) Tryz.func54 rfl rfl rfl rfl rfl rfl ?_
 refine inQ ?_
 repeat' first
 | (with_reducible first | apply q0y | apply q0f | apply Wsq | apply Wbk | apply Wsk | apply Wex | apply Wrt | apply q0z | apply q00 | apply q0g | apply q0h | refine q0d rfl ?_ | apply q01 | apply q02 | apply And.intro)
 | (with_reducible refine Wrn hC ?_; intro K hK)
 | ((with_reducible first | refine q08 ?_ | refine q0x ?_); refine siQ ?_; (try simp (disch := omega) only [w64, wu8]))
 | ((first | refine Wcd rfl (fun h => ?_) fun h => ?_ | refine Wcu rfl (fun h => ?_) ?_ | refine Wcn rfl ?_ fun h => ?_) <;> (try replace h := q0e h) <;> try (exfalso; first | omega | exact absurd h (by decide)))
 | (refine q0t ?_; refine subQ ?_)
 | (subst hK)
 | exact trivial
 all_goals try (intros; assumption)
 all_goals try refine qbm ?_
 all_goals try (intros; first | trivial | omega)
 all_goals (try (rw [w64 (by omega) (by omega)]; first | done | omega))
 all_goals (simp [fP, fE, *])
end
def cfg53 : Cfg := ⟨Tryz.prog, 31, quk, mvs, [0], (fun _ => none)⟩
theorem q1a : cfg53.pins = [0] ∧ cfg53.P = Tryz.prog ∧ cfg53.N = 31 := ⟨rfl, rfl, rfl⟩
section
attribute [local go_sem] q1a
attribute [local go_sem] Int.toNat_natCast qct
theorem q35 (hC : COk cfg53) (r : Rd) (hp : r.pos ≤ 401 ∧ r.s.size ≤ 400) : Sem Tryz.prog 53 [.bx 99 [.d (.s r.s), .d (.i .i64 (r.pos : Int)), .d (.i .i64 r.place), .d (.i .i64 r.err)]] (.tup [.bx 99 [.d (.s r.blanks.s), .d (.i .i64 (r.blanks.pos : Int)), .d (.i .i64 r.blanks.place), .d (.i .i64 r.blanks.err)]]) := by
 refine q0i (C := cfg53) (rs := []) (fun j => if j = 0 then [(4242, 99, 0)] else []) Tryz.func53 rfl rfl rfl rfl rfl rfl ?_
 refine inQ ?_
 repeat' first
 | (with_reducible first | apply q0y | apply q0f | apply Wsq | apply Wbk | apply Wsk | apply Wex | apply Wrt | apply q0z | apply q00 | apply q0g | apply q0h | refine q0d rfl ?_ | apply q01 | apply q02 | apply And.intro)
 | (with_reducible first | (refine Wrn hC ?_; intro K hK) | (refine Wdr hC (by kernel_rfl) ?_; intro K hK))
 | ((with_reducible first | refine q08 ?_ | refine qcl ?_ | refine q0x ?_); refine siQ ?_; (try simp (disch := omega) only [w64, wu8]))
 | (with_reducible refine qb4 (by kernel_rfl) ?_)
 | ((first | refine Wcd rfl (fun h => ?_) fun h => ?_ | refine Wcu rfl (fun h => ?_) ?_ | refine Wcn rfl ?_ fun h => ?_) <;> (try replace h := q0e h) <;> try (exfalso; first | omega | exact absurd h (by decide)))
 | (refine Wlp 0 rfl (ι := Nat) (fun i => mkS [(0, .ptr 0 0)] ([(0, .live (.box 99 [.d (.s r.s), .d (.i .i64 (i : Int)), .d (.i .i64 r.place), .d (.i .i64 r.err)]))])) (fun i => r.pos ≤ i ∧ (i ≤ r.s.size ∨ i = r.pos) ∧ ∀ k, r.pos ≤ k → k < i → isBl (chr r.s k) = true) (fun i => r.s.size - i) (r.pos) ?_ ?_ (fun i hi => ?_) <;> (try dsimp only) <;> (try dsimp only at hi))
 | (refine Wnx 0 (i + 1) ?_ ?_ ?_ <;> (try dsimp only))
 | (refine q0t ?_; refine subQ ?_)
 | (subst hK)
 | exact trivial
 all_goals try (intros; assumption)
 all_goals try refine qbm ?_
 all_goals try replace hp := q0e hp
 all_goals try replace hi := q0e hi
 all_goals try (intros; first | trivial | omega)
 all_goals (try (rw [w64 (by omega) (by omega)]; first | done | omega))
 all_goals first
 | omega
 | exact qhp hi.2.2 (qi6.2 (by omega))
 | exact .inr trivial
 | exact .inr rfl
 | (intros; omega)
 | (by_cases e : i ≤ r.s.size
    ·rw [show r.blanks.pos = i from qkq hi.1 e hi.2.2 (by rw [← Bool.not_eq_true, qi6]; omega)]
    ·rw [show r.blanks.pos = i from by
      have : i = r.pos := by omega
      subst this
      exact qlr (by omega)])
end
def cfg95 : Cfg := ⟨Tryz.prog, 49, qul, mvs, [0], (fun _ => none)⟩
theorem q1b : cfg95.pins = [0] ∧ cfg95.P = Tryz.prog ∧ cfg95.N = 49 ∧ cfg95.T 126 = e126 ∧ cfg95.mv 126 = (fun _ => []) ∧ cfg95.T 127 = e127 ∧ cfg95.mv 127 = (fun _ => []) ∧ cfg95.ti = (fun _ => none) := by and_intros <;> exact rfl
section
attribute [local go_sem] q1b e126 e127
attribute [local go_sem] Int.toNat_natCast qct
theorem q36 (hC : COk cfg95) (r : Rd) (hp : r.pos ≤ r.s.size ∧ asc r.s) : Sem Tryz.prog 95 [.bx 99 [.d (.s r.s), .d (.i .i64 (r.pos : Int)), .d (.i .i64 r.place), .d (.i .i64 r.err)]] (.tup [.d (.s r.wtxt), .bx 99 [.d (.s r.word.s), .d (.i .i64 (r.word.pos : Int)), .d (.i .i64 r.word.place), .d (.i .i64 r.word.err)]]) := by
 refine q0i (C := cfg95) (rs := [.tmp 2]) (fun j => if j = 1 then [(4242, 99, 0)] else []) Tryz.func95 rfl rfl rfl rfl rfl rfl ?_
 refine inQ ?_
 repeat' first
 | (with_reducible first | apply q0y | apply q0f | apply Wsq | apply Wbk | apply Wsk | apply Wex | apply Wrt | apply q0z | apply q00 | apply q0g | apply q0h | refine q0d rfl ?_ | apply q01 | apply q02 | apply And.intro)
 | (with_reducible first | (refine Wrn hC ?_; intro K hK) | (refine Wdr hC (by kernel_rfl) ?_; intro K hK))
 | ((with_reducible first | refine q08 ?_ | refine qcl ?_ | refine q0x ?_); refine siQ ?_; (try simp (disch := omega) only [w64, wu8]))
 | (with_reducible refine qb4 (by kernel_rfl) ?_)
 | ((first | refine Wcd rfl (fun h => ?_) fun h => ?_ | refine Wcu rfl (fun h => ?_) ?_ | refine Wcn rfl ?_ fun h => ?_) <;> (try replace h := q0e h) <;> try (exfalso; first | omega | exact absurd h (by decide)))
 | (refine Wlp 2 rfl (ι := Nat) (fun i => mkS [(0, .ptr 0 0), (3, V.d (.i .i64 (r.pos : Int)))] ([(0, .live (.box 99 [.d (.s r.s), .d (.i .i64 (i : Int)), .d (.i .i64 r.place), .d (.i .i64 r.err)]))])) (fun i => r.pos ≤ i ∧ i ≤ r.s.size ∧ r.s.size ≤ 400 ∧ ∀ k, r.pos ≤ k → k < i → inW (chr r.s k) = true) (fun i => r.s.size - i) (r.pos) ?_ ?_ (fun i hi => ?_) <;> (try dsimp only) <;> (try dsimp only at hi))
 | (refine Wnx 2 (i + 1) ?_ ?_ ?_ <;> (try dsimp only))
 | (refine q0t ?_; refine subQ ?_)
 | (subst hK)
 | exact trivial
 all_goals try (intros; assumption)
 all_goals try refine qbm ?_
 all_goals try replace hp := q0e hp
 all_goals try replace hi := q0e hi
 all_goals try (intros; first | trivial | omega)
 all_goals (try (rw [w64 (by omega) (by omega)]; first | done | omega))
 all_goals (try have hz := hp.2.1)
 all_goals first
 | omega
 | exact qhp hi.2.2.2 (by simp [inW, h.2])
 | exact (qgg hp.2 _ _).1
 | exact (qgg hp.2 _ _).2
 | (have hw : r.wend = i := qkq hi.1 hi.2.1 hi.2.2.2 (by
     rcases h with h | h
     ·exact .inl (by omega)
     ·exact .inr (q00f.1 h))
    first
     | (rw [Rd.wtxt, hw])
     | (show ((r.wend : Nat) : Int) = _; rw [hw]))
end
def cfg91 : Cfg := ⟨Tryz.prog, 15, qum, mvs, [], (fun _ => none)⟩
theorem q1c : cfg91.pins = [] ∧ cfg91.P = Tryz.prog ∧ cfg91.N = 15 := ⟨rfl, rfl, rfl⟩
section
attribute [local go_sem] q1c
theorem q37 (hC : COk cfg91) (n : Int) (least : Int) (most : Int) : Sem Tryz.prog 91 [.d (.i .i64 n), .d (.i .i64 least), .d (.i .i64 most)] (.d (.b (decide (least ≤ n) && decide (n ≤ most)))) := by
 refine q0i (C := cfg91) (rs := [.tmp 6]) (fun _ => []) Tryz.func91 rfl rfl rfl rfl rfl rfl ?_
 refine inQ ?_
 repeat' first
 | (with_reducible first | apply q0y | apply q0f | apply Wsq | apply Wbk | apply Wsk | apply Wex | apply Wrt | apply q0z | apply q00 | apply q0g | apply q0h | refine q0d rfl ?_ | apply q01 | apply q02 | apply And.intro)
 | (with_reducible refine Wrn hC ?_; intro K hK)
 | ((with_reducible first | refine q08 ?_ | refine q0x ?_); refine siQ ?_; (try simp (disch := omega) only [w64, wu8]))
 | ((first | refine Wcd rfl (fun h => ?_) fun h => ?_ | refine Wcu rfl (fun h => ?_) ?_ | refine Wcn rfl ?_ fun h => ?_) <;> (try replace h := q0e h) <;> try (exfalso; first | omega | exact absurd h (by decide)))
 | (refine q0t ?_; refine subQ ?_)
 | (subst hK)
 | exact trivial
 all_goals try (intros; assumption)
 all_goals try refine qbm ?_
 all_goals try (intros; first | trivial | omega)
 all_goals (try (rw [w64 (by omega) (by omega)]; first | done | omega))
end
def cfg82 : Cfg := ⟨Tryz.prog, 4, qun, mvs, [], (fun _ => none)⟩
theorem q1d : cfg82.pins = [] ∧ cfg82.P = Tryz.prog ∧ cfg82.N = 4 := ⟨rfl, rfl, rfl⟩
section
attribute [local go_sem] q1d
theorem q38 (hC : COk cfg82) (b : Bool) : Sem Tryz.prog 82 [.d (.b b)] (.d (.i .i64 (if b = true then 1 else 0))) := by
 refine q0i (C := cfg82) (rs := [.tmp 2]) (fun _ => []) Tryz.func82 rfl rfl rfl rfl rfl rfl ?_
 refine inQ ?_
 repeat' first
 | (with_reducible first | apply q0y | apply q0f | apply Wsq | apply Wbk | apply Wsk | apply Wex | apply Wrt | apply q0z | apply q00 | apply q0g | apply q0h | refine q0d rfl ?_ | apply q01 | apply q02 | apply And.intro)
 | (with_reducible refine Wrn hC ?_; intro K hK)
 | ((with_reducible first | refine q08 ?_ | refine q0x ?_); refine siQ ?_; (try simp (disch := omega) only [w64, wu8]))
 | ((first | refine Wcd rfl (fun h => ?_) fun h => ?_ | refine Wcu rfl (fun h => ?_) ?_ | refine Wcn rfl ?_ fun h => ?_) <;> (try replace h := q0e h) <;> try (exfalso; first | omega | exact absurd h (by decide)))
 | (refine q0t ?_; refine subQ ?_)
 | (subst hK)
 | exact trivial
 all_goals try (intros; assumption)
 all_goals try refine qbm ?_
 all_goals try (intros; first | trivial | omega)
 all_goals (try (rw [w64 (by omega) (by omega)]; first | done | omega))
 all_goals simp [*]
end
def cfg43 : Cfg := ⟨Tryz.prog, 9, qup, mvs, [], (fun _ => none)⟩
theorem q1e : cfg43.pins = [] ∧ cfg43.P = Tryz.prog ∧ cfg43.N = 9 := ⟨rfl, rfl, rfl⟩
section
attribute [local go_sem] q1e
theorem q39 (hC : COk cfg43) (c : Int) : Sem Tryz.prog 43 [.d (.i .u8 c)] (.d (.b (decide (65 ≤ c) && decide (c ≤ 90)))) := by
 refine q0i (C := cfg43) (rs := [.tmp 2]) (fun _ => []) Tryz.func43 rfl rfl rfl rfl rfl rfl ?_
 refine inQ ?_
 repeat' first
 | (with_reducible first | apply q0y | apply q0f | apply Wsq | apply Wbk | apply Wsk | apply Wex | apply Wrt | apply q0z | apply q00 | apply q0g | apply q0h | refine q0d rfl ?_ | apply q01 | apply q02 | apply And.intro)
 | (with_reducible refine Wrn hC ?_; intro K hK)
 | ((with_reducible first | refine q08 ?_ | refine q0x ?_); refine siQ ?_; (try simp (disch := omega) only [w64, wu8]))
 | ((first | refine Wcd rfl (fun h => ?_) fun h => ?_ | refine Wcu rfl (fun h => ?_) ?_ | refine Wcn rfl ?_ fun h => ?_) <;> (try replace h := q0e h) <;> try (exfalso; first | omega | exact absurd h (by decide)))
 | (refine q0t ?_; refine subQ ?_)
 | (subst hK)
 | exact trivial
 all_goals try (intros; assumption)
 all_goals try refine qbm ?_
 all_goals try (intros; first | trivial | omega)
 all_goals (try (rw [w64 (by omega) (by omega)]; first | done | omega))
end
def cfg92 : Cfg := ⟨Tryz.prog, 9, quq, mvs, [], (fun _ => none)⟩
theorem q1f : cfg92.pins = [] ∧ cfg92.P = Tryz.prog ∧ cfg92.N = 9 := ⟨rfl, rfl, rfl⟩
section
attribute [local go_sem] q1f
theorem q4a (hC : COk cfg92) (c : Int) : Sem Tryz.prog 92 [.d (.i .u8 c)] (.d (.b (decide (48 ≤ c) && decide (c ≤ 57)))) := by
 refine q0i (C := cfg92) (rs := [.tmp 2]) (fun _ => []) Tryz.func92 rfl rfl rfl rfl rfl rfl ?_
 refine inQ ?_
 repeat' first
 | (with_reducible first | apply q0y | apply q0f | apply Wsq | apply Wbk | apply Wsk | apply Wex | apply Wrt | apply q0z | apply q00 | apply q0g | apply q0h | refine q0d rfl ?_ | apply q01 | apply q02 | apply And.intro)
 | (with_reducible refine Wrn hC ?_; intro K hK)
 | ((with_reducible first | refine q08 ?_ | refine q0x ?_); refine siQ ?_; (try simp (disch := omega) only [w64, wu8]))
 | ((first | refine Wcd rfl (fun h => ?_) fun h => ?_ | refine Wcu rfl (fun h => ?_) ?_ | refine Wcn rfl ?_ fun h => ?_) <;> (try replace h := q0e h) <;> try (exfalso; first | omega | exact absurd h (by decide)))
 | (refine q0t ?_; refine subQ ?_)
 | (subst hK)
 | exact trivial
 all_goals try (intros; assumption)
 all_goals try refine qbm ?_
 all_goals try (intros; first | trivial | omega)
 all_goals (try (rw [w64 (by omega) (by omega)]; first | done | omega))
end
def cfg99 : Cfg := ⟨Tryz.prog, 9, qur, mvs, [], (fun _ => none)⟩
theorem q1g : cfg99.pins = [] ∧ cfg99.P = Tryz.prog ∧ cfg99.N = 9 := ⟨rfl, rfl, rfl⟩
section
attribute [local go_sem] q1g
theorem q4b (hC : COk cfg99) (c : Int) : Sem Tryz.prog 99 [.d (.i .u8 c)] (.d (.b (decide (97 ≤ c) && decide (c ≤ 122)))) := by
 refine q0i (C := cfg99) (rs := [.tmp 2]) (fun _ => []) Tryz.func99 rfl rfl rfl rfl rfl rfl ?_
 refine inQ ?_
 repeat' first
 | (with_reducible first | apply q0y | apply q0f | apply Wsq | apply Wbk | apply Wsk | apply Wex | apply Wrt | apply q0z | apply q00 | apply q0g | apply q0h | refine q0d rfl ?_ | apply q01 | apply q02 | apply And.intro)
 | (with_reducible refine Wrn hC ?_; intro K hK)
 | ((with_reducible first | refine q08 ?_ | refine q0x ?_); refine siQ ?_; (try simp (disch := omega) only [w64, wu8]))
 | ((first | refine Wcd rfl (fun h => ?_) fun h => ?_ | refine Wcu rfl (fun h => ?_) ?_ | refine Wcn rfl ?_ fun h => ?_) <;> (try replace h := q0e h) <;> try (exfalso; first | omega | exact absurd h (by decide)))
 | (refine q0t ?_; refine subQ ?_)
 | (subst hK)
 | exact trivial
 all_goals try (intros; assumption)
 all_goals try refine qbm ?_
 all_goals try (intros; first | trivial | omega)
 all_goals (try (rw [w64 (by omega) (by omega)]; first | done | omega))
end
def cfg48 : Cfg := ⟨Tryz.prog, 52, qus, mvs, [], (fun _ => none)⟩
theorem q1h : cfg48.pins = [] ∧ cfg48.P = Tryz.prog ∧ cfg48.N = 52 ∧ cfg48.T 43 = e43 ∧ cfg48.mv 43 = (fun _ => []) ∧ cfg48.T 91 = e91 ∧ cfg48.mv 91 = (fun _ => []) ∧ cfg48.T 92 = e92 ∧ cfg48.mv 92 = (fun _ => []) ∧ cfg48.ti = (fun _ => none) := by and_intros <;> exact rfl
section
attribute [local go_sem] q1h e43 e91 e92
attribute [local go_sem] Int.toNat_natCast qct
theorem q4c (hC : COk cfg48) (s : ByteArray) : Sem Tryz.prog 48 [.d (.s s)] (.d (.b (qbq s))) := by
 refine q0i (C := cfg48) (rs := [.tmp 2]) (fun _ => []) Tryz.func48 rfl rfl rfl rfl rfl rfl ?_
 refine inQ ?_
 repeat' first
 | (with_reducible first | apply q0y | apply q0f | apply Wsq | apply Wbk | apply Wsk | apply Wex | apply Wrt | apply q0z | apply q00 | apply q0g | apply q0h | refine q0d rfl ?_ | apply q01 | apply q02 | apply And.intro)
 | (with_reducible refine Wrn hC ?_; intro K hK)
 | ((with_reducible first | refine q08 ?_ | refine q0x ?_); refine siQ ?_; (try simp (disch := omega) only [w64, wu8]))
 | ((first | refine Wcd rfl (fun h => ?_) fun h => ?_ | refine Wcu rfl (fun h => ?_) ?_ | refine Wcn rfl ?_ fun h => ?_) <;> (try replace h := q0e h) <;> try (exfalso; first | omega | exact absurd h (by decide)))
 | (refine Wlp 4 rfl (ι := Nat) (fun i => mkS [(0, V.d (.s s)), (3, V.d (.i .i64 (i : Int)))] ([])) (fun i => i ≤ s.size ∧ 1 ≤ s.size ∧ s.size ≤ 10 ∧ ∀ j, j < i → qi1 (j == 0) (chr s j) = true) (fun i => s.size - i) (0) ?_ ?_ (fun i hi => ?_) <;> (try dsimp only) <;> (try dsimp only at hi))
 | (refine Wnx 4 (i + 1) ?_ ?_ ?_ <;> (try dsimp only))
 | (refine q0t ?_; refine subQ ?_)
 | (subst hK)
 | exact trivial
 all_goals try (intros; assumption)
 all_goals try refine qbm ?_
 all_goals try replace hi := q0e hi
 all_goals try replace hj := q0e hj
 all_goals try (intros; first | trivial | omega)
 all_goals (try (rw [w64 (by omega) (by omega)]; first | done | omega))
 all_goals (try simp only [qq5] at *)
 all_goals first
 | omega
 | exact qmx (by omega)
 | exact qoz (i := i) (by omega) (by rw [← Bool.not_eq_true, qho]; omega)
 | exact fun j hj => if e : j < i then hi.2.2.2 j e else by
    have : j = i := by omega
    subst this
    rw [qho]
    omega
 | exact qmw (by omega) (by omega) fun j hj => hi.2.2.2 j (by omega)
end
def cfg87 : Cfg := ⟨Tryz.prog, 65, qut, mvs, [], (fun _ => none)⟩
theorem q1i : cfg87.pins = [] ∧ cfg87.P = Tryz.prog ∧ cfg87.N = 65 := ⟨rfl, rfl, rfl⟩
section
attribute [local go_sem] q1i
attribute [local go_sem] Int.toNat_natCast qct qgu qt8
theorem q4d (hC : COk cfg87) (s : ByteArray) : Sem Tryz.prog 87 [.d (.s s)] (.d (.b (qbq s))) := by
 refine q0i (C := cfg87) (rs := [.tmp 2]) (fun _ => []) Tryz.func87 rfl rfl rfl rfl rfl rfl ?_
 refine inQ ?_
 repeat' first
 | (with_reducible first | apply q0y | apply q0f | apply Wsq | apply Wbk | apply Wsk | apply Wex | apply Wrt | apply q0z | apply q00 | apply q0g | apply q0h | refine q0d rfl ?_ | apply q01 | apply q02 | apply And.intro)
 | (with_reducible refine Wrn hC ?_; intro K hK)
 | ((with_reducible first | refine q08 ?_ | refine q0x ?_); refine siQ ?_; (try simp (disch := omega) only [w64, wu8]))
 | ((first | refine Wcd rfl (fun h => ?_) fun h => ?_ | refine Wcu rfl (fun h => ?_) ?_ | refine Wcn rfl ?_ fun h => ?_) <;> (try replace h := q0e h) <;> try (exfalso; first | omega | exact absurd h (by decide)))
 | (refine Wlp 4 rfl (ι := Nat) (fun i => mkS [(15, V.d (.sl 1 (qcr s))), (16, V.d (.i .i64 (s.size : Int))), (17, V.d (.i .i64 (i : Int)))] ([])) (fun i => i ≤ s.size ∧ 1 ≤ s.size ∧ s.size ≤ 10 ∧ ∀ j, j < i → qi1 (j == 0) (chr s j) = true) (fun i => s.size - i) (0) ?_ ?_ (fun i hi => ?_) <;> (try dsimp only) <;> (try dsimp only at hi))
 | (refine Wnx 4 (i + 1) ?_ ?_ ?_ <;> (try dsimp only))
 | (refine q0t ?_; refine subQ ?_)
 | (subst hK)
 | exact trivial
 all_goals try (intros; assumption)
 all_goals try refine qbm ?_
 all_goals try replace hi := q0e hi
 all_goals try replace hj := q0e hj
 all_goals try (intros; first | trivial | omega)
 all_goals (try (rw [w64 (by omega) (by omega)]; first | done | omega))
 all_goals (try simp only [qq5] at *)
 all_goals first
 | omega
 | exact qmx (by omega)
 | exact qoz (i := i) (by omega) (by rw [← Bool.not_eq_true, qho]; omega)
 | exact fun j hj => if e : j < i then hi.2.2.2 j e else by
    have : j = i := by omega
    subst this
    rw [qho]
    omega
 | exact qmw (by omega) (by omega) fun j hj => hi.2.2.2 j (by omega)
end
def cfg51 : Cfg := ⟨Tryz.prog, 9, quu, mvs, [], (fun _ => none)⟩
theorem q1j : cfg51.pins = [] ∧ cfg51.P = Tryz.prog ∧ cfg51.N = 9 := ⟨rfl, rfl, rfl⟩
section
attribute [local go_sem] q1j
theorem q4e (hC : COk cfg51) (c : Int) : Sem Tryz.prog 51 [.d (.i .u8 c)] (.d (.b (decide (c < 32) || decide (126 < c)))) := by
 refine q0i (C := cfg51) (rs := [.tmp 2]) (fun _ => []) Tryz.func51 rfl rfl rfl rfl rfl rfl ?_
 refine inQ ?_
 repeat' first
 | (with_reducible first | apply q0y | apply q0f | apply Wsq | apply Wbk | apply Wsk | apply Wex | apply Wrt | apply q0z | apply q00 | apply q0g | apply q0h | refine q0d rfl ?_ | apply q01 | apply q02 | apply And.intro)
 | (with_reducible refine Wrn hC ?_; intro K hK)
 | ((with_reducible first | refine q08 ?_ | refine q0x ?_); refine siQ ?_; (try simp (disch := omega) only [w64, wu8]))
 | ((first | refine Wcd rfl (fun h => ?_) fun h => ?_ | refine Wcu rfl (fun h => ?_) ?_ | refine Wcn rfl ?_ fun h => ?_) <;> (try replace h := q0e h) <;> try (exfalso; first | omega | exact absurd h (by decide)))
 | (refine q0t ?_; refine subQ ?_)
 | (subst hK)
 | exact trivial
 all_goals try (intros; assumption)
 all_goals try refine qbm ?_
 all_goals try (intros; first | trivial | omega)
 all_goals (try (rw [w64 (by omega) (by omega)]; first | done | omega))
 all_goals (simp; try omega)
end
def cfg50 : Cfg := ⟨Tryz.prog, 19, quv, mvs, [], (fun _ => none)⟩
theorem q1k : cfg50.pins = [] ∧ cfg50.P = Tryz.prog ∧ cfg50.N = 19 ∧ cfg50.ti 51 = none ∧ cfg50.T 51 = e51 ∧ cfg50.mv 51 = (fun _ => []) := by and_intros <;> exact rfl
section
attribute [local go_sem] q1k e51
attribute [local go_sem] Int.toNat_natCast qxv
theorem q4f (hC : COk cfg50) (l : List Int) (f : Unit) (hp : l.length ≤ 1000000) : Sem Tryz.prog 50 [.d (.sl 1 (l.map (D.i .u8))), .d (.fn 51 [])] (.d (.i .i64 (idxP badC l))) := by
 refine q0i (C := cfg50) (rs := [.tmp 4]) (fun _ => []) Tryz.func50 rfl rfl rfl rfl rfl rfl ?_
 refine inQ ?_
 repeat' first
 | (with_reducible first | apply q0y | apply q0f | apply Wsq | apply Wbk | apply Wsk | apply Wex | apply Wrt | apply q0z | apply q00 | apply q0g | apply q0h | refine q0d rfl ?_ | apply q01 | apply q02 | apply And.intro)
 | (with_reducible refine Wrn hC ?_; intro K hK)
 | ((with_reducible first | refine q08 ?_ | refine q0x ?_); refine siQ ?_; (try simp (disch := omega) only [w64, wu8]))
 | ((first | refine Wcd rfl (fun h => ?_) fun h => ?_ | refine Wcu rfl (fun h => ?_) ?_ | refine Wcn rfl ?_ fun h => ?_) <;> (try replace h := q0e h) <;> try (exfalso; first | omega | exact absurd h (by decide)))
 | (refine Wlp 2 rfl (ι := Nat) (fun i => mkS [(0, V.d (.sl 1 (l.map (D.i .u8)))), (1, V.d (.fn 51 [])), (7, V.d (.i .i64 (l.length : Int))), (8, V.d (.i .i64 (i : Int)))] ([])) (fun i => i ≤ l.length ∧ ∀ j, j < i → badC (l.getD j 0) = false) (fun i => l.length - i) (0) ?_ ?_ (fun i hi => ?_) <;> (try dsimp only) <;> (try dsimp only at hi))
 | (refine Wnx 2 (i + 1) ?_ ?_ ?_ <;> (try dsimp only))
 | (refine q0t ?_; refine subQ ?_)
 | (subst hK)
 | exact trivial
 all_goals try (intros; assumption)
 all_goals try refine qbm ?_
 all_goals try replace hp := q0e hp
 all_goals try replace hi := q0e hi
 all_goals try replace hj := q0e hj
 all_goals try (intros; first | trivial | omega)
 all_goals (try (rw [w64 (by omega) (by omega)]; first | done | omega))
 all_goals first
 | omega
 | (simp only [List.length_map]; done)
 | (simp only [List.length_map]; omega)
 | exact qs0 (by omega) (by unfold badC; rw [Bool.or_eq_true, decide_eq_true_eq, decide_eq_true_eq]; exact h) hi.2
 | exact qs1 fun j hj => hi.2 j (by omega)
 | exact fun j hj => if e : j < i then hi.2 j e else by
    have : j = i := by omega
    subst this
    unfold badC; rw [Bool.or_eq_false_iff, decide_eq_false_iff_not, decide_eq_false_iff_not]; omega
end
def cfg128 : Cfg := ⟨Tryz.prog, 82, quw, mvs, [0], (fun _ => none)⟩
theorem qyj : cfg128.pins = [0] ∧ cfg128.P = Tryz.prog ∧ cfg128.N = 82 ∧ cfg128.T 54 = e54 ∧ cfg128.mv 54 = (fun j => if j = 0 then [(4242, 99, 0)] else []) ∧ cfg128.T 96 = e96 ∧ cfg128.mv 96 = (fun _ => []) ∧ cfg128.ti = (fun _ => none) := by and_intros <;> exact rfl
section
attribute [local go_sem] qyj e54 e96
attribute [local go_sem] q0s qcc qei qe7 qcp qej qek Int.toNat_natCast_add_one qel qdt qem List.length_map List.map_append List.map_cons List.map_nil List.length_append List.length_cons List.length_nil Int.toNat_natCast qct
theorem q2y (hC : COk cfg128) (r : Rd) (hp : r.pos < r.s.size ∧ asc r.s) : Sem Tryz.prog 128 [.bx 99 [.d (.s r.s), .d (.i .i64 (r.pos : Int)), .d (.i .i64 r.place), .d (.i .i64 r.err)]] (.tup [.d (q0s r.qval), .bx 99 [.d (.s r.quoted.s), .d (.i .i64 (r.quoted.pos : Int)), .d (.i .i64 r.quoted.place), .d (.i .i64 r.quoted.err)]]) := by
 refine q0i (C := cfg128) (rs := [.cell 2 76]) (fun j => if j = 1 then [(4242, 99, 0)] else []) Tryz.func128 rfl rfl rfl rfl rfl rfl ?_
 refine inQ ?_
 repeat' first
 | (with_reducible first | apply q0y | apply q0f | apply Wsq | apply Wbk | apply Wsk | apply Wex | apply Wrt | apply q0z | apply q00 | apply q0g | apply q0h | refine q0d rfl ?_ | apply q01 | apply q02 | apply And.intro)
 | (with_reducible first | (refine Wrn hC ?_; intro K hK) | (refine Wdr hC (by kernel_rfl) ?_; intro K hK))
 | ((with_reducible first | refine q08 ?_ | refine qcl ?_ | refine q0x ?_); refine siQ ?_; (try simp (disch := omega) only [w64, wu8]))
 | (with_reducible refine qb4 (by kernel_rfl) ?_)
 | ((first | refine Wcd rfl (fun h => ?_) fun h => ?_ | refine Wcu rfl (fun h => ?_) ?_ | refine Wcn rfl ?_ fun h => ?_) <;> (try replace h := q0e h) <;> try (exfalso; first | omega | exact absurd h (by decide)))
 | (refine Wlp 4 rfl (ι := Nat × List Int) (fun p => mkS [(0, .ptr 0 0), (2, .ptr 32 0), (3, V.d (.i .i64 (r.pos : Int))), (4, V.row 64 1 0 p.2.length)] ([(0, .live (.box 99 [.d (.s r.s), .d (.i .i64 (p.1 : Int)), .d (.i .i64 r.place), .d (.i .i64 r.err)])), (32, .live (.box 76 [.d (.i .i64 0), .d (.s ⟨#[]⟩)])), (64, .live (.row 5 1 false (p.2.map (D.i .u8))))])) (fun p => p.1 ≤ r.s.size ∧ r.s.size ≤ 400 ∧ p.2.length ≤ p.1 ∧ r.qres = qq r.s p.1 p.2) (fun p => r.s.size - p.1) ((r.pos + 1, [])) ?_ ?_ (fun p hi => ?_) <;> (try dsimp only) <;> (try dsimp only at hi))
 | (refine Wnx 4 (qnx r.s p) ?_ ?_ ?_ <;> (try dsimp only))
 | (refine q0t ?_; refine subQ ?_)
 | (subst hK)
 | exact trivial
 all_goals try (intros; assumption)
 all_goals try refine qbm ?_
 all_goals try replace hp := q0e hp
 all_goals try replace hi := q0e hi
 all_goals try (intros; first | trivial | omega)
 all_goals (try (rw [w64 (by omega) (by omega)]; first | done | omega))
 all_goals (try simp only [isAt, Bool.and_eq_true, decide_eq_true_eq, Bool.and_eq_false_iff, decide_eq_false_iff_not] at *)
 all_goals (try have hz := hp.2.1)
 all_goals first
 | omega
 | (rw [w64 (by omega) (by omega)]; omega)
 | (simp only [List.length_nil]; omega)
 | rfl
 | (intro d hd; subst hd; exact ⟨rfl, by simp [D.cells, D.one]⟩)
 | (rw [qby _ _ (by rw [List.length_map])]; exact qxw _)
 | (have c : chr r.s p.1 = 39 := by assumption
    have e : r.qres = (p.1 + 1, p.2, true) := hi.2.2.2.trans (qs3 (by omega) c (by omega))
    simp [Rd.qval, Rd.quoted, Rd.to, e]
    try split
    all_goals first | rfl | omega | (simp; done) | (rw [qby _ _ (by rw [List.length_map])]))
 | (have e : r.qres = (p.1, p.2, false) := hi.2.2.2.trans (qv5 (by omega))
    simp [Rd.qval, Rd.quoted, Rd.to, Rd.fail, e, qi2])
 | (have c : chr r.s p.1 = 39 := by assumption
    have c2 : chr r.s (p.1 + 1) = 39 := by omega
    have e := hi.2.2.2.trans (qv6 (by omega) c c2)
    rw [qs4 c]
    first
     | omega
     | exact e
     | (rw [List.length_append]; simp; omega)
     | (simp [c2]; done)
     | (simp only [List.map_append, List.map_cons, List.map_nil, c2]; exact q0b _)
     )
 | (have c : ¬ chr r.s p.1 = 39 := by assumption
    have e := hi.2.2.2.trans (qs2 (by omega) c)
    rw [qs5 c]
    first
     | omega
     | exact e
     | (rw [List.length_append]; simp; omega)
     | (simp; done)
     | (simp only [List.map_append, List.map_cons, List.map_nil]; exact q0b _)
     )
end
def cfg98 : Cfg := ⟨Tryz.prog, 55, qrw, mvs, [0], (fun _ => none)⟩
theorem q1l : cfg98.pins = [0] ∧ cfg98.P = Tryz.prog ∧ cfg98.N = 55 ∧ cfg98.T 54 = e54 ∧ cfg98.mv 54 = (fun j => if j = 0 then [(4242, 99, 0)] else []) ∧ cfg98.T 95 = e95 ∧ cfg98.mv 95 = (fun j => if j = 0 then [(4242, 99, 0)] else []) ∧ cfg98.T 96 = e96 ∧ cfg98.mv 96 = (fun _ => []) ∧ cfg98.T 128 = e128 ∧ cfg98.mv 128 = (fun j => if j = 0 then [(4242, 99, 0)] else []) ∧ cfg98.ti = (fun _ => none) := by and_intros <;> exact rfl
section
attribute [local go_sem] q1l e54 e95 e96 e128
attribute [local go_sem] q0s qcc qei qe7 qcp qej qek Int.toNat_natCast_add_one qel qdt qem List.length_map List.map_append List.map_cons List.map_nil List.length_append List.length_cons List.length_nil qhr qew q0n qba Int.toNat_natCast qct
theorem q4g (hC : COk cfg98) (r : Rd) (op : Bool) (hp : r.pos ≤ r.s.size ∧ asc r.s) : Sem Tryz.prog 98 [.bx 99 [.d (.s r.s), .d (.i .i64 (r.pos : Int)), .d (.i .i64 r.place), .d (.i .i64 r.err)], .d (.b op)] (.tup [.d (q0s r.valV), .bx 99 [.d (.s (r.valR.stop op).s), .d (.i .i64 ((r.valR.stop op).pos : Int)), .d (.i .i64 (r.valR.stop op).place), .d (.i .i64 (r.valR.stop op).err)]]) := by
 refine q0i (C := cfg98) (rs := [.cell 4 76]) (fun j => if j = 1 then [(4242, 99, 0)] else []) Tryz.func98 rfl rfl rfl rfl rfl rfl ?_
 refine inQ ?_
 repeat' first
 | (with_reducible first | apply q0y | apply q0f | apply Wsq | apply Wbk | apply Wsk | apply Wex | apply Wrt | apply q0z | apply q00 | apply q0g | apply q0h | refine q0d rfl ?_ | apply q01 | apply q02 | apply And.intro)
 | (with_reducible first | (refine Wrn hC ?_; intro K hK) | (refine Wdr hC (by kernel_rfl) ?_; intro K hK))
 | ((with_reducible first | refine q08 ?_ | refine qcl ?_ | refine q0x ?_); refine siQ ?_; (try simp (disch := omega) only [w64, wu8]))
 | (with_reducible refine qb4 (by kernel_rfl) ?_)
 | ((first | refine Wcd rfl (fun h => ?_) fun h => ?_ | refine Wcu rfl (fun h => ?_) ?_ | refine Wcn rfl ?_ fun h => ?_) <;> (try replace h := q0e h) <;> try (exfalso; first | omega | exact absurd h (by decide)))
 | (refine q0t ?_; refine subQ ?_)
 | (subst hK)
 | exact trivial
 all_goals try (intros; assumption)
 all_goals try refine qbm ?_
 all_goals try replace hp := q0e hp
 all_goals try (intros; first | trivial | omega)
 all_goals (try (rw [w64 (by omega) (by omega)]; first | done | omega))
 all_goals (try have hz := hp.2.1)
 all_goals (try have hw := qcz hp.1)
 all_goals first
 | omega
 | exact hp.2
 | (have h39 : isAt r.s r.pos 39 = true := by assumption
    simp only [isAt, Bool.and_eq_true, decide_eq_true_eq] at h39
    omega)
 | (have h39 : isAt r.s r.pos 39 = true := by assumption
    have hq := qi7 (r := r) (by simp only [isAt, Bool.and_eq_true, decide_eq_true_eq] at h39; omega)
    first
     | omega
     | (rw [qq8 h39]; first
         | (rw [qfe (by rw [qba]; exact h)]; done)
         | (rw [qfe (by rw [qba]; exact h)]; first | rfl | exact qba)
         | (rw [qf3 (by rw [qba]; exact h)]; done)
         | (rw [qf3 (by rw [qba]; exact h)]; first | rfl | exact qba))
     | (simp_all [Rd.valV, Rd.valR, Rd.stop, Rd.is, Rd.fail, qba]; done)
     | (cases op <;> simp_all [Rd.valV, Rd.valR, Rd.stop, Rd.is, Rd.fail, qba] <;> done)
     )
 | (have h39 : isAt r.s r.pos 39 = false := by assumption
    first
     | omega
     | (rw [qv8 h39 (by omega)]; first
         | (rw [qfe (r := r.word.fail r.pos 2) h]; done)
         | (rw [qfe (r := r.word.fail r.pos 2) h]; rfl)
         | (rw [qf3 (r := r.word.fail r.pos 2) h]; done)
         | (rw [qf3 (r := r.word.fail r.pos 2) h]; rfl))
     | (rw [qv9 h39 (by omega)]; first
         | (rw [qfe (r := r.word) h]; done)
         | (rw [qfe (r := r.word) h]; rfl)
         | (rw [qf3 (r := r.word) h]; done)
         | (rw [qf3 (r := r.word) h]; rfl))
     | (simp_all [Rd.valV, Rd.valR, Rd.stop, Rd.is, Rd.fail, qew]; done)
     | (cases op <;> simp_all [Rd.valV, Rd.valR, Rd.stop, Rd.is, Rd.fail, qew] <;> done)
     )
end
end
end Go.Ev
