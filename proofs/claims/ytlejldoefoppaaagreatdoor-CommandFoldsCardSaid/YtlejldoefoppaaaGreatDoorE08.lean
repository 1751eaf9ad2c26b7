/- Tools and contracts under the laws of this seat: Dtc91 to Dtc138b. -/
import Derived.Test.YtlejldoefoppaaaGreatDoorE07
set_option linter.unusedVariables false
set_option linter.unusedSimpArgs false
namespace Go.Ev
noncomputable section
open Go.Proofs Ty
set_option maxRecDepth 10000
set_option maxHeartbeats 4000000
def cfg91 : Cfg := ⟨Tryz.prog, 15, (fun _ _ => none), mvs, [], (fun _ => none)⟩
theorem q79 : cfg91.pins = [] ∧ cfg91.P = Tryz.prog ∧ cfg91.N = 15 := ⟨rfl, rfl, rfl⟩
section
attribute [local go_sem] q79
theorem qbcb (hC : COk cfg91) (n : Int) (least : Int) (most : Int) : Sem Tryz.prog 91 [.d (.i .i64 n), .d (.i .i64 least), .d (.i .i64 most)] (.d (.b (decide (least ≤ n) && decide (n ≤ most)))) := by
 refine q0i (C := cfg91) (rs := [.tmp 6]) (fun _ => []) Tryz.func91 rfl rfl rfl rfl rfl rfl ?_
 refine inQ ?_
 repeat' first
 | (with_reducible first | apply q0n | apply q0f | apply Wsq | apply Wbk | apply Wsk | apply Wex | apply Wrt | apply q0o | apply q0p | apply q0g | apply q0h | refine q0c rfl ?_ | apply q0q | apply q0r | apply And.intro)
 | (with_reducible refine Wrn hC ?_; intro K hK)
 | ((with_reducible first | refine q0w ?_ | refine q0m ?_); refine siQ ?_; (try simp (disch := omega) only [w64, wu8]))
 | ((first | refine Wcd rfl (fun h => ?_) fun h => ?_ | refine Wcu rfl (fun h => ?_) ?_ | refine Wcn rfl ?_ fun h => ?_) <;> (try replace h := q0a h) <;> try (exfalso; first | omega | exact absurd h (by decide)))
 | (refine q0j ?_; refine subQ ?_)
 | (subst hK)
 | exact trivial
 all_goals try (intros; assumption)
 all_goals try refine q07 ?_
 all_goals try (intros; first | trivial | omega)
 all_goals (try (rw [w64 (by omega) (by omega)]; first | done | omega))
end
def cfg82 : Cfg := ⟨Tryz.prog, 4, qzc, mvs, [], (fun _ => none)⟩
theorem q8a : cfg82.pins = [] ∧ cfg82.P = Tryz.prog ∧ cfg82.N = 4 := ⟨rfl, rfl, rfl⟩
section
attribute [local go_sem] q8a
theorem qbcc (hC : COk cfg82) (b : Bool) : Sem Tryz.prog 82 [.d (.b b)] (.d (.i .i64 (if b = true then 1 else 0))) := by
 refine q0i (C := cfg82) (rs := [.tmp 2]) (fun _ => []) Tryz.func82 rfl rfl rfl rfl rfl rfl ?_
 refine inQ ?_
 repeat' first
 | (with_reducible first | apply q0n | apply q0f | apply Wsq | apply Wbk | apply Wsk | apply Wex | apply Wrt | apply q0o | apply q0p | apply q0g | apply q0h | refine q0c rfl ?_ | apply q0q | apply q0r | apply And.intro)
 | (with_reducible refine Wrn hC ?_; intro K hK)
 | ((with_reducible first | refine q0w ?_ | refine q0m ?_); refine siQ ?_; (try simp (disch := omega) only [w64, wu8]))
 | ((first | refine Wcd rfl (fun h => ?_) fun h => ?_ | refine Wcu rfl (fun h => ?_) ?_ | refine Wcn rfl ?_ fun h => ?_) <;> (try replace h := q0a h) <;> try (exfalso; first | omega | exact absurd h (by decide)))
 | (refine q0j ?_; refine subQ ?_)
 | (subst hK)
 | exact trivial
 all_goals try (intros; assumption)
 all_goals try refine q07 ?_
 all_goals try (intros; first | trivial | omega)
 all_goals (try (rw [w64 (by omega) (by omega)]; first | done | omega))
 all_goals simp [*]
end
def cfg43 : Cfg := ⟨Tryz.prog, 9, qzd, mvs, [], (fun _ => none)⟩
theorem q8b : cfg43.pins = [] ∧ cfg43.P = Tryz.prog ∧ cfg43.N = 9 := ⟨rfl, rfl, rfl⟩
section
attribute [local go_sem] q8b
theorem qbcd (hC : COk cfg43) (c : Int) : Sem Tryz.prog 43 [.d (.i .u8 c)] (.d (.b (decide (65 ≤ c) && decide (c ≤ 90)))) := by
 refine q0i (C := cfg43) (rs := [.tmp 2]) (fun _ => []) Tryz.func43 rfl rfl rfl rfl rfl rfl ?_
 refine inQ ?_
 repeat' first
 | (with_reducible first | apply q0n | apply q0f | apply Wsq | apply Wbk | apply Wsk | apply Wex | apply Wrt | apply q0o | apply q0p | apply q0g | apply q0h | refine q0c rfl ?_ | apply q0q | apply q0r | apply And.intro)
 | (with_reducible refine Wrn hC ?_; intro K hK)
 | ((with_reducible first | refine q0w ?_ | refine q0m ?_); refine siQ ?_; (try simp (disch := omega) only [w64, wu8]))
 | ((first | refine Wcd rfl (fun h => ?_) fun h => ?_ | refine Wcu rfl (fun h => ?_) ?_ | refine Wcn rfl ?_ fun h => ?_) <;> (try replace h := q0a h) <;> try (exfalso; first | omega | exact absurd h (by decide)))
 | (refine q0j ?_; refine subQ ?_)
 | (subst hK)
 | exact trivial
 all_goals try (intros; assumption)
 all_goals try refine q07 ?_
 all_goals try (intros; first | trivial | omega)
 all_goals (try (rw [w64 (by omega) (by omega)]; first | done | omega))
end
def cfg92 : Cfg := ⟨Tryz.prog, 9, qze, mvs, [], (fun _ => none)⟩
theorem q8c : cfg92.pins = [] ∧ cfg92.P = Tryz.prog ∧ cfg92.N = 9 := ⟨rfl, rfl, rfl⟩
section
attribute [local go_sem] q8c
theorem qbce (hC : COk cfg92) (c : Int) : Sem Tryz.prog 92 [.d (.i .u8 c)] (.d (.b (decide (48 ≤ c) && decide (c ≤ 57)))) := by
 refine q0i (C := cfg92) (rs := [.tmp 2]) (fun _ => []) Tryz.func92 rfl rfl rfl rfl rfl rfl ?_
 refine inQ ?_
 repeat' first
 | (with_reducible first | apply q0n | apply q0f | apply Wsq | apply Wbk | apply Wsk | apply Wex | apply Wrt | apply q0o | apply q0p | apply q0g | apply q0h | refine q0c rfl ?_ | apply q0q | apply q0r | apply And.intro)
 | (with_reducible refine Wrn hC ?_; intro K hK)
 | ((with_reducible first | refine q0w ?_ | refine q0m ?_); refine siQ ?_; (try simp (disch := omega) only [w64, wu8]))
 | ((first | refine Wcd rfl (fun h => ?_) fun h => ?_ | refine Wcu rfl (fun h => ?_) ?_ | refine Wcn rfl ?_ fun h => ?_) <;> (try replace h := q0a h) <;> try (exfalso; first | omega | exact absurd h (by decide)))
 | (refine q0j ?_; refine subQ ?_)
 | (subst hK)
 | exact trivial
 all_goals try (intros; assumption)
 all_goals try refine q07 ?_
 all_goals try (intros; first | trivial | omega)
 all_goals (try (rw [w64 (by omega) (by omega)]; first | done | omega))
end
def cfg99 : Cfg := ⟨Tryz.prog, 9, qzf, mvs, [], (fun _ => none)⟩
theorem q8d : cfg99.pins = [] ∧ cfg99.P = Tryz.prog ∧ cfg99.N = 9 := ⟨rfl, rfl, rfl⟩
section
attribute [local go_sem] q8d
theorem qbcf (hC : COk cfg99) (c : Int) : Sem Tryz.prog 99 [.d (.i .u8 c)] (.d (.b (decide (97 ≤ c) && decide (c ≤ 122)))) := by
 refine q0i (C := cfg99) (rs := [.tmp 2]) (fun _ => []) Tryz.func99 rfl rfl rfl rfl rfl rfl ?_
 refine inQ ?_
 repeat' first
 | (with_reducible first | apply q0n | apply q0f | apply Wsq | apply Wbk | apply Wsk | apply Wex | apply Wrt | apply q0o | apply q0p | apply q0g | apply q0h | refine q0c rfl ?_ | apply q0q | apply q0r | apply And.intro)
 | (with_reducible refine Wrn hC ?_; intro K hK)
 | ((with_reducible first | refine q0w ?_ | refine q0m ?_); refine siQ ?_; (try simp (disch := omega) only [w64, wu8]))
 | ((first | refine Wcd rfl (fun h => ?_) fun h => ?_ | refine Wcu rfl (fun h => ?_) ?_ | refine Wcn rfl ?_ fun h => ?_) <;> (try replace h := q0a h) <;> try (exfalso; first | omega | exact absurd h (by decide)))
 | (refine q0j ?_; refine subQ ?_)
 | (subst hK)
 | exact trivial
 all_goals try (intros; assumption)
 all_goals try refine q07 ?_
 all_goals try (intros; first | trivial | omega)
 all_goals (try (rw [w64 (by omega) (by omega)]; first | done | omega))
end
def cfg48 : Cfg := ⟨Tryz.prog, 52, qzg, mvs, [], (fun _ => none)⟩
theorem q8e : cfg48.pins = [] ∧ cfg48.P = Tryz.prog ∧ cfg48.N = 52 ∧ cfg48.T 43 = e43 ∧ cfg48.mv 43 = (fun _ => []) ∧ cfg48.T 91 = e91 ∧ cfg48.mv 91 = (fun _ => []) ∧ cfg48.T 92 = e92 ∧ cfg48.mv 92 = (fun _ => []) ∧ cfg48.ti = (fun _ => none) := by and_intros <;> exact rfl
section
attribute [local go_sem] q8e e43 e91 e92
attribute [local go_sem] Int.toNat_natCast qd4
theorem qbcg (hC : COk cfg48) (s : ByteArray) : Sem Tryz.prog 48 [.d (.s s)] (.d (.b (q0l s))) := by
 refine q0i (C := cfg48) (rs := [.tmp 2]) (fun _ => []) Tryz.func48 rfl rfl rfl rfl rfl rfl ?_
 refine inQ ?_
 repeat' first
 | (with_reducible first | apply q0n | apply q0f | apply Wsq | apply Wbk | apply Wsk | apply Wex | apply Wrt | apply q0o | apply q0p | apply q0g | apply q0h | refine q0c rfl ?_ | apply q0q | apply q0r | apply And.intro)
 | (with_reducible refine Wrn hC ?_; intro K hK)
 | ((with_reducible first | refine q0w ?_ | refine q0m ?_); refine siQ ?_; (try simp (disch := omega) only [w64, wu8]))
 | ((first | refine Wcd rfl (fun h => ?_) fun h => ?_ | refine Wcu rfl (fun h => ?_) ?_ | refine Wcn rfl ?_ fun h => ?_) <;> (try replace h := q0a h) <;> try (exfalso; first | omega | exact absurd h (by decide)))
 | (refine Wlp 4 rfl (ι := Nat) (fun i => mkS [(0, V.d (.s s)), (3, V.d (.i .i64 (i : Int)))] ([])) (fun i => i ≤ s.size ∧ 1 ≤ s.size ∧ s.size ≤ 10 ∧ ∀ j, j < i → qk3 (j == 0) (chr s j) = true) (fun i => s.size - i) (0) ?_ ?_ (fun i hi => ?_) <;> (try dsimp only) <;> (try dsimp only at hi))
 | (refine Wnx 4 (i + 1) ?_ ?_ ?_ <;> (try dsimp only))
 | (refine q0j ?_; refine subQ ?_)
 | (subst hK)
 | exact trivial
 all_goals try (intros; assumption)
 all_goals try refine q07 ?_
 all_goals try replace hi := q0a hi
 all_goals try replace hj := q0a hj
 all_goals try (intros; first | trivial | omega)
 all_goals (try (rw [w64 (by omega) (by omega)]; first | done | omega))
 all_goals (try simp only [qoc] at *)
 all_goals first
 | omega
 | exact qpn (by omega)
 | exact qsm (i := i) (by omega) (by rw [← Bool.not_eq_true, qhz]; omega)
 | exact fun j hj => if e : j < i then hi.2.2.2 j e else by
    have : j = i := by omega
    subst this
    rw [qhz]
    omega
 | exact qpm (by omega) (by omega) fun j hj => hi.2.2.2 j (by omega)
end
def cfg87 : Cfg := ⟨Tryz.prog, 65, qzh, mvs, [], (fun _ => none)⟩
theorem q8f : cfg87.pins = [] ∧ cfg87.P = Tryz.prog ∧ cfg87.N = 65 := ⟨rfl, rfl, rfl⟩
section
attribute [local go_sem] q8f
attribute [local go_sem] Int.toNat_natCast qd4 qia qy5
theorem qbch (hC : COk cfg87) (s : ByteArray) : Sem Tryz.prog 87 [.d (.s s)] (.d (.b (q0l s))) := by
 refine q0i (C := cfg87) (rs := [.tmp 2]) (fun _ => []) Tryz.func87 rfl rfl rfl rfl rfl rfl ?_
 refine inQ ?_
 repeat' first
 | (with_reducible first | apply q0n | apply q0f | apply Wsq | apply Wbk | apply Wsk | apply Wex | apply Wrt | apply q0o | apply q0p | apply q0g | apply q0h | refine q0c rfl ?_ | apply q0q | apply q0r | apply And.intro)
 | (with_reducible refine Wrn hC ?_; intro K hK)
 | ((with_reducible first | refine q0w ?_ | refine q0m ?_); refine siQ ?_; (try simp (disch := omega) only [w64, wu8]))
 | ((first | refine Wcd rfl (fun h => ?_) fun h => ?_ | refine Wcu rfl (fun h => ?_) ?_ | refine Wcn rfl ?_ fun h => ?_) <;> (try replace h := q0a h) <;> try (exfalso; first | omega | exact absurd h (by decide)))
 | (refine Wlp 4 rfl (ι := Nat) (fun i => mkS [(15, V.d (.sl 1 (qdc s))), (16, V.d (.i .i64 (s.size : Int))), (17, V.d (.i .i64 (i : Int)))] ([])) (fun i => i ≤ s.size ∧ 1 ≤ s.size ∧ s.size ≤ 10 ∧ ∀ j, j < i → qk3 (j == 0) (chr s j) = true) (fun i => s.size - i) (0) ?_ ?_ (fun i hi => ?_) <;> (try dsimp only) <;> (try dsimp only at hi))
 | (refine Wnx 4 (i + 1) ?_ ?_ ?_ <;> (try dsimp only))
 | (refine q0j ?_; refine subQ ?_)
 | (subst hK)
 | exact trivial
 all_goals try (intros; assumption)
 all_goals try refine q07 ?_
 all_goals try replace hi := q0a hi
 all_goals try replace hj := q0a hj
 all_goals try (intros; first | trivial | omega)
 all_goals (try (rw [w64 (by omega) (by omega)]; first | done | omega))
 all_goals (try simp only [qoc] at *)
 all_goals first
 | omega
 | exact qpn (by omega)
 | exact qsm (i := i) (by omega) (by rw [← Bool.not_eq_true, qhz]; omega)
 | exact fun j hj => if e : j < i then hi.2.2.2 j e else by
    have : j = i := by omega
    subst this
    rw [qhz]
    omega
 | exact qpm (by omega) (by omega) fun j hj => hi.2.2.2 j (by omega)
end
def cfg100 : Cfg := ⟨Tryz.prog, 21, qzi, mvs, [], (fun _ => none)⟩
theorem q4v : cfg100.pins = [] ∧ cfg100.P = Tryz.prog ∧ cfg100.N = 21 := ⟨rfl, rfl, rfl⟩
section
attribute [local go_sem] q4v
theorem qbav (hC : COk cfg100) (c : Int) : Sem Tryz.prog 100 [.d (.i .u8 c)] (.d (.b (inWq c))) := by
 refine q0i (C := cfg100) (rs := [.tmp 2]) (fun _ => []) Tryz.func100 rfl rfl rfl rfl rfl rfl ?_
 refine inQ ?_
 repeat' first
 | (with_reducible first | apply q0n | apply q0f | apply Wsq | apply Wbk | apply Wsk | apply Wex | apply Wrt | apply q0o | apply q0p | apply q0g | apply q0h | refine q0c rfl ?_ | apply q0q | apply q0r | apply And.intro)
 | (with_reducible refine Wrn hC ?_; intro K hK)
 | ((with_reducible first | refine q0w ?_ | refine q0m ?_); refine siQ ?_; (try simp (disch := omega) only [w64, wu8]))
 | ((first | refine Wcd rfl (fun h => ?_) fun h => ?_ | refine Wcu rfl (fun h => ?_) ?_ | refine Wcn rfl ?_ fun h => ?_) <;> (try replace h := q0a h) <;> try (exfalso; first | omega | exact absurd h (by decide)))
 | (refine q0j ?_; refine subQ ?_)
 | (subst hK)
 | exact trivial
 all_goals try (intros; assumption)
 all_goals try refine q07 ?_
 all_goals try (intros; first | trivial | omega)
 all_goals (try (rw [w64 (by omega) (by omega)]; first | done | omega))
 all_goals (unfold inWq; rw [Bool.eq_iff_iff]; simp; try omega)
end
def cfg89 : Cfg := ⟨Tryz.prog, 15, qv2, mvs, [], (fun _ => none)⟩
theorem q8g : cfg89.pins = [] ∧ cfg89.P = Tryz.prog ∧ cfg89.N = 15 := ⟨rfl, rfl, rfl⟩
section
attribute [local go_sem] q8g
theorem qbci (hC : COk cfg89) (n : Int) (lo : Int) (hi : Int) : Sem Tryz.prog 89 [.d (.i .i64 n), .d (.i .i64 lo), .d (.i .i64 hi)] (.d (.b (decide (lo ≤ n) && decide (n ≤ hi)))) := by
 refine q0i (C := cfg89) (rs := [.tmp 6]) (fun _ => []) Tryz.func89 rfl rfl rfl rfl rfl rfl ?_
 refine inQ ?_
 repeat' first
 | (with_reducible first | apply q0n | apply q0f | apply Wsq | apply Wbk | apply Wsk | apply Wex | apply Wrt | apply q0o | apply q0p | apply q0g | apply q0h | refine q0c rfl ?_ | apply q0q | apply q0r | apply And.intro)
 | (with_reducible refine Wrn hC ?_; intro K hK)
 | ((with_reducible first | refine q0w ?_ | refine q0m ?_); refine siQ ?_; (try simp (disch := omega) only [w64, wu8]))
 | ((first | refine Wcd rfl (fun h => ?_) fun h => ?_ | refine Wcu rfl (fun h => ?_) ?_ | refine Wcn rfl ?_ fun h => ?_) <;> (try replace h := q0a h) <;> try (exfalso; first | omega | exact absurd h (by decide)))
 | (refine q0j ?_; refine subQ ?_)
 | (subst hK)
 | exact trivial
 all_goals try (intros; assumption)
 all_goals try refine q07 ?_
 all_goals try replace hi := q0a hi
 all_goals try (intros; first | trivial | omega)
 all_goals (try (rw [w64 (by omega) (by omega)]; first | done | omega))
end
def cfg64 : Cfg := ⟨Tryz.prog, 7, qzn, mvs, [], (fun _ => none)⟩
theorem q8h : cfg64.pins = [] ∧ cfg64.P = Tryz.prog ∧ cfg64.N = 7 := ⟨rfl, rfl, rfl⟩
section
attribute [local go_sem] q8h
theorem qbcj (hC : COk cfg64) (b : Bool) (e : Int) : Sem Tryz.prog 64 [.d (.b b), .d (.i .i64 e)] (.d (.i .i64 (if b = true then e else 0))) := by
 refine q0i (C := cfg64) (rs := [.tmp 4]) (fun _ => []) Tryz.func64 rfl rfl rfl rfl rfl rfl ?_
 refine inQ ?_
 repeat' first
 | (with_reducible first | apply q0n | apply q0f | apply Wsq | apply Wbk | apply Wsk | apply Wex | apply Wrt | apply q0o | apply q0p | apply q0g | apply q0h | refine q0c rfl ?_ | apply q0q | apply q0r | apply And.intro)
 | (with_reducible refine Wrn hC ?_; intro K hK)
 | ((with_reducible first | refine q0w ?_ | refine q0m ?_); refine siQ ?_; (try simp (disch := omega) only [w64, wu8]))
 | ((first | refine Wcd rfl (fun h => ?_) fun h => ?_ | refine Wcu rfl (fun h => ?_) ?_ | refine Wcn rfl ?_ fun h => ?_) <;> (try replace h := q0a h) <;> try (exfalso; first | omega | exact absurd h (by decide)))
 | (refine q0j ?_; refine subQ ?_)
 | (subst hK)
 | exact trivial
 all_goals try (intros; assumption)
 all_goals try refine q07 ?_
 all_goals try (intros; first | trivial | omega)
 all_goals (try (rw [w64 (by omega) (by omega)]; first | done | omega))
 all_goals simp [*]
end
def cfg62 : Cfg := ⟨Tryz.prog, 15, qzo, mvs, [], (fun _ => none)⟩
theorem q8i : cfg62.pins = [] ∧ cfg62.P = Tryz.prog ∧ cfg62.N = 15 := ⟨rfl, rfl, rfl⟩
section
attribute [local go_sem] q8i
attribute [local go_sem] q14 List.length_map Int.toNat_natCast
theorem qbck (hC : COk cfg62) (l : List Int) (hp : l.length ≤ 1000000) : Sem Tryz.prog 62 [.d (.sl 1 (l.map (D.i .i64)))] (.d (.i .i64 (fstE l))) := by
 refine q0i (C := cfg62) (rs := [.tmp 2]) (fun _ => []) Tryz.func62 rfl rfl rfl rfl rfl rfl ?_
 refine inQ ?_
 repeat' first
 | (with_reducible first | apply q0n | apply q0f | apply Wsq | apply Wbk | apply Wsk | apply Wex | apply Wrt | apply q0o | apply q0p | apply q0g | apply q0h | refine q0c rfl ?_ | apply q0q | apply q0r | apply And.intro)
 | (with_reducible refine Wrn hC ?_; intro K hK)
 | ((with_reducible first | refine q0w ?_ | refine q0m ?_); refine siQ ?_; (try simp (disch := omega) only [w64, wu8]))
 | ((first | refine Wcd rfl (fun h => ?_) fun h => ?_ | refine Wcu rfl (fun h => ?_) ?_ | refine Wcn rfl ?_ fun h => ?_) <;> (try replace h := q0a h) <;> try (exfalso; first | omega | exact absurd h (by decide)))
 | (refine Wlp 2 rfl (ι := Nat) (fun i => mkS [(5, V.d (.sl 1 (l.map (D.i .i64)))), (6, V.d (.i .i64 (l.length : Int))), (7, V.d (.i .i64 (i : Int)))] ([])) (fun i => i ≤ l.length ∧ fstE (l.drop i) = fstE l) (fun i => l.length - i) (0) ?_ ?_ (fun i hi => ?_) <;> (try dsimp only) <;> (try dsimp only at hi))
 | (refine Wnx 2 (i + 1) ?_ ?_ ?_ <;> (try dsimp only))
 | (refine q0j ?_; refine subQ ?_)
 | (subst hK)
 | exact trivial
 all_goals try (intros; assumption)
 all_goals try refine q07 ?_
 all_goals try replace hp := q0a hp
 all_goals try replace hi := q0a hi
 all_goals try (intros; first | trivial | omega)
 all_goals (try (rw [w64 (by omega) (by omega)]; first | done | omega))
 all_goals first
 | rfl
 | (rw [q39 hi.2 (by omega) (by assumption)]; done)
 | exact q7q hi.2 (by omega) (by assumption)
 | (rw [q4a hi.2 (by omega)]; done)
end
def cfg139 : Cfg := ⟨Tryz.prog, 9, qzp, mvs, [], (fun _ => none)⟩
theorem q4w : cfg139.pins = [] ∧ cfg139.P = Tryz.prog ∧ cfg139.N = 9 := ⟨rfl, rfl, rfl⟩
section
attribute [local go_sem] q4w
theorem qbaw (hC : COk cfg139) (c : Int) : Sem Tryz.prog 139 [.d (.i .u8 c)] (.d (.b (badC c))) := by
 refine q0i (C := cfg139) (rs := [.tmp 2]) (fun _ => []) Tryz.func139 rfl rfl rfl rfl rfl rfl ?_
 refine inQ ?_
 repeat' first
 | (with_reducible first | apply q0n | apply q0f | apply Wsq | apply Wbk | apply Wsk | apply Wex | apply Wrt | apply q0o | apply q0p | apply q0g | apply q0h | refine q0c rfl ?_ | apply q0q | apply q0r | apply And.intro)
 | (with_reducible refine Wrn hC ?_; intro K hK)
 | ((with_reducible first | refine q0w ?_ | refine q0m ?_); refine siQ ?_; (try simp (disch := omega) only [w64, wu8]))
 | ((first | refine Wcd rfl (fun h => ?_) fun h => ?_ | refine Wcu rfl (fun h => ?_) ?_ | refine Wcn rfl ?_ fun h => ?_) <;> (try replace h := q0a h) <;> try (exfalso; first | omega | exact absurd h (by decide)))
 | (refine q0j ?_; refine subQ ?_)
 | (subst hK)
 | exact trivial
 all_goals try (intros; assumption)
 all_goals try refine q07 ?_
 all_goals try (intros; first | trivial | omega)
 all_goals (try (rw [w64 (by omega) (by omega)]; first | done | omega))
 all_goals (unfold badC; rw [Bool.eq_iff_iff]; simp; try omega)
end
def cfg50a : Cfg := ⟨Tryz.prog, 19, qv3, mvs, [], (fun _ => none)⟩
theorem q4x : cfg50a.pins = [] ∧ cfg50a.P = Tryz.prog ∧ cfg50a.N = 19 ∧ cfg50a.ti 139 = none ∧ cfg50a.T 139 = e139 ∧ cfg50a.mv 139 = (fun _ => []) := by and_intros <;> exact rfl
section
attribute [local go_sem] q4x e139
attribute [local go_sem] Int.toNat_natCast qod
theorem qbax (hC : COk cfg50a) (l : List Int) (f : Unit) (hp : l.length ≤ 1000000) : Sem Tryz.prog 50 [.d (.sl 1 (l.map (D.i .u8))), .d (.fn 139 [])] (.d (.i .i64 (idxP badC l))) := by
 refine q0i (C := cfg50a) (rs := [.tmp 4]) (fun _ => []) Tryz.func50 rfl rfl rfl rfl rfl rfl ?_
 refine inQ ?_
 repeat' first
 | (with_reducible first | apply q0n | apply q0f | apply Wsq | apply Wbk | apply Wsk | apply Wex | apply Wrt | apply q0o | apply q0p | apply q0g | apply q0h | refine q0c rfl ?_ | apply q0q | apply q0r | apply And.intro)
 | (with_reducible refine Wrn hC ?_; intro K hK)
 | ((with_reducible first | refine q0w ?_ | refine q0m ?_); refine siQ ?_; (try simp (disch := omega) only [w64, wu8]))
 | ((first | refine Wcd rfl (fun h => ?_) fun h => ?_ | refine Wcu rfl (fun h => ?_) ?_ | refine Wcn rfl ?_ fun h => ?_) <;> (try replace h := q0a h) <;> try (exfalso; first | omega | exact absurd h (by decide)))
 | (refine Wlp 2 rfl (ι := Nat) (fun i => mkS [(0, V.d (.sl 1 (l.map (D.i .u8)))), (1, V.d (.fn 139 [])), (7, V.d (.i .i64 (l.length : Int))), (8, V.d (.i .i64 (i : Int)))] ([])) (fun i => i ≤ l.length ∧ ∀ j, j < i → badC (l.getD j 0) = false) (fun i => l.length - i) (0) ?_ ?_ (fun i hi => ?_) <;> (try dsimp only) <;> (try dsimp only at hi))
 | (refine Wnx 2 (i + 1) ?_ ?_ ?_ <;> (try dsimp only))
 | (refine q0j ?_; refine subQ ?_)
 | (subst hK)
 | exact trivial
 all_goals try (intros; assumption)
 all_goals try refine q07 ?_
 all_goals try replace hp := q0a hp
 all_goals try replace hi := q0a hi
 all_goals try replace hj := q0a hj
 all_goals try (intros; first | trivial | omega)
 all_goals (try (rw [w64 (by omega) (by omega)]; first | done | omega))
 all_goals first
 | omega
 | (simp only [List.length_map]; done)
 | (simp only [List.length_map]; omega)
 | exact qrj (by omega) h hi.2
 | exact qkb fun j hj => hi.2 j (by omega)
 | exact fun j hj => if e : j < i then hi.2 j e else by
    have : j = i := by omega
    subst this
    exact h
end
def cfg138a : Cfg := ⟨Tryz.prog, 9, qv4, mvs, [], (fun _ => none)⟩
theorem q2m : cfg138a.pins = [] ∧ cfg138a.P = Tryz.prog ∧ cfg138a.N = 9 ∧ cfg138a.ti 50 = none ∧ cfg138a.T 50 = e50a ∧ cfg138a.mv 50 = (fun _ => []) := by and_intros <;> exact rfl
section
attribute [local go_sem] q2m e50a
attribute [local go_sem] q5m
theorem q8j (hC : COk cfg138a) (l : List Int) (f : Unit) (hp : l.length ≤ 1000000) : Sem Tryz.prog 138 [.d (.sl 1 (l.map (D.i .u8))), .d (.fn 139 [])] (.d (.b (hasP badC l))) := by
 refine q0i (C := cfg138a) (rs := [.tmp 4]) (fun _ => []) Tryz.func138 rfl rfl rfl rfl rfl rfl ?_
 refine inQ ?_
 repeat' first
 | (with_reducible first | apply q0n | apply q0f | apply Wsq | apply Wbk | apply Wsk | apply Wex | apply Wrt | apply q0o | apply q0p | apply q0g | apply q0h | refine q0c rfl ?_ | apply q0q | apply q0r | apply And.intro)
 | (with_reducible refine Wrn hC ?_; intro K hK)
 | ((with_reducible first | refine q0w ?_ | refine q0m ?_); refine siQ ?_; (try simp (disch := omega) only [w64, wu8]))
 | ((first | refine Wcd rfl (fun h => ?_) fun h => ?_ | refine Wcu rfl (fun h => ?_) ?_ | refine Wcn rfl ?_ fun h => ?_) <;> (try replace h := q0a h) <;> try (exfalso; first | omega | exact absurd h (by decide)))
 | (refine q0j ?_; refine subQ ?_)
 | (subst hK)
 | exact trivial
 all_goals try (intros; assumption)
 all_goals try refine q07 ?_
 all_goals try replace hp := q0a hp
 all_goals try (intros; first | trivial | omega)
 all_goals (try (rw [w64 (by omega) (by omega)]; first | done | omega))
 all_goals first
 | rfl
end
def cfg124 : Cfg := ⟨Tryz.prog, 7, qrt, mvs, [], (fun _ => none)⟩
theorem q4y : cfg124.pins = [] ∧ cfg124.P = Tryz.prog ∧ cfg124.N = 7 ∧ cfg124.T 138 = qqq ∧ cfg124.mv 138 = (fun _ => []) ∧ cfg124.T 139 = e139 ∧ cfg124.mv 139 = (fun _ => []) ∧ cfg124.ti = (fun _ => none) := by and_intros <;> exact rfl
section
attribute [local go_sem] q4y qqq e139
attribute [local go_sem] ql8 qe2
theorem qbay (hC : COk cfg124) (s : ByteArray) (hp : s.size ≤ 1000000) : Sem Tryz.prog 124 [.d (.s s)] (.d (.b (qdo s))) := by
 refine q0i (C := cfg124) (rs := [.tmp 2]) (fun _ => []) Tryz.func124 rfl rfl rfl rfl rfl rfl ?_
 refine inQ ?_
 repeat' first
 | (with_reducible first | apply q0n | apply q0f | apply Wsq | apply Wbk | apply Wsk | apply Wex | apply Wrt | apply q0o | apply q0p | apply q0g | apply q0h | refine q0c rfl ?_ | apply q0q | apply q0r | apply And.intro)
 | (with_reducible refine Wrn hC ?_; intro K hK)
 | ((with_reducible first | refine q0w ?_ | refine q0m ?_); refine siQ ?_; (try simp (disch := omega) only [w64, wu8]))
 | ((first | refine Wcd rfl (fun h => ?_) fun h => ?_ | refine Wcu rfl (fun h => ?_) ?_ | refine Wcn rfl ?_ fun h => ?_) <;> (try replace h := q0a h) <;> try (exfalso; first | omega | exact absurd h (by decide)))
 | (refine q0j ?_; refine subQ ?_)
 | (subst hK)
 | exact trivial
 all_goals try (intros; assumption)
 all_goals try refine q07 ?_
 all_goals try replace hp := q0a hp
 all_goals try (intros; first | trivial | omega)
 all_goals (try (rw [w64 (by omega) (by omega)]; first | done | omega))
 all_goals first
 | rfl
end
def cfg146 : Cfg := ⟨Tryz.prog, 29, qv5, mvs, [], (fun _ => none)⟩
theorem q4z : cfg146.pins = [] ∧ cfg146.P = Tryz.prog ∧ cfg146.N = 29 := ⟨rfl, rfl, rfl⟩
section
attribute [local go_sem] q4z
theorem qbaz (hC : COk cfg146) (c : Int) : Sem Tryz.prog 146 [.d (.i .u8 c)] (.d (.b (qbh c))) := by
 refine q0i (C := cfg146) (rs := [.tmp 2]) (fun _ => []) Tryz.func146 rfl rfl rfl rfl rfl rfl ?_
 refine inQ ?_
 repeat' first
 | (with_reducible first | apply q0n | apply q0f | apply Wsq | apply Wbk | apply Wsk | apply Wex | apply Wrt | apply q0o | apply q0p | apply q0g | apply q0h | refine q0c rfl ?_ | apply q0q | apply q0r | apply And.intro)
 | (with_reducible refine Wrn hC ?_; intro K hK)
 | ((with_reducible first | refine q0w ?_ | refine q0m ?_); refine siQ ?_; (try simp (disch := omega) only [w64, wu8]))
 | ((first | refine Wcd rfl (fun h => ?_) fun h => ?_ | refine Wcu rfl (fun h => ?_) ?_ | refine Wcn rfl ?_ fun h => ?_) <;> (try replace h := q0a h) <;> try (exfalso; first | omega | exact absurd h (by decide)))
 | (refine q0j ?_; refine subQ ?_)
 | (subst hK)
 | exact trivial
 all_goals try (intros; assumption)
 all_goals try refine q07 ?_
 all_goals try (intros; first | trivial | omega)
 all_goals (try (rw [w64 (by omega) (by omega)]; first | done | omega))
 all_goals (unfold qbh; rw [Bool.eq_iff_iff]; simp; try omega)
end
def cfg50b : Cfg := ⟨Tryz.prog, 19, qv6, mvs, [], (fun _ => none)⟩
theorem q40 : cfg50b.pins = [] ∧ cfg50b.P = Tryz.prog ∧ cfg50b.N = 19 ∧ cfg50b.ti 146 = none ∧ cfg50b.T 146 = e146 ∧ cfg50b.mv 146 = (fun _ => []) := by and_intros <;> exact rfl
section
attribute [local go_sem] q40 e146
attribute [local go_sem] Int.toNat_natCast qod
theorem qba0 (hC : COk cfg50b) (l : List Int) (f : Unit) (hp : l.length ≤ 1000000) : Sem Tryz.prog 50 [.d (.sl 1 (l.map (D.i .u8))), .d (.fn 146 [])] (.d (.i .i64 (idxP qbh l))) := by
 refine q0i (C := cfg50b) (rs := [.tmp 4]) (fun _ => []) Tryz.func50 rfl rfl rfl rfl rfl rfl ?_
 refine inQ ?_
 repeat' first
 | (with_reducible first | apply q0n | apply q0f | apply Wsq | apply Wbk | apply Wsk | apply Wex | apply Wrt | apply q0o | apply q0p | apply q0g | apply q0h | refine q0c rfl ?_ | apply q0q | apply q0r | apply And.intro)
 | (with_reducible refine Wrn hC ?_; intro K hK)
 | ((with_reducible first | refine q0w ?_ | refine q0m ?_); refine siQ ?_; (try simp (disch := omega) only [w64, wu8]))
 | ((first | refine Wcd rfl (fun h => ?_) fun h => ?_ | refine Wcu rfl (fun h => ?_) ?_ | refine Wcn rfl ?_ fun h => ?_) <;> (try replace h := q0a h) <;> try (exfalso; first | omega | exact absurd h (by decide)))
 | (refine Wlp 2 rfl (ι := Nat) (fun i => mkS [(0, V.d (.sl 1 (l.map (D.i .u8)))), (1, V.d (.fn 146 [])), (7, V.d (.i .i64 (l.length : Int))), (8, V.d (.i .i64 (i : Int)))] ([])) (fun i => i ≤ l.length ∧ ∀ j, j < i → qbh (l.getD j 0) = false) (fun i => l.length - i) (0) ?_ ?_ (fun i hi => ?_) <;> (try dsimp only) <;> (try dsimp only at hi))
 | (refine Wnx 2 (i + 1) ?_ ?_ ?_ <;> (try dsimp only))
 | (refine q0j ?_; refine subQ ?_)
 | (subst hK)
 | exact trivial
 all_goals try (intros; assumption)
 all_goals try refine q07 ?_
 all_goals try replace hp := q0a hp
 all_goals try replace hi := q0a hi
 all_goals try replace hj := q0a hj
 all_goals try (intros; first | trivial | omega)
 all_goals (try (rw [w64 (by omega) (by omega)]; first | done | omega))
 all_goals first
 | omega
 | (simp only [List.length_map]; done)
 | (simp only [List.length_map]; omega)
 | exact qrj (by omega) h hi.2
 | exact qkb fun j hj => hi.2 j (by omega)
 | exact fun j hj => if e : j < i then hi.2 j e else by
    have : j = i := by omega
    subst this
    exact h
end
def cfg138b : Cfg := ⟨Tryz.prog, 9, qv7, mvs, [], (fun _ => none)⟩
theorem q2n : cfg138b.pins = [] ∧ cfg138b.P = Tryz.prog ∧ cfg138b.N = 9 ∧ cfg138b.ti 50 = none ∧ cfg138b.T 50 = e50b ∧ cfg138b.mv 50 = (fun _ => []) := by and_intros <;> exact rfl
section
attribute [local go_sem] q2n e50b
attribute [local go_sem] q5m
theorem q8k (hC : COk cfg138b) (l : List Int) (f : Unit) (hp : l.length ≤ 1000000) : Sem Tryz.prog 138 [.d (.sl 1 (l.map (D.i .u8))), .d (.fn 146 [])] (.d (.b (hasP qbh l))) := by
 refine q0i (C := cfg138b) (rs := [.tmp 4]) (fun _ => []) Tryz.func138 rfl rfl rfl rfl rfl rfl ?_
 refine inQ ?_
 repeat' first
 | (with_reducible first | apply q0n | apply q0f | apply Wsq | apply Wbk | apply Wsk | apply Wex | apply Wrt | apply q0o | apply q0p | apply q0g | apply q0h | refine q0c rfl ?_ | apply q0q | apply q0r | apply And.intro)
 | (with_reducible refine Wrn hC ?_; intro K hK)
 | ((with_reducible first | refine q0w ?_ | refine q0m ?_); refine siQ ?_; (try simp (disch := omega) only [w64, wu8]))
 | ((first | refine Wcd rfl (fun h => ?_) fun h => ?_ | refine Wcu rfl (fun h => ?_) ?_ | refine Wcn rfl ?_ fun h => ?_) <;> (try replace h := q0a h) <;> try (exfalso; first | omega | exact absurd h (by decide)))
 | (refine q0j ?_; refine subQ ?_)
 | (subst hK)
 | exact trivial
 all_goals try (intros; assumption)
 all_goals try refine q07 ?_
 all_goals try replace hp := q0a hp
 all_goals try (intros; first | trivial | omega)
 all_goals (try (rw [w64 (by omega) (by omega)]; first | done | omega))
 all_goals first
 | rfl
end
end
end Go.Ev
