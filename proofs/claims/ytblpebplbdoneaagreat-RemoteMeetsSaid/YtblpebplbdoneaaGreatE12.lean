/- Tools and contracts under the laws of this seat: Drc57 to Drc91. -/
import Derived.Test.YtblpebplbdoneaaGreatE05
set_option linter.unusedVariables false
set_option linter.unusedSimpArgs false
namespace Go.Ev
noncomputable section
open Go.Proofs Ty
set_option maxRecDepth 10000
set_option maxHeartbeats 4000000
def cfg57 : Cfg := ⟨Tryz.prog, 15, (fun _ _ => none), (fun _ _ => []), [], (fun _ => none)⟩
theorem qbod : cfg57.pins = [] ∧ cfg57.P = Tryz.prog ∧ cfg57.N = 15 := ⟨rfl, rfl, rfl⟩
section
attribute [local go_sem] qbod
theorem qbzl (hC : COk cfg57) (n : Int) (least : Int) (most : Int) : Sem Tryz.prog 57 [.d (.i .i64 n), .d (.i .i64 least), .d (.i .i64 most)] (.d (.b (decide (least ≤ n) && decide (n ≤ most)))) := by
 refine q0g (C := cfg57) (rs := [.tmp 6]) (fun _ => []) Tryz.func57 rfl rfl rfl rfl rfl rfl ?_
 refine inQ ?_
 repeat' first
 | (with_reducible first | apply q0n | apply q0d | apply Wsq | apply Wbk | apply Wsk | apply Wex | apply Wrt | apply q0o | apply q0p | apply q0e | apply q0f | refine q0b rfl ?_ | apply q0q | apply q0r | apply And.intro)
 | (with_reducible refine Wrn hC ?_; intro K hK)
 | ((with_reducible first | refine q0u ?_ | refine q0m ?_); refine siQ ?_; (try simp (disch := omega) only [w64, wu8]))
 | ((first | refine Wcd rfl (fun h => ?_) fun h => ?_ | refine Wcu rfl (fun h => ?_) ?_ | refine Wcn rfl ?_ fun h => ?_) <;> (try replace h := q0a h) <;> try (exfalso; first | omega | exact absurd h (by decide)))
 | (refine q0j ?_; refine subQ ?_)
 | (subst hK)
 | exact trivial
 all_goals try (intros; assumption)
 all_goals try refine q0w ?_
 all_goals try (intros; first | trivial | omega)
 all_goals (try (rw [w64 (by omega) (by omega)]; first | done | omega))
end
def cfg100 : Cfg := mkC 15 q7d
theorem qbg9 : cfg100.pins = [] ∧ cfg100.P = Tryz.prog ∧ cfg100.N = 15 := ⟨rfl, rfl, rfl⟩
section
attribute [local go_sem] qbg9
theorem qbtv (hC : COk cfg100) (n : Int) (least : Int) (most : Int) : Sem Tryz.prog 100 [.d (.i .i64 n), .d (.i .i64 least), .d (.i .i64 most)] (.d (.b (decide (least ≤ n) && decide (n ≤ most)))) := by
 refine q0g (C := cfg100) (rs := [.tmp 6]) (fun _ => []) Tryz.func100 rfl rfl rfl rfl rfl rfl ?_
 refine inQ ?_
 repeat' first
 | (with_reducible first | apply q0n | apply q0d | apply Wsq | apply Wbk | apply Wsk | apply Wex | apply Wrt | apply q0o | apply q0p | apply q0e | apply q0f | refine q0b rfl ?_ | apply q0q | apply q0r | apply And.intro)
 | (with_reducible refine Wrn hC ?_; intro K hK)
 | ((with_reducible first | refine q0u ?_ | refine q0m ?_); refine siQ ?_; (try simp (disch := omega) only [w64, wu8]))
 | ((first | refine Wcd rfl (fun h => ?_) fun h => ?_ | refine Wcu rfl (fun h => ?_) ?_ | refine Wcn rfl ?_ fun h => ?_) <;> (try replace h := q0a h) <;> try (exfalso; first | omega | exact absurd h (by decide)))
 | (refine q0j ?_; refine subQ ?_)
 | (subst hK)
 | exact trivial
 all_goals try (intros; assumption)
 all_goals try refine q0w ?_
 all_goals try (intros; first | trivial | omega)
 all_goals (try (rw [w64 (by omega) (by omega)]; first | done | omega))
end
def cfg62 : Cfg := mkC 4 q1b
theorem qboe : cfg62.pins = [] ∧ cfg62.P = Tryz.prog ∧ cfg62.N = 4 := ⟨rfl, rfl, rfl⟩
section
attribute [local go_sem] qboe
theorem qbzm (hC : COk cfg62) (b : Bool) : Sem Tryz.prog 62 [.d (.b b)] (.d (.i .i64 (if b = true then 1 else 0))) := by
 refine q0g (C := cfg62) (rs := [.tmp 2]) (fun _ => []) Tryz.func62 rfl rfl rfl rfl rfl rfl ?_
 refine inQ ?_
 repeat' first
 | (with_reducible first | apply q0n | apply q0d | apply Wsq | apply Wbk | apply Wsk | apply Wex | apply Wrt | apply q0o | apply q0p | apply q0e | apply q0f | refine q0b rfl ?_ | apply q0q | apply q0r | apply And.intro)
 | (with_reducible refine Wrn hC ?_; intro K hK)
 | ((with_reducible first | refine q0u ?_ | refine q0m ?_); refine siQ ?_; (try simp (disch := omega) only [w64, wu8]))
 | ((first | refine Wcd rfl (fun h => ?_) fun h => ?_ | refine Wcu rfl (fun h => ?_) ?_ | refine Wcn rfl ?_ fun h => ?_) <;> (try replace h := q0a h) <;> try (exfalso; first | omega | exact absurd h (by decide)))
 | (refine q0j ?_; refine subQ ?_)
 | (subst hK)
 | exact trivial
 all_goals try (intros; assumption)
 all_goals try refine q0w ?_
 all_goals try (intros; first | trivial | omega)
 all_goals (try (rw [w64 (by omega) (by omega)]; first | done | omega))
 all_goals simp [*]
end
def cfg117 : Cfg := mkC 9 q7e
theorem qbha : cfg117.pins = [] ∧ cfg117.P = Tryz.prog ∧ cfg117.N = 9 := ⟨rfl, rfl, rfl⟩
section
attribute [local go_sem] qbha
theorem qbtw (hC : COk cfg117) (c : Int) : Sem Tryz.prog 117 [.d (.i .u8 c)] (.d (.b (decide (65 ≤ c) && decide (c ≤ 90)))) := by
 refine q0g (C := cfg117) (rs := [.tmp 2]) (fun _ => []) Tryz.func117 rfl rfl rfl rfl rfl rfl ?_
 refine inQ ?_
 repeat' first
 | (with_reducible first | apply q0n | apply q0d | apply Wsq | apply Wbk | apply Wsk | apply Wex | apply Wrt | apply q0o | apply q0p | apply q0e | apply q0f | refine q0b rfl ?_ | apply q0q | apply q0r | apply And.intro)
 | (with_reducible refine Wrn hC ?_; intro K hK)
 | ((with_reducible first | refine q0u ?_ | refine q0m ?_); refine siQ ?_; (try simp (disch := omega) only [w64, wu8]))
 | ((first | refine Wcd rfl (fun h => ?_) fun h => ?_ | refine Wcu rfl (fun h => ?_) ?_ | refine Wcn rfl ?_ fun h => ?_) <;> (try replace h := q0a h) <;> try (exfalso; first | omega | exact absurd h (by decide)))
 | (refine q0j ?_; refine subQ ?_)
 | (subst hK)
 | exact trivial
 all_goals try (intros; assumption)
 all_goals try refine q0w ?_
 all_goals try (intros; first | trivial | omega)
 all_goals (try (rw [w64 (by omega) (by omega)]; first | done | omega))
end
def cfg118 : Cfg := mkC 9 q1c
theorem qbhb : cfg118.pins = [] ∧ cfg118.P = Tryz.prog ∧ cfg118.N = 9 := ⟨rfl, rfl, rfl⟩
section
attribute [local go_sem] qbhb
theorem qbtx (hC : COk cfg118) (c : Int) : Sem Tryz.prog 118 [.d (.i .u8 c)] (.d (.b (decide (48 ≤ c) && decide (c ≤ 57)))) := by
 refine q0g (C := cfg118) (rs := [.tmp 2]) (fun _ => []) Tryz.func118 rfl rfl rfl rfl rfl rfl ?_
 refine inQ ?_
 repeat' first
 | (with_reducible first | apply q0n | apply q0d | apply Wsq | apply Wbk | apply Wsk | apply Wex | apply Wrt | apply q0o | apply q0p | apply q0e | apply q0f | refine q0b rfl ?_ | apply q0q | apply q0r | apply And.intro)
 | (with_reducible refine Wrn hC ?_; intro K hK)
 | ((with_reducible first | refine q0u ?_ | refine q0m ?_); refine siQ ?_; (try simp (disch := omega) only [w64, wu8]))
 | ((first | refine Wcd rfl (fun h => ?_) fun h => ?_ | refine Wcu rfl (fun h => ?_) ?_ | refine Wcn rfl ?_ fun h => ?_) <;> (try replace h := q0a h) <;> try (exfalso; first | omega | exact absurd h (by decide)))
 | (refine q0j ?_; refine subQ ?_)
 | (subst hK)
 | exact trivial
 all_goals try (intros; assumption)
 all_goals try refine q0w ?_
 all_goals try (intros; first | trivial | omega)
 all_goals (try (rw [w64 (by omega) (by omega)]; first | done | omega))
end
def cfg106 : Cfg := mkC 52 q1d
theorem qbhc : cfg106.pins = [] ∧ cfg106.P = Tryz.prog ∧ cfg106.N = 52 ∧ cfg106.T 57 = e57 ∧ cfg106.T 117 = e117 ∧ cfg106.T 118 = e118 ∧ cfg106.ti = (fun _ => none) ∧ cfg106.mv = fun _ _ => [] := by and_intros <;> exact rfl
section
attribute [local go_sem] qbhc e57 e117 e118
attribute [local go_sem] Int.toNat_natCast qdq
theorem qbty (hC : COk cfg106) (s : ByteArray) : Sem Tryz.prog 106 [.d (.s s)] (.d (.b (qcn s))) := by
 refine q0g (C := cfg106) (rs := [.tmp 2]) (fun _ => []) Tryz.func106 rfl rfl rfl rfl rfl rfl ?_
 refine inQ ?_
 repeat' first
 | (with_reducible first | apply q0n | apply q0d | apply Wsq | apply Wbk | apply Wsk | apply Wex | apply Wrt | apply q0o | apply q0p | apply q0e | apply q0f | refine q0b rfl ?_ | apply q0q | apply q0r | apply And.intro)
 | (with_reducible refine Wrn hC ?_; intro K hK)
 | ((with_reducible first | refine q0u ?_ | refine q0m ?_); refine siQ ?_; (try simp (disch := omega) only [w64, wu8]))
 | ((first | refine Wcd rfl (fun h => ?_) fun h => ?_ | refine Wcu rfl (fun h => ?_) ?_ | refine Wcn rfl ?_ fun h => ?_) <;> (try replace h := q0a h) <;> try (exfalso; first | omega | exact absurd h (by decide)))
 | (refine Wlp 4 rfl (ι := Nat) (fun i => mkS [(0, V.d (.s s)), (3, V.d (.i .i64 (i : Int)))] ([])) (fun i => i ≤ s.size ∧ 1 ≤ s.size ∧ s.size ≤ 10 ∧ ∀ j, j < i → qo6 (j == 0) (chr s j) = true) (fun i => s.size - i) (0) ?_ ?_ (fun i hi => ?_) <;> (try dsimp only) <;> (try dsimp only at hi))
 | (refine Wnx 4 (i + 1) ?_ ?_ ?_ <;> (try dsimp only))
 | (refine q0j ?_; refine subQ ?_)
 | (subst hK)
 | exact trivial
 all_goals try (intros; assumption)
 all_goals try refine q0w ?_
 all_goals try replace hi := q0a hi
 all_goals try replace hj := q0a hj
 all_goals try (intros; first | trivial | omega)
 all_goals (try (rw [w64 (by omega) (by omega)]; first | done | omega))
 all_goals (try simp only [qup] at *)
 all_goals first
 | omega
 | exact qqn (by omega)
 | exact qsb (i := i) (by omega) (by rw [← Bool.not_eq_true, ql5]; omega)
 | exact fun j hj => if e : j < i then hi.2.2.2 j e else by
    have : j = i := by omega
    subst this
    rw [ql5]
    omega
 | exact qqm (by omega) (by omega) fun j hj => hi.2.2.2 j (by omega)
end
def cfg101 : Cfg := mkC 62 q1e
theorem qbhd : cfg101.pins = [] ∧ cfg101.P = Tryz.prog ∧ cfg101.N = 62 := ⟨rfl, rfl, rfl⟩
section
attribute [local go_sem] qbhd
attribute [local go_sem] Int.toNat_natCast qdq
theorem qbtz (hC : COk cfg101) (s : ByteArray) : Sem Tryz.prog 101 [.d (.s s)] (.d (.b (qcn s))) := by
 refine q0g (C := cfg101) (rs := [.tmp 2]) (fun _ => []) Tryz.func101 rfl rfl rfl rfl rfl rfl ?_
 refine inQ ?_
 repeat' first
 | (with_reducible first | apply q0n | apply q0d | apply Wsq | apply Wbk | apply Wsk | apply Wex | apply Wrt | apply q0o | apply q0p | apply q0e | apply q0f | refine q0b rfl ?_ | apply q0q | apply q0r | apply And.intro)
 | (with_reducible refine Wrn hC ?_; intro K hK)
 | ((with_reducible first | refine q0u ?_ | refine q0m ?_); refine siQ ?_; (try simp (disch := omega) only [w64, wu8]))
 | ((first | refine Wcd rfl (fun h => ?_) fun h => ?_ | refine Wcu rfl (fun h => ?_) ?_ | refine Wcn rfl ?_ fun h => ?_) <;> (try replace h := q0a h) <;> try (exfalso; first | omega | exact absurd h (by decide)))
 | (refine Wlp 4 rfl (ι := Nat) (fun i => mkS [(0, V.d (.s s)), (14, V.d (.i .i64 (s.size : Int))), (15, V.d (.i .i64 (i : Int)))] ([])) (fun i => i ≤ s.size ∧ 1 ≤ s.size ∧ s.size ≤ 10 ∧ ∀ j, j < i → qo6 (j == 0) (chr s j) = true) (fun i => s.size - i) (0) ?_ ?_ (fun i hi => ?_) <;> (try dsimp only) <;> (try dsimp only at hi))
 | (refine Wnx 4 (i + 1) ?_ ?_ ?_ <;> (try dsimp only))
 | (refine q0j ?_; refine subQ ?_)
 | (subst hK)
 | exact trivial
 all_goals try (intros; assumption)
 all_goals try refine q0w ?_
 all_goals try replace hi := q0a hi
 all_goals try replace hj := q0a hj
 all_goals try (intros; first | trivial | omega)
 all_goals (try (rw [w64 (by omega) (by omega)]; first | done | omega))
 all_goals (try simp only [qup] at *)
 all_goals first
 | omega
 | exact qqn (by omega)
 | exact qsb (i := i) (by omega) (by rw [← Bool.not_eq_true, ql5]; omega)
 | exact fun j hj => if e : j < i then hi.2.2.2 j e else by
    have : j = i := by omega
    subst this
    rw [ql5]
    omega
 | exact qqm (by omega) (by omega) fun j hj => hi.2.2.2 j (by omega)
end
def cfg107 : Cfg := mkC 41 q1f
theorem qbhe : cfg107.pins = [] ∧ cfg107.P = Tryz.prog ∧ cfg107.N = 41 ∧ cfg107.T 57 = e57 ∧ cfg107.T 62 = e62 ∧ cfg107.ti = (fun _ => none) ∧ cfg107.mv = fun _ _ => [] := by and_intros <;> exact rfl
section
attribute [local go_sem] qbhe e57 e62
attribute [local go_sem] q0s q0h qcu qdg q05 qbk qba qby q0x q0v qcr
theorem qbt0 (hC : COk cfg107) (c : Change) : Sem Tryz.prog 107 [.d (q0s c)] (.d (.i .i64 (qjs c))) := by
 refine q0g (C := cfg107) (rs := [.tmp 2]) (fun _ => []) Tryz.func107 rfl rfl rfl rfl rfl rfl ?_
 refine inQ ?_
 repeat' first
 | (with_reducible first | apply q0n | apply q0d | apply Wsq | apply Wbk | apply Wsk | apply Wex | apply Wrt | apply q0o | apply q0p | apply q0e | apply q0f | refine q0b rfl ?_ | apply q0q | apply q0r | apply And.intro)
 | (with_reducible refine Wrn hC ?_; intro K hK)
 | ((with_reducible first | refine q0u ?_ | refine q0m ?_); refine siQ ?_; (try simp (disch := omega) only [w64, wu8]))
 | ((first | refine Wcd rfl (fun h => ?_) fun h => ?_ | refine Wcu rfl (fun h => ?_) ?_ | refine Wcn rfl ?_ fun h => ?_) <;> (try replace h := q0a h) <;> try (exfalso; first | omega | exact absurd h (by decide)))
 | (refine q0j ?_; refine subQ ?_)
 | (subst hK)
 | exact trivial
 all_goals try (intros; assumption)
 all_goals try refine q0w ?_
 all_goals try (intros; first | trivial | omega)
 all_goals (try (rw [w64 (by omega) (by omega)]; first | done | omega))
 all_goals grind [qjs]
end
def cfg105 : Cfg := mkC 38 q1g
theorem qbhf : cfg105.pins = [] ∧ cfg105.P = Tryz.prog ∧ cfg105.N = 38 ∧ cfg105.ti 62 = none ∧ cfg105.T 62 = e62 ∧ cfg105.mv 62 = (fun _ => []) := by and_intros <;> exact rfl
section
attribute [local go_sem] qbhf e62
attribute [local go_sem] q0s q0h qcu qdg q05 qbk qba qby q0x q0v qcr
theorem qbt1 (hC : COk cfg105) (e : Entry) : Sem Tryz.prog 105 [.d (q0h e)] (.d (.i .i64 (qtg e))) := by
 refine q0g (C := cfg105) (rs := [.tmp 2]) (fun _ => []) Tryz.func105 rfl rfl rfl rfl rfl rfl ?_
 refine inQ ?_
 repeat' first
 | (with_reducible first | apply q0n | apply q0d | apply Wsq | apply Wbk | apply Wsk | apply Wex | apply Wrt | apply q0o | apply q0p | apply q0e | apply q0f | refine q0b rfl ?_ | apply q0q | apply q0r | apply And.intro)
 | (with_reducible first | (refine Wrn hC ?_; intro K hK) | (refine Wdr hC (by kernel_rfl) ?_; intro K hK))
 | ((with_reducible first | refine q0u ?_ | refine qbu ?_ | refine q0m ?_); refine siQ ?_; (try simp (disch := omega) only [w64, wu8]))
 | (with_reducible refine qbh (by kernel_rfl) ?_)
 | ((first | refine Wcd rfl (fun h => ?_) fun h => ?_ | refine Wcu rfl (fun h => ?_) ?_ | refine Wcn rfl ?_ fun h => ?_) <;> (try replace h := q0a h) <;> try (exfalso; first | omega | exact absurd h (by decide)))
 | (refine q0j ?_; refine subQ ?_)
 | (subst hK)
 | exact trivial
 all_goals try (intros; assumption)
 all_goals try refine q0w ?_
 all_goals try (intros; first | trivial | omega)
 all_goals (try (rw [w64 (by omega) (by omega)]; first | done | omega))
 all_goals simp only [qtg, qlt, qyr, qv0, q08, decide_eq_false_iff_not]
 all_goals grind
end
def cfg90 : Cfg := mkC 64 q1h
theorem qbof : cfg90.pins = [] ∧ cfg90.P = Tryz.prog ∧ cfg90.N = 64 ∧ cfg90.T 57 = e57 ∧ cfg90.T 62 = e62 ∧ cfg90.T 105 = e105 ∧ cfg90.T 106 = e106 ∧ cfg90.T 107 = e107 ∧ cfg90.ti = (fun _ => none) ∧ cfg90.mv = fun _ _ => [] := by and_intros <;> exact rfl
section
attribute [local go_sem] qbof e57 e62 e105 e106 e107
attribute [local go_sem] q0s q0h qcu qdg q05 qbk qba qby q0x q0v qcr
theorem qbzn (hC : COk cfg90) (e : Entry) : Sem Tryz.prog 90 [.d (q0h e)] (.d (.i .i64 (qde e))) := by
 refine q0g (C := cfg90) (rs := [.tmp 2]) (fun _ => []) Tryz.func90 rfl rfl rfl rfl rfl rfl ?_
 refine inQ ?_
 repeat' first
 | (with_reducible first | apply q0n | apply q0d | apply Wsq | apply Wbk | apply Wsk | apply Wex | apply Wrt | apply q0o | apply q0p | apply q0e | apply q0f | refine q0b rfl ?_ | apply q0q | apply q0r | apply And.intro)
 | (with_reducible first | (refine Wrn hC ?_; intro K hK) | (refine Wdr hC (by kernel_rfl) ?_; intro K hK))
 | ((with_reducible first | refine q0u ?_ | refine qbu ?_ | refine q0m ?_); refine siQ ?_; (try simp (disch := omega) only [w64, wu8]))
 | (with_reducible refine qbh (by kernel_rfl) ?_)
 | ((first | refine Wcd rfl (fun h => ?_) fun h => ?_ | refine Wcu rfl (fun h => ?_) ?_ | refine Wcn rfl ?_ fun h => ?_) <;> (try replace h := q0a h) <;> try (exfalso; first | omega | exact absurd h (by decide)))
 | (refine q0j ?_; refine subQ ?_)
 | (subst hK)
 | exact trivial
 all_goals try (intros; assumption)
 all_goals try refine q0w ?_
 all_goals try (intros; first | trivial | omega)
 all_goals (try (rw [w64 (by omega) (by omega)]; first | done | omega))
 all_goals grind [qde, qtg]
end
def cfg82 : Cfg := mkC 112 q7f
theorem qbog : cfg82.pins = [] ∧ cfg82.P = Tryz.prog ∧ cfg82.N = 112 ∧ cfg82.T 100 = e100 ∧ cfg82.T 101 = e101 ∧ cfg82.ti = (fun _ => none) ∧ cfg82.mv = fun _ _ => [] := by and_intros <;> exact rfl
section
attribute [local go_sem] qbog e100 e101
attribute [local go_sem] q0s q0h qcu qdg q05 qbk qba qby q0x q0v qcr
set_option maxHeartbeats 2000000 in
theorem qbzo (hC : COk cfg82) (e : Entry) : Sem Tryz.prog 82 [.d (q0h e)] (.d (.i .i64 (qde e))) := by
 refine q0g (C := cfg82) (rs := [.tmp 2]) (fun _ => []) Tryz.func82 rfl rfl rfl rfl rfl rfl ?_
 refine inQ ?_
 repeat' first
 | (with_reducible first | apply q0n | apply q0d | apply Wsq | apply Wbk | apply Wsk | apply Wex | apply Wrt | apply q0o | apply q0p | apply q0e | apply q0f | refine q0b rfl ?_ | apply q0q | apply q0r | apply And.intro)
 | (with_reducible refine Wrn hC ?_; intro K hK)
 | ((with_reducible first | refine q0u ?_ | refine q0m ?_); refine siQ ?_; (try simp (disch := omega) only [w64, wu8]))
 | ((first | refine Wcd rfl (fun h => ?_) fun h => ?_ | refine Wcu rfl (fun h => ?_) ?_ | refine Wcn rfl ?_ fun h => ?_) <;> (try replace h := q0a h) <;> try (exfalso; first | omega | exact absurd h (by decide)))
 | (refine q0j ?_; refine subQ ?_)
 | (subst hK)
 | exact trivial
 all_goals try (intros; assumption)
 all_goals try refine q0w ?_
 all_goals try (intros; first | trivial | omega)
 all_goals (try (rw [w64 (by omega) (by omega)]; first | done | omega))
 all_goals simp only [qde, qlt, qyr, qv0, decide_eq_false_iff_not, decide_eq_true_eq, q08, qjs] at *
 all_goals grind
end
def cfg9 : Cfg := mkC 32 q7g
theorem qbt2 : cfg9.pins = [] ∧ cfg9.P = Tryz.prog ∧ cfg9.N = 32 := ⟨rfl, rfl, rfl⟩
section
attribute [local go_sem] qbt2
attribute [local go_sem] q0s q0h qcu qdg q05 qbk qba qby q0x q0v qcr qbm qcj List.length_map Int.toNat_natCast Int.toNat_zero Nat.sub_zero List.length_take qc2 qbx qca qbp qbe qcq qch qdw
attribute [local go_sem ←] List.map_take List.map_drop
theorem con9 (hC : COk cfg9) (l : List Entry) : Sem Tryz.prog 9 [.d (.sl 8 (l.map q0h))] (.d (.b (qtf l))) := by
 refine q0g (C := cfg9) (rs := [.tmp 2]) (fun _ => []) Tryz.func9 rfl rfl rfl rfl rfl rfl ?_
 refine inQ ?_
 repeat' first
 | (with_reducible first | apply q0n | apply q0d | apply Wsq | apply Wbk | apply Wsk | apply Wex | apply Wrt | apply q0o | apply q0p | apply q0e | apply q0f | refine q0b rfl ?_ | apply q0q | apply q0r | apply And.intro)
 | (with_reducible refine Wrn hC ?_; intro K hK)
 | ((with_reducible first | refine q0u ?_ | refine q0m ?_); refine siQ ?_; (try simp (disch := omega) only [w64, wu8]))
 | ((first | refine Wcd rfl (fun h => ?_) fun h => ?_ | refine Wcu rfl (fun h => ?_) ?_ | refine Wcn rfl ?_ fun h => ?_) <;> (try replace h := q0a h) <;> try (exfalso; first | omega | exact absurd h (by decide)))
 | (refine Wlp 2 rfl (ι := Nat) (fun i => mkS [(0, V.d (.sl 8 (l.map q0h))), (3, V.d (.i .i64 (i : Int)))] ([])) (fun i => i ≤ l.length ∧ qql i (l.drop i) = qtf l) (fun i => l.length - i) (0) ?_ ?_ (fun i hi => ?_) <;> (try dsimp only) <;> (try dsimp only at hi))
 | (refine Wnx 2 (i + 1) ?_ ?_ ?_ <;> (try dsimp only))
 | (refine q0j ?_; refine subQ ?_)
 | (subst hK)
 | exact trivial
 all_goals try (intros; assumption)
 all_goals try refine q0w ?_
 all_goals try replace hi := q0a hi
 all_goals try (intros; first | trivial | omega)
 all_goals (try (rw [w64 (by omega) (by omega)]; first | done | omega))
 all_goals first
 | rfl
 | (rw [← hi.2, qd2 q0i (by omega), qql]; grind)
 | (rw [← hi.2, List.drop_of_length_le (by omega)]; rfl)
 | (have := hi.2; rw [qd2 q0i (by omega), qql] at this; grind)
end
def cfg76 : Cfg := mkC 27 tab9
theorem qboh : cfg76.pins = [] ∧ cfg76.P = Tryz.prog ∧ cfg76.N = 27 := ⟨rfl, rfl, rfl⟩
section
attribute [local go_sem] qboh
attribute [local go_sem] q0s q0h qcu qdg q05 qbk qba qby q0x q0v qcr qbm qcj List.length_map Int.toNat_natCast Int.toNat_zero Nat.sub_zero List.length_take qc2 qbx qca qbp qbe qcq qch qdw
attribute [local go_sem ←] List.map_take List.map_drop
theorem qbzp (hC : COk cfg76) (l : List Entry) (unit : Int) (hp : l.length ≤ 1000000) : Sem Tryz.prog 76 [.d (.sl 8 (l.map q0h)), .d (.i .i64 unit)] (.d (.b (begins l unit))) := by
 refine q0g (C := cfg76) (rs := [.tmp 4]) (fun _ => []) Tryz.func76 rfl rfl rfl rfl rfl rfl ?_
 refine inQ ?_
 repeat' first
 | (with_reducible first | apply q0n | apply q0d | apply Wsq | apply Wbk | apply Wsk | apply Wex | apply Wrt | apply q0o | apply q0p | apply q0e | apply q0f | refine q0b rfl ?_ | apply q0q | apply q0r | apply And.intro)
 | (with_reducible refine Wrn hC ?_; intro K hK)
 | ((with_reducible first | refine q0u ?_ | refine q0m ?_); refine siQ ?_; (try simp (disch := omega) only [w64, wu8]))
 | ((first | refine Wcd rfl (fun h => ?_) fun h => ?_ | refine Wcu rfl (fun h => ?_) ?_ | refine Wcn rfl ?_ fun h => ?_) <;> (try replace h := q0a h) <;> try (exfalso; first | omega | exact absurd h (by decide)))
 | (refine Wlp 2 rfl (ι := Nat) (fun i => mkS [(0, V.d (.sl 8 (l.map q0h))), (1, V.d (.i .i64 unit)), (5, V.d (.i .i64 (i : Int)))] ([])) (fun i => i ≤ l.length ∧ begins (l.take i) unit = false) (fun i => l.length - i) (0) ?_ ?_ (fun i hi => ?_) <;> (try dsimp only) <;> (try dsimp only at hi))
 | (refine Wnx 2 (i + 1) ?_ ?_ ?_ <;> (try dsimp only))
 | (refine q0j ?_; refine subQ ?_)
 | (subst hK)
 | exact trivial
 all_goals try (intros; assumption)
 all_goals try refine q0w ?_
 all_goals try replace hp := q0a hp
 all_goals try replace hi := q0a hi
 all_goals try (intros; first | trivial | omega)
 all_goals (try (rw [w64 (by omega) (by omega)]; first | done | omega))
 all_goals first
 | rfl
 | exact qqo (i := i) (by omega) (by omega) (by omega)
 | exact q4p hi.2 (by omega) (by omega)
 | exact q64 hi.2 (by omega)
end
def cfg77 : Cfg := mkC 40 q7h
theorem qboi : cfg77.pins = [] ∧ cfg77.P = Tryz.prog ∧ cfg77.N = 40 := ⟨rfl, rfl, rfl⟩
section
attribute [local go_sem] qboi
attribute [local go_sem] q0s q0h qcu qdg q05 qbk qba qby q0x q0v qcr qbm qcj List.length_map Int.toNat_natCast Int.toNat_zero Nat.sub_zero List.length_take qc2 qbx qca qbp qbe qcq qch qdw
attribute [local go_sem ←] List.map_take List.map_drop
theorem qbzq (hC : COk cfg77) (l : List Entry) (unit : Int) (hp : l.length ≤ 1000000) : Sem Tryz.prog 77 [.d (.sl 8 (l.map q0h)), .d (.i .i64 unit)] (.d (.i .i64 (ends l unit))) := by
 refine q0g (C := cfg77) (rs := [.tmp 4]) (fun _ => []) Tryz.func77 rfl rfl rfl rfl rfl rfl ?_
 refine inQ ?_
 repeat' first
 | (with_reducible first | apply q0n | apply q0d | apply Wsq | apply Wbk | apply Wsk | apply Wex | apply Wrt | apply q0o | apply q0p | apply q0e | apply q0f | refine q0b rfl ?_ | apply q0q | apply q0r | apply And.intro)
 | (with_reducible refine Wrn hC ?_; intro K hK)
 | ((with_reducible first | refine q0u ?_ | refine q0m ?_); refine siQ ?_; (try simp (disch := omega) only [w64, wu8]))
 | ((first | refine Wcd rfl (fun h => ?_) fun h => ?_ | refine Wcu rfl (fun h => ?_) ?_ | refine Wcn rfl ?_ fun h => ?_) <;> (try replace h := q0a h) <;> try (exfalso; first | omega | exact absurd h (by decide)))
 | (refine Wlp 2 rfl (ι := Nat) (fun i => mkS [(0, V.d (.sl 8 (l.map q0h))), (1, V.d (.i .i64 unit)), (5, V.d (.i .i64 (i : Int)))] ([])) (fun i => i ≤ l.length ∧ qgd (l.take i) unit = none) (fun i => l.length - i) (0) ?_ ?_ (fun i hi => ?_) <;> (try dsimp only) <;> (try dsimp only at hi))
 | (refine Wnx 2 (i + 1) ?_ ?_ ?_ <;> (try dsimp only))
 | (refine q0j ?_; refine subQ ?_)
 | (subst hK)
 | exact trivial
 all_goals try (intros; assumption)
 all_goals try refine q0w ?_
 all_goals try replace hp := q0a hp
 all_goals try replace hi := q0a hi
 all_goals try (intros; first | trivial | omega)
 all_goals (try (rw [w64 (by omega) (by omega)]; first | done | omega))
 all_goals first
 | rfl
 | exact q002 (i := i) hi.2 (by omega) (by omega) (by omega)
 | exact (q002 (i := i) hi.2 (by omega) (by omega) (by omega)).symm
 | exact qbbe hi.2 (by omega) (by omega)
 | exact qbfg hi.2 (by omega)
end
def cfg49 : Cfg := mkC 14 q7i
theorem qboj : cfg49.pins = [] ∧ cfg49.P = Tryz.prog ∧ cfg49.N = 14 ∧ cfg49.T 76 = e76 ∧ cfg49.T 77 = e77 ∧ cfg49.ti = (fun _ => none) ∧ cfg49.mv = fun _ _ => [] := by and_intros <;> exact rfl
section
attribute [local go_sem] qboj e76 e77
attribute [local go_sem] q0s q0h qcu qdg q05 qbk qba qby q0x q0v qcr qbm qcj List.length_map Int.toNat_natCast Int.toNat_zero Nat.sub_zero List.length_take qc2 qbx qca qbp qbe qcq qch qdw
attribute [local go_sem ←] List.map_take List.map_drop
theorem qbzr (hC : COk cfg49) (l : List Entry) (unit : Int) (hp : l.length ≤ 1000000) : Sem Tryz.prog 49 [.d (.sl 8 (l.map q0h)), .d (.i .i64 unit)] (.d (.b (isOpen l unit))) := by
 refine q0g (C := cfg49) (rs := [.tmp 4]) (fun _ => []) Tryz.func49 rfl rfl rfl rfl rfl rfl ?_
 refine inQ ?_
 repeat' first
 | (with_reducible first | apply q0n | apply q0d | apply Wsq | apply Wbk | apply Wsk | apply Wex | apply Wrt | apply q0o | apply q0p | apply q0e | apply q0f | refine q0b rfl ?_ | apply q0q | apply q0r | apply And.intro)
 | (with_reducible refine Wrn hC ?_; intro K hK)
 | ((with_reducible first | refine q0u ?_ | refine q0m ?_); refine siQ ?_; (try simp (disch := omega) only [w64, wu8]))
 | ((first | refine Wcd rfl (fun h => ?_) fun h => ?_ | refine Wcu rfl (fun h => ?_) ?_ | refine Wcn rfl ?_ fun h => ?_) <;> (try replace h := q0a h) <;> try (exfalso; first | omega | exact absurd h (by decide)))
 | (refine q0j ?_; refine subQ ?_)
 | (subst hK)
 | exact trivial
 all_goals try (intros; assumption)
 all_goals try refine q0w ?_
 all_goals try replace hp := q0a hp
 all_goals try (intros; first | trivial | omega)
 all_goals (try (rw [w64 (by omega) (by omega)]; first | done | omega))
 all_goals grind [isOpen]
end
def cfg91 : Cfg := mkC 39 q7j
theorem qbok : cfg91.pins = [] ∧ cfg91.P = Tryz.prog ∧ cfg91.N = 39 ∧ cfg91.T 49 = e49 ∧ cfg91.T 62 = e62 ∧ cfg91.T 76 = e76 ∧ cfg91.ti = (fun _ => none) ∧ cfg91.mv = fun _ _ => [] := by and_intros <;> exact rfl
section
attribute [local go_sem] qbok e49 e62 e76
attribute [local go_sem] q0s q0h qcu qdg q05 qbk qba qby q0x q0v qcr qbm qcj List.length_map Int.toNat_natCast Int.toNat_zero Nat.sub_zero List.length_take qc2 qbx qca qbp qbe qcq qch qdw
attribute [local go_sem ←] List.map_take List.map_drop
theorem qbzs (hC : COk cfg91) (l : List Entry) (e : Entry) (hp : l.length ≤ 1000000) : Sem Tryz.prog 91 [.d (.sl 8 (l.map q0h)), .d (q0h e)] (.d (.i .i64 (qez l e))) := by
 refine q0g (C := cfg91) (rs := [.tmp 4]) (fun _ => []) Tryz.func91 rfl rfl rfl rfl rfl rfl ?_
 refine inQ ?_
 repeat' first
 | (with_reducible first | apply q0n | apply q0d | apply Wsq | apply Wbk | apply Wsk | apply Wex | apply Wrt | apply q0o | apply q0p | apply q0e | apply q0f | refine q0b rfl ?_ | apply q0q | apply q0r | apply And.intro)
 | (with_reducible refine Wrn hC ?_; intro K hK)
 | ((with_reducible first | refine q0u ?_ | refine q0m ?_); refine siQ ?_; (try simp (disch := omega) only [w64, wu8]))
 | ((first | refine Wcd rfl (fun h => ?_) fun h => ?_ | refine Wcu rfl (fun h => ?_) ?_ | refine Wcn rfl ?_ fun h => ?_) <;> (try replace h := q0a h) <;> try (exfalso; first | omega | exact absurd h (by decide)))
 | (refine q0j ?_; refine subQ ?_)
 | (subst hK)
 | exact trivial
 all_goals try (intros; assumption)
 all_goals try refine q0w ?_
 all_goals try replace hp := q0a hp
 all_goals try (intros; first | trivial | omega)
 all_goals (try (rw [w64 (by omega) (by omega)]; first | done | omega))
 all_goals grind [qez]
end
end
end Go.Ev
