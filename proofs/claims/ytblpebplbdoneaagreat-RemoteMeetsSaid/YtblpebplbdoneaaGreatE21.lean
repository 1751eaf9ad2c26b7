/- Tools and contracts under the laws of this seat: Drc96, Drc67, Drc48z, Drc53z, Drc66, Drc47z. -/
import Derived.Test.YtblpebplbdoneaaGreatE09
import Derived.Test.YtblpebplbdoneaaGreatE16
set_option linter.unusedVariables false
set_option linter.unusedSimpArgs false
namespace Go.Ev
noncomputable section
open Go.Proofs Ty
set_option maxRecDepth 10000
set_option maxHeartbeats 4000000
attribute [local go_sem] qbm qcj List.length_map Int.toNat_natCast Int.toNat_zero Nat.sub_zero List.length_take qc2 qbx qca qcq qb9 qd4 qee
attribute [local go_sem ←] List.map_take List.map_drop
def cfg96 : Cfg := ⟨Tryz.prog, 19, q9g, mvz, [], (fun _ => none)⟩
theorem qbp0 : cfg96.pins = [] ∧ cfg96.P = Tryz.prog ∧ cfg96.N = 19 := ⟨rfl, rfl, rfl⟩
section
attribute [local go_sem] qbp0
attribute [local go_sem] qbp qbe qch qdw
theorem qb08 (hC : COk cfg96) (l : List Int) (v : Int) (hp : l.length ≤ 1000000) : Sem Tryz.prog 96 [.d (.sl 1 (l.map (D.i .i64))), .d (.i .i64 v)] (.d (.i .i64 (idxZ l v))) := by
 refine q0g (C := cfg96) (rs := [.tmp 4]) (fun _ => []) Tryz.func96 rfl rfl rfl rfl rfl rfl ?_
 refine inQ ?_
 repeat' first
 | (with_reducible first | apply q0n | apply q0d | apply Wsq | apply Wbk | apply Wsk | apply Wex | apply Wrt | apply q0o | apply q0p | apply q0e | apply q0f | refine q0b rfl ?_ | apply q0q | apply q0r | apply And.intro)
 | (with_reducible refine Wrn hC ?_; intro K hK)
 | ((with_reducible first | refine q0u ?_ | refine q0m ?_); refine siQ ?_; (try simp (disch := omega) only [w64, wu8]))
 | ((first | refine Wcd rfl (fun h => ?_) fun h => ?_ | refine Wcu rfl (fun h => ?_) ?_ | refine Wcn rfl ?_ fun h => ?_) <;> (try replace h := q0a h) <;> try (exfalso; first | omega | exact absurd h (by decide)))
 | (refine Wlp 2 rfl (ι := Nat) (fun i => mkS [(0, V.d (.sl 1 (l.map (D.i .i64)))), (1, V.d (.i .i64 v)), (7, V.d (.i .i64 (l.length : Int))), (8, V.d (.i .i64 (i : Int)))] ([])) (fun i => i ≤ l.length ∧ (l.take i).findIdx? (· == v) = none) (fun i => l.length - i) (0) ?_ ?_ (fun i hi => ?_) <;> (try dsimp only) <;> (try dsimp only at hi))
 | (refine Wnx 2 (i + 1) ?_ ?_ ?_ <;> (try dsimp only))
 | (refine q0j ?_; refine subQ ?_)
 | (subst hK)
 | exact trivial
 all_goals try (intros; assumption)
 all_goals try refine q0w ?_
 all_goals try replace hp := q0a hp
 all_goals try replace hi := q0a hi
 all_goals try (intros; first | trivial | omega)
 all_goals (try (rw [w64 (by omega) (by omega)]; first | done | omega))
 all_goals first
 | rfl
 | (rw [qbgq hi.2 (by omega) (by assumption)]; done)
 | exact qbcc hi.2 (by omega) (by assumption)
 | (rw [qbgr hi.2 (by omega)]; done)
end
def cfg67 : Cfg := ⟨Tryz.prog, 9, q9h, mvz, [], (fun _ => none)⟩
theorem qbp1 : cfg67.pins = [] ∧ cfg67.P = Tryz.prog ∧ cfg67.N = 9 ∧ cfg67.ti 96 = none ∧ cfg67.T 96 = e96 ∧ cfg67.mv 96 = (fun _ => []) := by and_intros <;> exact rfl
section
attribute [local go_sem] qbp1 e96
attribute [local go_sem] qbp qbe qch qdw
theorem qb09 (hC : COk cfg67) (l : List Int) (v : Int) (hp : l.length ≤ 1000000) : Sem Tryz.prog 67 [.d (.sl 1 (l.map (D.i .i64))), .d (.i .i64 v)] (.d (.b (decide (v ∈ l)))) := by
 refine q0g (C := cfg67) (rs := [.tmp 4]) (fun _ => []) Tryz.func67 rfl rfl rfl rfl rfl rfl ?_
 refine inQ ?_
 repeat' first
 | (with_reducible first | apply q0n | apply q0d | apply Wsq | apply Wbk | apply Wsk | apply Wex | apply Wrt | apply q0o | apply q0p | apply q0e | apply q0f | refine q0b rfl ?_ | apply q0q | apply q0r | apply And.intro)
 | (with_reducible refine Wrn hC ?_; intro K hK)
 | ((with_reducible first | refine q0u ?_ | refine q0m ?_); refine siQ ?_; (try simp (disch := omega) only [w64, wu8]))
 | ((first | refine Wcd rfl (fun h => ?_) fun h => ?_ | refine Wcu rfl (fun h => ?_) ?_ | refine Wcn rfl ?_ fun h => ?_) <;> (try replace h := q0a h) <;> try (exfalso; first | omega | exact absurd h (by decide)))
 | (refine q0j ?_; refine subQ ?_)
 | (subst hK)
 | exact trivial
 all_goals try (intros; assumption)
 all_goals try refine q0w ?_
 all_goals try replace hp := q0a hp
 all_goals try (intros; first | trivial | omega)
 all_goals (try (rw [w64 (by omega) (by omega)]; first | done | omega))
 all_goals first
 | (simp only [← q3n]; done)
 | (simp only [← q3n]; rfl)
end
def cfg48z : Cfg := ⟨Tryz.prog, 8, q9i, mvz, [], (fun _ => none)⟩
theorem qbix : cfg48z.pins = [] ∧ cfg48z.P = Tryz.prog ∧ cfg48z.N = 8 := ⟨rfl, rfl, rfl⟩
section
attribute [local go_sem] qbix
attribute [local go_sem] qbi qbl qck qdc qce qdr qd3 qet qdq decI nc0 qbj qbo q01 qb7 qdh qd5 qb1 qb8 qem qfe q06 qbz qcx qdl qcb qcm qd6 qen qbt qdm qeo qff qb3 qbr qc1 qdj qcz qeq qdk qc0 qer qdi qcy qep qdd List.drop_zero q0c q0y qdn qd7 q0s q0x q05 qba qcv qcw List.length_set Nat.le_refl qc5 qcl q0h q0v qbk qby qft qgt qii qj1 qij qik qj5 qim qin qd0 qj6 dWZ1 dWZ2 dWZ3 dWZ4 dWZ5
theorem qbvl (hC : COk cfg48z) (x : Entry) (n : Int) : Sem Tryz.prog 48 [.d (q0h x), .d (.cp [.i .i64 n])] (.d (.b ((WantZ.le n).has x))) := by
 refine q0g (C := cfg48z) (rs := [.tmp 3]) (fun _ => []) Tryz.func48 rfl rfl rfl rfl rfl rfl ?_
 refine inQ ?_
 repeat' first
 | (with_reducible first | apply q0n | apply q0d | apply Wsq | apply Wbk | apply Wsk | apply Wex | apply Wrt | apply q0o | apply q0p | apply q0e | apply q0f | refine q0b rfl ?_ | apply q0q | apply q0r | apply And.intro)
 | (with_reducible refine Wrn hC ?_; intro K hK)
 | ((with_reducible first | refine q0u ?_ | refine q0m ?_); refine siQ ?_; (try simp (disch := omega) only [w64, wu8]))
 | ((first | refine Wcd rfl (fun h => ?_) fun h => ?_ | refine Wcu rfl (fun h => ?_) ?_ | refine Wcn rfl ?_ fun h => ?_) <;> (try replace h := q0a h) <;> try (exfalso; first | omega | exact absurd h (by decide)))
 | (refine q0j ?_; refine subQ ?_)
 | (subst hK)
 | exact trivial
 all_goals try (intros; assumption)
 all_goals try refine q0w ?_
 all_goals try (intros; first | trivial | omega)
 all_goals (try (rw [w64 (by omega) (by omega)]; first | done | omega))
 all_goals first | rfl
end
def cfg53z : Cfg := ⟨Tryz.prog, 8, q3o, mvz, [], (fun _ => none)⟩
theorem qbiy : cfg53z.pins = [] ∧ cfg53z.P = Tryz.prog ∧ cfg53z.N = 8 := ⟨rfl, rfl, rfl⟩
section
attribute [local go_sem] qbiy
attribute [local go_sem] qbi qbl qck qdc qce qdr qd3 qet qdq decI nc0 qbj qbo q01 qb7 qdh qd5 qb1 qb8 qem qfe q06 qbz qcx qdl qcb qcm qd6 qen qbt qdm qeo qff qb3 qbr qc1 qdj qcz qeq qdk qc0 qer qdi qcy qep qdd List.drop_zero q0c q0y qdn qd7 q0s q0x q05 qba qcv qcw List.length_set Nat.le_refl qc5 qcl q0h q0v qbk qby qft qgt qii qj1 qij qik qj5 qim qin qd0 qj6 dWZ1 dWZ2 dWZ3 dWZ4 dWZ5
theorem qbvm (hC : COk cfg53z) (x : Entry) (n : Int) : Sem Tryz.prog 53 [.d (q0h x), .d (.cp [.i .i64 n])] (.d (.b ((WantZ.ge n).has x))) := by
 refine q0g (C := cfg53z) (rs := [.tmp 3]) (fun _ => []) Tryz.func53 rfl rfl rfl rfl rfl rfl ?_
 refine inQ ?_
 repeat' first
 | (with_reducible first | apply q0n | apply q0d | apply Wsq | apply Wbk | apply Wsk | apply Wex | apply Wrt | apply q0o | apply q0p | apply q0e | apply q0f | refine q0b rfl ?_ | apply q0q | apply q0r | apply And.intro)
 | (with_reducible refine Wrn hC ?_; intro K hK)
 | ((with_reducible first | refine q0u ?_ | refine q0m ?_); refine siQ ?_; (try simp (disch := omega) only [w64, wu8]))
 | ((first | refine Wcd rfl (fun h => ?_) fun h => ?_ | refine Wcu rfl (fun h => ?_) ?_ | refine Wcn rfl ?_ fun h => ?_) <;> (try replace h := q0a h) <;> try (exfalso; first | omega | exact absurd h (by decide)))
 | (refine q0j ?_; refine subQ ?_)
 | (subst hK)
 | exact trivial
 all_goals try (intros; assumption)
 all_goals try refine q0w ?_
 all_goals try (intros; first | trivial | omega)
 all_goals (try (rw [w64 (by omega) (by omega)]; first | done | omega))
 all_goals first | rfl
end
def cfg66 : Cfg := ⟨Tryz.prog, 9, q3p, mvz, [], (fun _ => none)⟩
theorem qbp2 : cfg66.pins = [] ∧ cfg66.P = Tryz.prog ∧ cfg66.N = 9 ∧ cfg66.ti 67 = none ∧ cfg66.T 67 = e67 ∧ cfg66.mv 67 = (fun _ => []) := by and_intros <;> exact rfl
section
attribute [local go_sem] qbp2 e67
attribute [local go_sem] qbi qbl qck qdc qce qdr qd3 qet qdq decI nc0 qbj qbo q01 qb7 qdh qd5 qb1 qb8 qem qfe q06 qbz qcx qdl qcb qcm qd6 qen qbt qdm qeo qff qb3 qbr qc1 qdj qcz qeq qdk qc0 qer qdi qcy qep qdd List.drop_zero q0c q0y qdn qd7 q0s q0x q05 qba qcv qcw List.length_set Nat.le_refl qc5 qcl q0h q0v qbk qby qft qgt qii qj1 qij qik qj5 qim qin qd0 qj6 dWZ1 dWZ2 dWZ3 dWZ4 dWZ5
theorem qb1a (hC : COk cfg66) (x : Entry) (u : List Int) (hp : u.length ≤ 1000000) : Sem Tryz.prog 66 [.d (q0h x), .d (.cp [.sl 1 (u.map (D.i .i64))])] (.d (.b ((WantZ.out u).has x))) := by
 refine q0g (C := cfg66) (rs := [.tmp 3]) (fun _ => []) Tryz.func66 rfl rfl rfl rfl rfl rfl ?_
 refine inQ ?_
 repeat' first
 | (with_reducible first | apply q0n | apply q0d | apply Wsq | apply Wbk | apply Wsk | apply Wex | apply Wrt | apply q0o | apply q0p | apply q0e | apply q0f | refine q0b rfl ?_ | apply q0q | apply q0r | apply And.intro)
 | (with_reducible refine Wrn hC ?_; intro K hK)
 | ((with_reducible first | refine q0u ?_ | refine q0m ?_); refine siQ ?_; (try simp (disch := omega) only [w64, wu8]))
 | ((first | refine Wcd rfl (fun h => ?_) fun h => ?_ | refine Wcu rfl (fun h => ?_) ?_ | refine Wcn rfl ?_ fun h => ?_) <;> (try replace h := q0a h) <;> try (exfalso; first | omega | exact absurd h (by decide)))
 | (refine q0j ?_; refine subQ ?_)
 | (subst hK)
 | exact trivial
 all_goals try (intros; assumption)
 all_goals try refine q0w ?_
 all_goals try replace hp := q0a hp
 all_goals try (intros; first | trivial | omega)
 all_goals (try (rw [w64 (by omega) (by omega)]; first | done | omega))
 all_goals first | rfl | omega
end
def cfg47z : Cfg := ⟨Tryz.prog, 43, q9j, mvz, [], (fun _ => none)⟩
theorem qbiz : cfg47z.pins = [] ∧ cfg47z.P = Tryz.prog ∧ cfg47z.N = 43 ∧ cfg47z.T 42 = e42 ∧ cfg47z.mv 42 = (fun _ => []) ∧ cfg47z.T 48 = e48z ∧ cfg47z.mv 48 = (fun _ => []) ∧ cfg47z.T 53 = e53z ∧ cfg47z.mv 53 = (fun _ => []) ∧ cfg47z.T 66 = e66 ∧ cfg47z.mv 66 = (fun _ => []) ∧ cfg47z.ti = (fun _ => none) := by and_intros <;> exact rfl
section
attribute [local go_sem] qbiz e42 e48z e53z e66
attribute [local go_sem] qbi qbl qck qdc qce qdr qd3 qet qdq decI nc0 qbj qbo q01 qb7 qdh qd5 qb1 qb8 qem qfe q06 qbz qcx qdl qcb qcm qd6 qen qbt qdm qeo qff qb3 qbr qc1 qdj qcz qeq qdk qc0 qer qdi qcy qep qdd List.drop_zero q0c q0y qdn qd7 q0s q0x q05 qba qcv qcw List.length_set Nat.le_refl qc5 qcl q0h q0v qbk qby qft qgt qii qj1 qij qik qj5 qim qin qd0 qj6 dWZ1 dWZ2 dWZ3 dWZ4 dWZ5 List.length_reverse
theorem qbvn (hC : COk cfg47z) (l : List Entry) (back : Bool) (w : WantZ) (hp : l.length ≤ 1000000 ∧ w.ok) : Sem Tryz.prog 47 [.d (.sl 8 (l.map q0h)), .d (.b back), .d (qj6 w)] (.d (.sl 5 ((qd1 w.has back l).map q0s))) := by
 refine q0g (C := cfg47z) (rs := [.tmp 6]) (fun _ => []) Tryz.func47 rfl rfl rfl rfl rfl rfl ?_
 refine inQ ?_
 repeat' first
 | (refine AW.turnJ (id := 112) (qbjq (qgf w.has back (l.take i)) (by have := qpf (p := w.has) (back := back) (l := l) (i := i); omega)) ⟨_, Tryz.func75, rfl, rfl⟩ (qp7 _) (by simp) (qp7 _) rfl rfl rfl rfl rfl rfl (by show _ < 43; decide) (by rw [List.length_map]; rfl) rfl rfl rfl ?_)
 | (with_reducible first | apply q0n | apply q0d | apply Wsq | apply Wbk | apply Wsk | apply Wex | apply Wrt | apply q0o | apply q0p | apply q0e | apply q0f | refine q0b rfl ?_ | apply q0q | apply q0r | apply And.intro)
 | (refine Wat 5 rfl ?_; cases w <;> (try exact (hp.2 : False).elim))
 | (with_reducible first | (refine Whr hC ?_; intro K hK) | (refine Whd hC (by kernel_rfl) ?_; intro K hK))
 | (with_reducible refine Wrn hC ?_; intro K hK)
 | ((with_reducible first | refine q0u ?_ | refine q0m ?_); refine siQ ?_; (try simp (disch := omega) only [w64, wu8]))
 | ((first | refine Wcd rfl (fun h => ?_) fun h => ?_ | refine Wcu rfl (fun h => ?_) ?_ | refine Wcn rfl ?_ fun h => ?_) <;> (try replace h := q0a h) <;> try (exfalso; first | omega | exact absurd h (by decide)))
 | (refine Wlp 3 rfl (ι := Nat) (fun i => mkS [(1, V.d (.b back)), (2, V.d (qj6 w)), (7, V.row 112 5 0 (qgf w.has back (l.take i)).length), (11, V.d (.sl 8 (l.map q0h))), (12, V.d (.i .i64 (l.length : Int))), (13, V.d (.i .i64 (i : Int)))] ([(112, .live (.row 50 5 false ((qgf w.has back (l.take i)).map q0s)))])) (fun i => i ≤ l.length) (fun i => l.length - i) (0) ?_ ?_ (fun i hi => ?_) <;> (try dsimp only) <;> (try dsimp only at hi))
 | (refine Wnx 3 (i + 1) ?_ ?_ ?_ <;> (try dsimp only))
 | (refine q0j ?_; refine subQ ?_)
 | (subst hK)
 | exact trivial
 all_goals try (intros; assumption)
 all_goals try refine q0w ?_
 all_goals try replace hp := q0a hp
 all_goals try replace hi := q0a hi
 all_goals try (intros; first | trivial | omega)
 all_goals (try (rw [w64 (by omega) (by omega)]; first | done | omega))
 all_goals clear hC
 all_goals (try have CL := fun p => qpf (p := p) (back := back) (l := l) (i := i))
 all_goals first
 | omega
 | (intro d hd; subst hd; exact ⟨rfl, by simp [D.cells, D.one]⟩)
 | exact q0k _
 | exact hp.2
 | (rw [qq8 (by omega) (by assumption)]; first | done | exact q0k _)
 | (rw [qq8 (by omega) (.inl (by assumption))]; first | done | exact q0k _)
 | (rw [qq8 (by omega) (.inr (by assumption))]; first | done | exact q0k _)
 | exact fun _ => hp.2
 | exact Nat.le_trans (CL _) (by omega)
 | exact Nat.le_trans (Nat.mul_le_mul_right 64 (Nat.add_le_add_right (CL _) 1)) (by omega)
 | (rename_i hq; subst h; rw [qpg (by omega) hq.1 hq.2, List.length_append]; rfl)
 | (rename_i hq; subst h; rw [qpg (by omega) hq.1 hq.2, List.map_append]; exact q0k _)
 | (subst h; rw [qwv (by omega)]; exact q0k _)
 | (subst h; rw [qq9 (by omega)]; exact q0k _)
 | (subst h; rw [q42 (by omega)]; exact q0k _)
end
end
end Go.Ev
