/- Tools and contracts under the laws of this seat: Drc65 to Drc7. -/
import Derived.Test.YtblpebplbdoneaaGreatE11
import Derived.Test.YtblpebplbdoneaaGreatE22
set_option linter.unusedVariables false
set_option linter.unusedSimpArgs false
namespace Go.Ev
noncomputable section
open Go.Proofs Ty
set_option maxRecDepth 10000
set_option maxHeartbeats 4000000
attribute [local go_sem] Int.toNat_natCast qc2 qbx qca List.length_map List.length_take Int.toNat_zero Nat.sub_zero qbm qcj qcq
attribute [local go_sem ←] List.map_take List.map_drop
def cfg65 : Cfg := ⟨Tryz.prog, 27, q3q, mvz, [], (fun _ => none)⟩
theorem qbp3 : cfg65.pins = [] ∧ cfg65.P = Tryz.prog ∧ cfg65.N = 27 ∧ cfg65.ti = (fun _ => none) := ⟨rfl, rfl, rfl, rfl⟩
section
attribute [local go_sem] qbp3
attribute [local go_sem] qbi qbl qck qdc qce qdr qd3 qet qdq qd4 qee qb9 decI nc0 qbj qbo q01 qb7 qdh qd5 qb1 qb8 qem qfe q06 qbz qcx qdl qcb qcm qd6 qen qbt qdm qeo qff qb3 qbr qc1 qdj qcz qeq qdk qc0 qer qdi qcy qep qdd List.drop_zero q0c q0y qdn qd7 q0s q0x q05 qba qcv qcw List.length_set Nat.le_refl qc5 qcl q0h q0v qbk qby qft qgt qii qj1 qij qik qj5 qim qin qd0 qst qed
theorem qb1b (hC : COk cfg65) (us : List AUnit) (hp : us.length ≤ 1000 ∧ ∀ u ∈ us, 1 ≤ u.unit ∧ u.unit ≤ 999) : Sem Tryz.prog 65 [.d (.mp (us.map keyU) (us.map fun u => .cp (qed u)))] (.d (.sl 1 ((qra us).map (D.i .i64)))) := by
 have hsl := qst (us.map (·.unit))
 rw [List.length_map] at hsl
 refine q0g (C := cfg65) (rs := [.tmp 2]) (fun _ => []) Tryz.func65 rfl rfl rfl rfl rfl rfl ?_
 refine inQ ?_
 repeat' first
 | (refine AW.keysSorted (t := 3) (tR := 3) (ks := us.map (·.unit)) (xs := us.map fun u => .cp (qed u)) hC Tryz.underlying3 ⟨_, Tryz.func95, rfl, rfl⟩ ⟨_, Tryz.func94, rfl, rfl⟩ cKz cSz rfl rfl rfl rfl rfl rfl rfl rfl rfl (by show _ < 27; decide) (by show _ < 27; decide) (by show _ < 27; decide) (by rw [← qbgw]; rfl) rfl rfl rfl (by rw [List.length_map]; omega) (qbn0 hp.2) ?_)
 | (with_reducible first | apply q0n | apply q0d | apply Wsq | apply Wbk | apply Wsk | apply Wex | apply Wrt | apply q0o | apply q0p | apply q0e | apply q0f | refine q0b rfl ?_ | apply q0q | apply q0r | apply And.intro)
 | (refine Wat 5 rfl ?_; obtain ⟨kx, ux, hk1, hk2, hk3, hk4⟩ := qbtj (us := us) (j := i) (by omega); refine AWh.mk ?_; refine AW.lookP (kt := 3) (et := 140) (kk := us.map keyU) (xs := us.map fun u => .cp (qed u)) (k := .i .i64 ((qgg (us.map (·.unit))).getD i 0)) (x := .cp (qed ux)) (j := kx) hC (by show mapT Tryz.prog 97 = some (3, 140); kernel_rfl) (by show qc3 Tryz.prog 140 = some [.np]; kernel_rfl) rfl rfl rfl rfl rfl rfl rfl rfl rfl (by show _ < 27; decide) (by show _ < 27; decide) (by show _ < 27; decide) (by decide) rfl rfl (by simp) rfl rfl (isK3 _) (isKU us) (by rw [q007]; assumption) (by assumption) ?_)
 | (with_reducible first | (refine Whr hC ?_; intro K hK) | (refine Whd hC (by kernel_rfl) ?_; intro K hK))
 | (with_reducible refine Wrn hC ?_; intro K hK)
 | ((with_reducible first | refine q0u ?_ | refine q0m ?_); (first | (simp (maxSteps := 1000000) only [go_sem, ↓reduceIte, reduceCtorEq, Nat.reduceEqDiff, Nat.reduceLT, Nat.reduceLeDiff, Nat.reduceMul, Nat.reduceAdd, Nat.reduceSub, reduceDIte, Nat.reduceBEq, Nat.reduceBNe, hk4]) | (refine siQ ?_)); (try simp (disch := omega) only [w64, wu8]))
 | ((first | refine Wcd rfl (fun h => ?_) fun h => ?_ | refine Wcu rfl (fun h => ?_) ?_ | refine Wcn rfl ?_ fun h => ?_) <;> (try replace h := q0a h) <;> try (exfalso; first | omega | exact absurd h (by decide)))
 | (refine Wlp 3 rfl (ι := Nat) (fun i => mkS [(0, V.d (.mp (us.map keyU) (us.map fun u => .cp (qed u)))), (3, V.row 48 1 0 (opn us ((qgg (us.map (·.unit))).take i)).length), (8, V.d (.sl 1 ((qgg (us.map (·.unit))).map (D.i .i64)))), (9, V.d (.i .i64 (us.length : Int))), (10, V.d (.i .i64 (i : Int)))] ([(48, .live (.row 3 1 false ((opn us ((qgg (us.map (·.unit))).take i)).map (D.i .i64))))])) (fun i => i ≤ us.length) (fun i => us.length - i) (0) ?_ ?_ (fun i hi => ?_) <;> (try dsimp only) <;> (try dsimp only at hi))
 | (refine Wnx 3 (i + 1) ?_ ?_ ?_ <;> (try dsimp only))
 | (refine q0j ?_; refine subQ ?_)
 | (subst hK)
 | exact trivial
 all_goals try (intros; assumption)
 all_goals try refine q0w ?_
 all_goals try replace hp := q0a hp
 all_goals try replace hi := q0a hi
 all_goals try (intros; first | trivial | omega)
 all_goals (try (rw [w64 (by omega) (by omega)]; first | done | omega))
 all_goals clear hC
 all_goals (try have OL : (opn us ((qgg (us.map (·.unit))).take i)).length ≤ 1000 := Nat.le_trans (qbny us _) (by rw [List.length_take]; omega))
 all_goals first
 | omega
 | (intro d hd; subst hd; exact ⟨rfl, by simp [D.cells, D.one]⟩)
 | (rw [List.take_of_length_le (by omega)]; exact q0k _)
 | (rw [q53 (by omega) (by rw [hk4]; assumption), List.length_append]; rfl)
 | (rw [q53 (by omega) (by rw [hk4]; assumption), List.map_append]; exact q0k _)
 | (rw [qbti (by omega) (by rw [hk4]; assumption)]; first | done | exact q0k _)
end
def cfg69 : Cfg := ⟨Tryz.prog, 17, q9l, mvz, [], (fun _ => none)⟩
theorem qbp4 : cfg69.pins = [] ∧ cfg69.P = Tryz.prog ∧ cfg69.N = 17 ∧ cfg69.ti 49 = none ∧ cfg69.T 49 = e49 ∧ cfg69.mv 49 = (fun _ => []) := by and_intros <;> exact rfl
section
attribute [local go_sem] qbp4 e49
attribute [local go_sem] qbi qbl qck qdc qce qdr qd3 qet qdq qd4 qee qb9 decI nc0 qbj qbo q01 qb7 qdh qd5 qb1 qb8 qem qfe q06 qbz qcx qdl qcb qcm qd6 qen qbt qdm qeo qff qb3 qbr qc1 qdj qcz qeq qdk qc0 qer qdi qcy qep qdd List.drop_zero q0c q0y qdn qd7 q0s q0x q05 qba qcv qcw List.length_set Nat.le_refl qc5 qcl q0h q0v qbk qby qft qgt qii qj1 qij qik qj5 qim qin qd0
theorem qb1c (hC : COk cfg69) (l : List Entry) (hp : l.length ≤ 1000000) : Sem Tryz.prog 69 [.d (.sl 8 (l.map q0h))] (.d (.sl 1 ((qbw l).map (D.i .i64)))) := by
 refine q0g (C := cfg69) (rs := [.tmp 2]) (fun _ => []) Tryz.func69 rfl rfl rfl rfl rfl rfl ?_
 refine inQ ?_
 repeat' first
 | (with_reducible first | apply q0n | apply q0d | apply Wsq | apply Wbk | apply Wsk | apply Wex | apply Wrt | apply q0o | apply q0p | apply q0e | apply q0f | refine q0b rfl ?_ | apply q0q | apply q0r | apply And.intro)
 | (with_reducible refine Wrn hC ?_; intro K hK)
 | ((with_reducible first | refine q0u ?_ | refine q0m ?_); refine siQ ?_; (try simp (disch := omega) only [w64, wu8]))
 | ((first | refine Wcd rfl (fun h => ?_) fun h => ?_ | refine Wcu rfl (fun h => ?_) ?_ | refine Wcn rfl ?_ fun h => ?_) <;> (try replace h := q0a h) <;> try (exfalso; first | omega | exact absurd h (by decide)))
 | (refine Wlp 3 rfl (ι := Nat) (fun i => mkS [(0, V.d (.sl 8 (l.map q0h))), (3, V.row 48 1 0 (qf1 l i).length), (4, V.d (.i .i64 ((i : Int) + 1)))] ([(48, .live (.row 3 1 false ((qf1 l i).map (D.i .i64))))])) (fun i => i ≤ 999) (fun i => 999 - i) (0) ?_ ?_ (fun i hi => ?_) <;> (try dsimp only) <;> (try dsimp only at hi))
 | (refine Wnx 3 (i + 1) ?_ ?_ ?_ <;> (try dsimp only))
 | (refine q0j ?_; refine subQ ?_)
 | (subst hK)
 | exact trivial
 all_goals try (intros; assumption)
 all_goals try refine q0w ?_
 all_goals try replace hp := q0a hp
 all_goals try replace hi := q0a hi
 all_goals try (intros; first | trivial | omega)
 all_goals (try (rw [w64 (by omega) (by omega)]; first | done | omega))
 all_goals clear hC
 all_goals (try have OL := qrd l i)
 all_goals first
 | omega
 | (intro d hd; subst hd; exact ⟨rfl, by simp [D.cells, D.one]⟩)
 | (rw [qrc (by assumption), List.length_append]; rfl)
 | (rw [qrc (by assumption), List.map_append]; exact q0k _)
 | (rw [qzh (by assumption)]; first | done | exact q0k _)
 | (rw [← qrb, show (999 : Nat) = i by omega]; exact q0k _)
end
def cfg39 : Cfg := ⟨Tryz.prog, 37, q9m, mvz, [], (fun _ => none)⟩
theorem qbp5 : cfg39.pins = [] ∧ cfg39.P = Tryz.prog ∧ cfg39.N = 37 ∧ cfg39.T 45 = e45 ∧ cfg39.mv 45 = (fun _ => []) ∧ cfg39.T 46 = e46 ∧ cfg39.mv 46 = (fun _ => []) ∧ cfg39.T 47 = e47z ∧ cfg39.mv 47 = (fun _ => []) ∧ cfg39.T 65 = e65 ∧ cfg39.mv 65 = (fun _ => []) ∧ cfg39.T 66 = e66 ∧ cfg39.mv 66 = (fun _ => []) ∧ cfg39.ti = (fun _ => none) := by and_intros <;> exact rfl
section
attribute [local go_sem] qbp5 e45 e46 e47z e65 e66
attribute [local go_sem] qbi qbl qck qdc qce qdr qd3 qet qdq qd4 qee qb9 decI nc0 qbj qbo q01 qb7 qdh qd5 qb1 qb8 qem qfe q06 qbz qcx qdl qcb qcm qd6 qen qbt qdm qeo qff qb3 qbr qc1 qdj qcz qeq qdk qc0 qer qdi qcy qep qdd List.drop_zero q0c q0y qdn qd7 q0s q0x q05 qba qcv qcw List.length_set Nat.le_refl qc5 qcl q0h q0v qbk qby qft qgt qii qj1 qij qik qj5 qim qin qd0 qj6 dWZ1 dWZ2 dWZ3 dWZ4 dWZ5 dUs
theorem qb1d (hC : COk cfg39) (ts : List Table) (l : List Entry) (hp : okTs ts ∧ l.length ≤ 1000000) : Sem Tryz.prog 39 [.d (.sl 6 (ts.map q0c)), .d (.sl 8 (l.map q0h))] (.tup [.d (.sl 6 ((qd8 ts l).1.map q0c)), .d (.sl 1 ((qd8 ts l).2.1.map (D.i .i64))), .d (.i .i64 (qd8 ts l).2.2)]) := by
 refine q0g (C := cfg39) (rs := [.tmp 4, .tmp 5, .tmp 6]) (fun _ => []) Tryz.func39 rfl rfl rfl rfl rfl rfl ?_
 refine inQ ?_
 repeat' first
 | (with_reducible first | apply q0n | apply q0d | apply Wsq | apply Wbk | apply Wsk | apply Wex | apply Wrt | apply q0o | apply q0p | apply q0e | apply q0f | refine q0b rfl ?_ | apply q0q | apply q0r | apply And.intro)
 | (refine Wat 4 rfl ?_; have hop := q3t (ts := ts) (l := l) (by assumption))
 | (with_reducible first | (refine Whr hC ?_; intro K hK) | (refine Whd hC (by kernel_rfl) ?_; intro K hK))
 | (with_reducible first | (refine Wrn hC ?_; intro K hK) | (refine Wdr hC (by kernel_rfl) ?_; intro K hK))
 | ((with_reducible first | refine q0u ?_ | refine qbu ?_ | refine q0m ?_); (first | (simp (maxSteps := 1000000) only [go_sem, ↓reduceIte, reduceCtorEq, Nat.reduceEqDiff, Nat.reduceLT, Nat.reduceLeDiff, Nat.reduceMul, Nat.reduceAdd, Nat.reduceSub, reduceDIte, Nat.reduceBEq, Nat.reduceBNe, hop]) | (refine siQ ?_)); (try simp (disch := omega) only [w64, wu8]))
 | (with_reducible refine qbh (by kernel_rfl) ?_)
 | ((first | refine Wcd rfl (fun h => ?_) fun h => ?_ | refine Wcu rfl (fun h => ?_) ?_ | refine Wcn rfl ?_ fun h => ?_) <;> (try replace h := q0a h) <;> try (exfalso; first | omega | exact absurd h (by decide)))
 | (refine q0j ?_; refine subQ ?_)
 | (subst hK)
 | exact trivial
 all_goals try (intros; assumption)
 all_goals try refine q0w ?_
 all_goals try replace hp := q0a hp
 all_goals try (intros; first | trivial | omega)
 all_goals (try (rw [w64 (by omega) (by omega)]; first | done | omega))
 all_goals clear hC
 all_goals (try have UB := qsu l)
 all_goals (try have CP := q3m (WantZ.out (qbw l)).has false l)
 all_goals (try simp only [q3t (ts := ts) (l := l) (by assumption)] at *)
 all_goals first
 | omega
 | exact hp.1
 | exact hp.2
 | exact ⟨hp.2, by show (qbw l).length ≤ 1000000; omega⟩
 | (show (qbw l).length ≤ 1000000; omega)
 | exact (qwy (by assumption)).1
 | exact (qwy (by assumption)).2
 | exact ⟨hp.1, by omega⟩
 | (rw [q3s (by assumption)]; first | done | rfl)
 | (rw [qwx (by assumption) (by assumption)]; first | done | rfl)
 | (rw [qz4 (by assumption) (by assumption)]; first | done | rfl | exact q0k _)
end
def cfg43 : Cfg := ⟨Tryz.prog, 58, q9n, mvz, [], (fun _ => none)⟩
theorem qbp6 : cfg43.pins = [] ∧ cfg43.P = Tryz.prog ∧ cfg43.N = 58 ∧ cfg43.T 37 = e37 ∧ cfg43.mv 37 = (fun _ => []) ∧ cfg43.T 49 = e49 ∧ cfg43.mv 49 = (fun _ => []) ∧ cfg43.T 68 = e68 ∧ cfg43.mv 68 = (fun _ => []) ∧ cfg43.T 69 = e69 ∧ cfg43.mv 69 = (fun _ => []) ∧ cfg43.ti = (fun _ => none) := by and_intros <;> exact rfl
section
attribute [local go_sem] qbp6 e37 e49 e68 e69
attribute [local go_sem] qbi qbl qck qdc qce qdr qd3 qet qdq qd4 qee qb9 decI nc0 qbj qbo q01 qb7 qdh qd5 qb1 qb8 qem qfe q06 qbz qcx qdl qcb qcm qd6 qen qbt qdm qeo qff qb3 qbr qc1 qdj qcz qeq qdk qc0 qer qdi qcy qep qdd List.drop_zero q0c q0y qdn qd7 q0s q0x q05 qba qcv qcw List.length_set Nat.le_refl qc5 qcl q0h q0v qbk qby qft qgt qii qj1 qij qik qj5 qim qin qd0 qpe
theorem qb1e (hC : COk cfg43) (ts : List Table) (l : List Entry) (hp : okTs ts ∧ l.length ≤ 1000000) : Sem Tryz.prog 43 [.d (.sl 6 (ts.map q0c)), .d (.sl 8 (l.map q0h))] (.d (qft (ansW (qd8 ts l)))) := by
 refine q0g (C := cfg43) (rs := [.cell 4 88]) (fun _ => []) Tryz.func43 rfl rfl rfl rfl rfl rfl ?_
 refine inQ ?_
 repeat' first
 | (with_reducible first | apply q0n | apply q0d | apply Wsq | apply Wbk | apply Wsk | apply Wex | apply Wrt | apply q0o | apply q0p | apply q0e | apply q0f | refine q0b rfl ?_ | apply q0q | apply q0r | apply And.intro)
 | (with_reducible first | (refine Wrn hC ?_; intro K hK) | (refine Wdr hC (by kernel_rfl) ?_; intro K hK))
 | ((with_reducible first | refine q0u ?_ | refine qbu ?_ | refine q0m ?_); refine siQ ?_; (try simp (disch := omega) only [w64, wu8]))
 | (with_reducible refine qbh (by kernel_rfl) ?_)
 | ((first | refine Wcd rfl (fun h => ?_) fun h => ?_ | refine Wcu rfl (fun h => ?_) ?_ | refine Wcn rfl ?_ fun h => ?_) <;> (try replace h := q0a h) <;> try (exfalso; first | omega | exact absurd h (by decide)))
 | (refine Wlp 6 rfl (ι := Nat) (fun i => mkS [(0, V.d (.sl 6 (ts.map q0c))), (1, V.d (.sl 8 (l.map q0h))), (4, V.ptr 64 0), (6, V.row 96 5 0 (qgf (wP l) false (l.take i)).length), (7, V.d (.i .i64 (i : Int)))] ([(64, .live (.box 88 [.d .nil, .d (.i .i64 0), .d .nil, .d (.i .i64 0)])), (96, .live (.row 50 5 false ((qgf (wP l) false (l.take i)).map q0s)))])) (fun i => i ≤ l.length ∧ chkE ts l = 0) (fun i => l.length - i) (0) ?_ ?_ (fun i hi => ?_) <;> (try dsimp only) <;> (try dsimp only at hi))
 | (refine Wnx 6 (i + 1) ?_ ?_ ?_ <;> (try dsimp only))
 | (refine q0j ?_; refine subQ ?_)
 | (subst hK)
 | exact trivial
 all_goals try (intros; assumption)
 all_goals try refine q0w ?_
 all_goals try replace hp := q0a hp
 all_goals try replace hi := q0a hi
 all_goals try (intros; first | trivial | omega)
 all_goals (try (rw [w64 (by omega) (by omega)]; first | done | omega))
 all_goals clear hC
 all_goals (try simp only [qjz] at *)
 all_goals (try have CL := qpf (p := wP l) (back := false) (l := l) (i := i))
 all_goals first
 | omega
 | exact hp.1
 | exact hp.2
 | exact q0k _
 | (rw [qbtk (by assumption)]; first | done | rfl)
 | (intro d hd; subst hd; exact ⟨rfl, by simp [D.cells, D.one]⟩)
 | (rw [qpg (by omega) h.1 (by unfold wP; rw [h.2]; rfl), List.length_append]; rfl)
 | (rw [qpg (by omega) h.1 (by unfold wP; rw [h.2]; rfl), List.map_append]; exact q0k _)
 | (rw [qq8 (by omega) (h.imp id (fun q => by unfold wP; rw [q]; rfl))]; first | done | exact q0k _)
 | (rw [qq9 (by omega)] at *
    rw [qbtl (by assumption) (by assumption)]; first | done | rfl | exact q0k _)
 | (rw [qq9 (by omega)] at *
    rw [qbzk (by assumption) (by assumption)]; first | done | rfl | exact q0k _)
end
def cfg26 : Cfg := ⟨Tryz.prog, 26, q9o, mvz, [], (fun _ => none)⟩
theorem qbp7 : cfg26.pins = [] ∧ cfg26.P = Tryz.prog ∧ cfg26.N = 26 := ⟨rfl, rfl, rfl⟩
section
attribute [local go_sem] qbp7
attribute [local go_sem] q0s q0h qcu qdg q05 qbk qba qby q0x q0v qcr qbp qbe qch qdw
theorem qb1f (hC : COk cfg26) (a : List Entry) (b : List Entry) (hp : a.length ≤ 1000000) : Sem Tryz.prog 26 [.d (.sl 8 (a.map q0h)), .d (.sl 8 (b.map q0h))] (.d (.b (decide (a = b)))) := by
 refine q0g (C := cfg26) (rs := [.tmp 4]) (fun _ => []) Tryz.func26 rfl rfl rfl rfl rfl rfl ?_
 refine inQ ?_
 repeat' first
 | (with_reducible first | apply q0n | apply q0d | apply Wsq | apply Wbk | apply Wsk | apply Wex | apply Wrt | apply q0o | apply q0p | apply q0e | apply q0f | refine q0b rfl ?_ | apply q0q | apply q0r | apply And.intro)
 | (with_reducible first | (refine Wrn hC ?_; intro K hK) | (refine Wdr hC (by kernel_rfl) ?_; intro K hK))
 | ((with_reducible first | refine q0u ?_ | refine qbu ?_ | refine q0m ?_); refine siQ ?_; (try simp (disch := omega) only [w64, wu8]))
 | (with_reducible refine qbh (by kernel_rfl) ?_)
 | ((first | refine Wcd rfl (fun h => ?_) fun h => ?_ | refine Wcu rfl (fun h => ?_) ?_ | refine Wcn rfl ?_ fun h => ?_) <;> (try replace h := q0a h) <;> try (exfalso; first | omega | exact absurd h (by decide)))
 | (refine Wlp 4 rfl (ι := Nat) (fun i => mkS [(0, V.d (.sl 8 (a.map q0h))), (1, V.d (.sl 8 (b.map q0h))), (12, V.d (.i .i64 (a.length : Int))), (13, V.d (.i .i64 (i : Int)))] ([])) (fun i => i ≤ a.length ∧ a.length = b.length ∧ a.take i = b.take i) (fun i => a.length - i) (0) ?_ ?_ (fun i hi => ?_) <;> (try dsimp only) <;> (try dsimp only at hi))
 | (refine Wnx 4 (i + 1) ?_ ?_ ?_ <;> (try dsimp only))
 | (refine q0j ?_; refine subQ ?_)
 | (subst hK)
 | exact trivial
 all_goals try (intros; assumption)
 all_goals try refine q0w ?_
 all_goals try replace hp := q0a hp
 all_goals try replace hi := q0a hi
 all_goals try (intros; first | trivial | omega)
 all_goals (try (rw [w64 (by omega) (by omega)]; first | done | omega))
 all_goals first
 | rfl
 | (intro e; subst e; exact h rfl)
 | exact qda hi.2.2 (by omega) (by omega)
 | exact qih hi.2.2 (by omega) (by omega) (by assumption)
 | (simp only [decide_eq_true_eq]; exact qda hi.2.2 (by omega) (by omega))
end
def cfg35 : Cfg := ⟨Tryz.prog, 18, q9q, mvz, [], (fun _ => none)⟩
theorem qbp8 : cfg35.pins = [] ∧ cfg35.P = Tryz.prog ∧ cfg35.N = 18 ∧ cfg35.ti 18 = none ∧ cfg35.T 18 = e18 ∧ cfg35.mv 18 = (fun _ => []) := by and_intros <;> exact rfl
section
attribute [local go_sem] qbp8 e18
attribute [local go_sem] q0s q0h qcu qdg q05 qbk qba qby q0x q0v qcr qbp qbe qch qdw
theorem qb1g (hC : COk cfg35) (l : List Entry) (first : List Entry) (hp : l.length ≤ 1000000) : Sem Tryz.prog 35 [.d (.sl 8 (l.map q0h)), .d (.sl 8 (first.map q0h))] (.d (.b (qeb l first))) := by
 refine q0g (C := cfg35) (rs := [.tmp 4]) (fun _ => []) Tryz.func35 rfl rfl rfl rfl rfl rfl ?_
 refine inQ ?_
 repeat' first
 | (with_reducible first | apply q0n | apply q0d | apply Wsq | apply Wbk | apply Wsk | apply Wex | apply Wrt | apply q0o | apply q0p | apply q0e | apply q0f | refine q0b rfl ?_ | apply q0q | apply q0r | apply And.intro)
 | (with_reducible refine Wrn hC ?_; intro K hK)
 | ((with_reducible first | refine q0u ?_ | refine q0m ?_); refine siQ ?_; (try simp (disch := omega) only [w64, wu8]))
 | ((first | refine Wcd rfl (fun h => ?_) fun h => ?_ | refine Wcu rfl (fun h => ?_) ?_ | refine Wcn rfl ?_ fun h => ?_) <;> (try replace h := q0a h) <;> try (exfalso; first | omega | exact absurd h (by decide)))
 | (refine q0j ?_; refine subQ ?_)
 | (subst hK)
 | exact trivial
 all_goals try (intros; assumption)
 all_goals try refine q0w ?_
 all_goals try replace hp := q0a hp
 all_goals try (intros; first | trivial | omega)
 all_goals (try (rw [w64 (by omega) (by omega)]; first | done | omega))
 all_goals simp only [qeb, Int.ofNat_le]
end
def cfg32 : Cfg := ⟨Tryz.prog, 99, q9r, mvz, [], (fun _ => none)⟩
theorem qbp9 : cfg32.pins = [] ∧ cfg32.P = Tryz.prog ∧ cfg32.N = 99 ∧ cfg32.T 34 = e34 ∧ cfg32.mv 34 = (fun _ => []) ∧ cfg32.T 35 = e35 ∧ cfg32.mv 35 = (fun _ => []) ∧ cfg32.T 57 = e57 ∧ cfg32.mv 57 = (fun _ => []) ∧ cfg32.ti = (fun _ => none) := by and_intros <;> exact rfl
section
attribute [local go_sem] qbp9 e34 e35 e57
attribute [local go_sem] q0s q0h qcu qdg q05 qbk qba qby q0x q0v qcr qbb qcg qbf qdy qeg qe9 qfq qf3 qfn qf2 qfo qg0 qh1 qg1 qei qe7 qfp qg2 qch qbp qbe qdw
theorem qb1h (hC : COk cfg32) (x : Remote) (hp : x.source.length ≤ 1000000 ∧ x.target.length ≤ 1000000 ∧ x.wire.length ≤ 1000000) : Sem Tryz.prog 32 [.d (qbb x)] (.d (.i .i64 (qbq x))) := by
 refine q0g (C := cfg32) (rs := [.tmp 2]) (fun _ => []) Tryz.func32 rfl rfl rfl rfl rfl rfl ?_
 refine inQ ?_
 repeat' first
 | (with_reducible first | apply q0n | apply q0d | apply Wsq | apply Wbk | apply Wsk | apply Wex | apply Wrt | apply q0o | apply q0p | apply q0e | apply q0f | refine q0b rfl ?_ | apply q0q | apply q0r | apply And.intro)
 | (with_reducible refine Wrn hC ?_; intro K hK)
 | ((with_reducible first | refine q0u ?_ | refine q0m ?_); refine siQ ?_; (try simp (disch := omega) only [w64, wu8]))
 | ((first | refine Wcd rfl (fun h => ?_) fun h => ?_ | refine Wcu rfl (fun h => ?_) ?_ | refine Wcn rfl ?_ fun h => ?_) <;> (try replace h := q0a h) <;> try (exfalso; first | omega | exact absurd h (by decide)))
 | (refine Wlp 15 rfl (ι := Nat) (fun i => mkS [(1, V.ptr 16 0), (4, V.d (.i .i64 (i : Int)))] ([(16, .live (.box 25 [.d (.b x.sync), .d (.sl 8 (x.source.map q0h)), .d (.sl 8 (x.target.map q0h)), .d (.i .i64 x.sent), .d (.i .i64 x.acked), .d (.sl 2 (x.wire.map qbf))]))])) (fun i => i ≤ x.wire.length ∧ qia x.source.length x.target.length (x.wire.drop i) = qbq x) (fun i => x.wire.length - i) (0) ?_ ?_ (fun i hi => ?_) <;> (try dsimp only) <;> (try dsimp only at hi))
 | (refine Wnx 15 (i + 1) ?_ ?_ ?_ <;> (try dsimp only))
 | (refine q0j ?_; refine subQ ?_)
 | (subst hK)
 | exact trivial
 all_goals try (intros; assumption)
 all_goals try refine q0w ?_
 all_goals try replace hp := q0a hp
 all_goals try replace hi := q0a hi
 all_goals try (intros; first | trivial | omega)
 all_goals (try (rw [w64 (by omega) (by omega)]; first | done | omega))
 all_goals first
 | (rw [← hi.2, qd2 qe0 (by omega), qia]; grind)
 | (have := hi.2; rw [qd2 qe0 (by omega), qia] at this; grind)
 | (rw [← hi.2, List.drop_of_length_le (by omega)]; rfl)
 | grind [qbq]
 | grind [qbq, qeb]
end
def cfg24 : Cfg := ⟨Tryz.prog, 118, q9s, mvz, [], (fun _ => none)⟩
theorem qbqa : cfg24.pins = [] ∧ cfg24.P = Tryz.prog ∧ cfg24.N = 118 ∧ cfg24.T 25 = e25 ∧ cfg24.mv 25 = (fun _ => []) ∧ cfg24.T 26 = e26 ∧ cfg24.mv 26 = (fun _ => []) ∧ cfg24.ti = (fun _ => none) := by and_intros <;> exact rfl
section
attribute [local go_sem] qbqa e25 e26
attribute [local go_sem] q0s q0h qcu qdg q05 qbk qba qby q0x q0v qcr qbb qcg qbf qdy qeg qe9 qfq qf3 qfn qf2 qfo qg0 qh1 qg1 qei qe7 qfp qg2 qch qbp qbe qdw
theorem qb1i (hC : COk cfg24) (x : Remote) (hp : x.source.length ≤ 1000000 ∧ x.target.length ≤ 1000000 ∧ x.wire.length ≤ 1000000) : Sem Tryz.prog 24 [.d (qbb x)] (.d (.i .i64 (qbq x))) := by
 refine q0g (C := cfg24) (rs := [.tmp 2]) (fun _ => []) Tryz.func24 rfl rfl rfl rfl rfl rfl ?_
 refine inQ ?_
 repeat' first
 | (with_reducible first | apply q0n | apply q0d | apply Wsq | apply Wbk | apply Wsk | apply Wex | apply Wrt | apply q0o | apply q0p | apply q0e | apply q0f | refine q0b rfl ?_ | apply q0q | apply q0r | apply And.intro)
 | (with_reducible first | (refine Wrn hC ?_; intro K hK) | (refine Wdr hC (by kernel_rfl) ?_; intro K hK))
 | ((with_reducible first | refine q0u ?_ | refine qbu ?_ | refine q0m ?_); refine siQ ?_; (try simp (disch := omega) only [w64, wu8]))
 | (with_reducible refine qbh (by kernel_rfl) ?_)
 | ((first | refine Wcd rfl (fun h => ?_) fun h => ?_ | refine Wcu rfl (fun h => ?_) ?_ | refine Wcn rfl ?_ fun h => ?_) <;> (try replace h := q0a h) <;> try (exfalso; first | omega | exact absurd h (by decide)))
 | (refine Wlp 15 rfl (ι := Nat) (fun i => mkS [(1, V.ptr 16 0), (83, V.d (.sl 2 (x.wire.map qbf))), (84, V.d (.i .i64 (x.wire.length : Int))), (85, V.d (.i .i64 (i : Int)))] ([(16, .live (.box 25 [.d (.b x.sync), .d (.sl 8 (x.source.map q0h)), .d (.sl 8 (x.target.map q0h)), .d (.i .i64 x.sent), .d (.i .i64 x.acked), .d (.sl 2 (x.wire.map qbf))]))])) (fun i => i ≤ x.wire.length ∧ qia x.source.length x.target.length (x.wire.drop i) = qbq x) (fun i => x.wire.length - i) (0) ?_ ?_ (fun i hi => ?_) <;> (try dsimp only) <;> (try dsimp only at hi))
 | (refine Wnx 15 (i + 1) ?_ ?_ ?_ <;> (try dsimp only))
 | (refine q0j ?_; refine subQ ?_)
 | (subst hK)
 | exact trivial
 all_goals try (intros; assumption)
 all_goals try refine q0w ?_
 all_goals try replace hp := q0a hp
 all_goals try replace hi := q0a hi
 all_goals try (intros; first | trivial | omega)
 all_goals (try (rw [w64 (by omega) (by omega)]; first | done | omega))
 all_goals first
 | (rw [← hi.2, qd2 qe0 (by omega), qia]; grind)
 | (have := hi.2; rw [qd2 qe0 (by omega), qia] at this; grind)
 | (rw [← hi.2, List.drop_of_length_le (by omega)]; rfl)
 | grind [qbq]
 | grind [qbq, qeb]
end
def cfg40 : Cfg := ⟨Tryz.prog, 8, q9t, mvz, [], (fun _ => none)⟩
theorem qbqb : cfg40.pins = [] ∧ cfg40.P = Tryz.prog ∧ cfg40.N = 8 := ⟨rfl, rfl, rfl⟩
section
attribute [local go_sem] qbqb
attribute [local go_sem] qbp qbe qch qdw
theorem qb1j (hC : COk cfg40) (l : List Entry) (hp : l.length ≤ 1000000) : Sem Tryz.prog 40 [.d (.sl 8 (l.map q0h))] (.own 52 8 (l.map q0h)) := by
 refine q0g (C := cfg40) (rs := [.tmp 2]) (fun _ => [(0, 52, 8)]) Tryz.func40 rfl rfl rfl rfl rfl rfl ?_
 refine inQ ?_
 repeat' first
 | (with_reducible first | apply q0n | apply q0d | apply Wsq | apply Wbk | apply Wsk | apply Wex | apply Wrt | apply q0o | apply q0p | apply q0e | apply q0f | refine q0b rfl ?_ | apply q0q | apply q0r | apply And.intro)
 | (with_reducible refine Wrn hC ?_; intro K hK)
 | ((with_reducible first | refine q0u ?_ | refine q0m ?_); refine siQ ?_; (try simp (disch := omega) only [w64, wu8]))
 | ((first | refine Wcd rfl (fun h => ?_) fun h => ?_ | refine Wcu rfl (fun h => ?_) ?_ | refine Wcn rfl ?_ fun h => ?_) <;> (try replace h := q0a h) <;> try (exfalso; first | omega | exact absurd h (by decide)))
 | (refine q0j ?_; refine subQ ?_)
 | (subst hK)
 | exact trivial
 all_goals try (intros; assumption)
 all_goals try refine q0w ?_
 all_goals try replace hp := q0a hp
 all_goals try (intros; first | trivial | omega)
 all_goals (try (rw [w64 (by omega) (by omega)]; first | done | omega))
 all_goals first | omega | (simp_all [dles]; done)
end
def cfg78 : Cfg := ⟨Tryz.prog, 8, q9u, mvz, [], (fun _ => none)⟩
theorem qbqc : cfg78.pins = [] ∧ cfg78.P = Tryz.prog ∧ cfg78.N = 8 := ⟨rfl, rfl, rfl⟩
section
attribute [local go_sem] qbqc
attribute [local go_sem] qbp qbe qch qdw
theorem qb1k (hC : COk cfg78) (l : List Packet) (hp : l.length ≤ 1000000) : Sem Tryz.prog 78 [.d (.sl 2 (l.map qbf))] (.own 59 2 (l.map qbf)) := by
 refine q0g (C := cfg78) (rs := [.tmp 2]) (fun _ => [(0, 59, 2)]) Tryz.func78 rfl rfl rfl rfl rfl rfl ?_
 refine inQ ?_
 repeat' first
 | (with_reducible first | apply q0n | apply q0d | apply Wsq | apply Wbk | apply Wsk | apply Wex | apply Wrt | apply q0o | apply q0p | apply q0e | apply q0f | refine q0b rfl ?_ | apply q0q | apply q0r | apply And.intro)
 | (with_reducible refine Wrn hC ?_; intro K hK)
 | ((with_reducible first | refine q0u ?_ | refine q0m ?_); refine siQ ?_; (try simp (disch := omega) only [w64, wu8]))
 | ((first | refine Wcd rfl (fun h => ?_) fun h => ?_ | refine Wcu rfl (fun h => ?_) ?_ | refine Wcn rfl ?_ fun h => ?_) <;> (try replace h := q0a h) <;> try (exfalso; first | omega | exact absurd h (by decide)))
 | (refine q0j ?_; refine subQ ?_)
 | (subst hK)
 | exact trivial
 all_goals try (intros; assumption)
 all_goals try refine q0w ?_
 all_goals try replace hp := q0a hp
 all_goals try (intros; first | trivial | omega)
 all_goals (try (rw [w64 (by omega) (by omega)]; first | done | omega))
 all_goals first | omega | (simp_all [dles]; done)
end
def cfg50 : Cfg := ⟨Tryz.prog, 16, q9v, mvz, [], (fun _ => none)⟩
theorem qbqd : cfg50.pins = [] ∧ cfg50.P = Tryz.prog ∧ cfg50.N = 16 ∧ cfg50.T 40 = e40 ∧ cfg50.mv 40 = (fun _ => []) ∧ cfg50.T 78 = e78 ∧ cfg50.mv 78 = (fun _ => []) ∧ cfg50.ti = (fun _ => none) := by and_intros <;> exact rfl
section
attribute [local go_sem] qbqd e40 e78
attribute [local go_sem] q0s q0h qcu qdg q05 qbk qba qby q0x q0v qcr qbb qcg qbf qdy qeg qe9 qfq qf3 qfn qf2 qfo qg0 qh1 qg1 qei qe7 qfp qg2 qch qbp qbe qdw
theorem qb1l (hC : COk cfg50) (x : Remote) (hp : x.source.length ≤ 1000000 ∧ x.target.length ≤ 1000000 ∧ x.wire.length ≤ 1000000) : Sem Tryz.prog 50 [.d (qbb x)] (.agg [.d (.b x.sync), .own 52 8 (x.source.map q0h), .own 52 8 (x.target.map q0h), .d (.i .i64 x.sent), .d (.i .i64 x.acked), .own 59 2 (x.wire.map qbf)]) := by
 refine q0g (C := cfg50) (rs := [.cell 2 25]) (fun _ => [(1, 52, 8), (2, 52, 8), (5, 59, 2)]) Tryz.func50 rfl rfl rfl rfl rfl rfl ?_
 refine inQ ?_
 repeat' first
 | (with_reducible first | apply q0n | apply q0d | apply Wsq | apply Wbk | apply Wsk | apply Wex | apply Wrt | apply q0o | apply q0p | apply q0e | apply q0f | refine q0b rfl ?_ | apply q0q | apply q0r | apply And.intro)
 | (with_reducible first | (refine Wrn hC ?_; intro K hK) | (refine Wdr hC (by kernel_rfl) ?_; intro K hK))
 | ((with_reducible first | refine q0u ?_ | refine qbu ?_ | refine q0m ?_); refine siQ ?_; (try simp (disch := omega) only [w64, wu8]))
 | (with_reducible refine qbh (by kernel_rfl) ?_)
 | ((first | refine Wcd rfl (fun h => ?_) fun h => ?_ | refine Wcu rfl (fun h => ?_) ?_ | refine Wcn rfl ?_ fun h => ?_) <;> (try replace h := q0a h) <;> try (exfalso; first | omega | exact absurd h (by decide)))
 | (refine q0j ?_; refine subQ ?_)
 | (subst hK)
 | exact trivial
 all_goals try (intros; assumption)
 all_goals try refine q0w ?_
 all_goals try replace hp := q0a hp
 all_goals try (intros; first | trivial | omega)
 all_goals (try (rw [w64 (by omega) (by omega)]; first | done | omega))
 all_goals first | omega | (simp_all [dles]; done)
end
def cfg11 : Cfg := ⟨Tryz.prog, 16, q9w, mvz, [], (fun _ => none)⟩
theorem qbqe : cfg11.pins = [] ∧ cfg11.P = Tryz.prog ∧ cfg11.N = 16 ∧ cfg11.ti 13 = none ∧ cfg11.T 13 = e13 ∧ cfg11.mv 13 = (fun _ => []) := by and_intros <;> exact rfl
section
attribute [local go_sem] qbqe e13
attribute [local go_sem] q0s q0h qcu qdg q05 qbk qba qby q0x q0v qcr qbb qcg qbf qdy qeg qe9 qfq qf3 qfn qf2 qfo qg0 qh1 qg1 qei qe7 qfp qg2 qch qbp qbe qdw
theorem qb1m (hC : COk cfg11) (x : Remote) (hp : x.source.length ≤ 1000000 ∧ x.target.length ≤ 1000000 ∧ x.wire.length ≤ 1000000) : Sem Tryz.prog 11 [.d (qbb x)] (.agg [.d (.b x.sync), .own 52 8 (x.source.map q0h), .own 52 8 (x.target.map q0h), .d (.i .i64 x.sent), .d (.i .i64 x.acked), .own 59 2 (x.wire.map qbf)]) := by
 refine q0g (C := cfg11) (rs := [.cell 2 25]) (fun _ => [(1, 52, 8), (2, 52, 8), (5, 59, 2)]) Tryz.func11 rfl rfl rfl rfl rfl rfl ?_
 refine inQ ?_
 repeat' first
 | (with_reducible first | apply q0n | apply q0d | apply Wsq | apply Wbk | apply Wsk | apply Wex | apply Wrt | apply q0o | apply q0p | apply q0e | apply q0f | refine q0b rfl ?_ | apply q0q | apply q0r | apply And.intro)
 | (with_reducible first | (refine Wrn hC ?_; intro K hK) | (refine Wdr hC (by kernel_rfl) ?_; intro K hK))
 | ((with_reducible first | refine q0u ?_ | refine qbu ?_ | refine q0m ?_); refine siQ ?_; (try simp (disch := omega) only [w64, wu8]))
 | (with_reducible refine qbh (by kernel_rfl) ?_)
 | ((first | refine Wcd rfl (fun h => ?_) fun h => ?_ | refine Wcu rfl (fun h => ?_) ?_ | refine Wcn rfl ?_ fun h => ?_) <;> (try replace h := q0a h) <;> try (exfalso; first | omega | exact absurd h (by decide)))
 | (refine q0j ?_; refine subQ ?_)
 | (subst hK)
 | exact trivial
 all_goals try (intros; assumption)
 all_goals try refine q0w ?_
 all_goals try replace hp := q0a hp
 all_goals try (intros; first | trivial | omega)
 all_goals (try (rw [w64 (by omega) (by omega)]; first | done | omega))
 all_goals first | omega | (simp_all [dles]; done)
end
def cfg7 : Cfg := ⟨Tryz.prog, 17, q9x, mvz, [], (fun _ => none)⟩
theorem qbvp : cfg7.pins = [] ∧ cfg7.P = Tryz.prog ∧ cfg7.N = 17 ∧ cfg7.ti 9 = none ∧ cfg7.T 9 = e9 ∧ cfg7.mv 9 = (fun _ => []) := by and_intros <;> exact rfl
section
attribute [local go_sem] qbvp e9
attribute [local go_sem] q0s q0h qcu qdg q05 qbk qba qby q0x q0v qcr qbb qcg qbf qdy qeg qe9 qfq qf3 qfn qf2 qfo qg0 qh1 qg1 qei qe7 qfp qg2 qch qbp qbe qdw
theorem con7 (hC : COk cfg7) (x : Remote) : Sem Tryz.prog 7 [.d (qbb x)] (.d (.b (qqp x))) := by
 refine q0g (C := cfg7) (rs := [.tmp 2]) (fun _ => []) Tryz.func7 rfl rfl rfl rfl rfl rfl ?_
 refine inQ ?_
 repeat' first
 | (with_reducible first | apply q0n | apply q0d | apply Wsq | apply Wbk | apply Wsk | apply Wex | apply Wrt | apply q0o | apply q0p | apply q0e | apply q0f | refine q0b rfl ?_ | apply q0q | apply q0r | apply And.intro)
 | (with_reducible refine Wrn hC ?_; intro K hK)
 | ((with_reducible first | refine q0u ?_ | refine q0m ?_); refine siQ ?_; (try simp (disch := omega) only [w64, wu8]))
 | ((first | refine Wcd rfl (fun h => ?_) fun h => ?_ | refine Wcu rfl (fun h => ?_) ?_ | refine Wcn rfl ?_ fun h => ?_) <;> (try replace h := q0a h) <;> try (exfalso; first | omega | exact absurd h (by decide)))
 | (refine q0j ?_; refine subQ ?_)
 | (subst hK)
 | exact trivial
 all_goals try (intros; assumption)
 all_goals try refine q0w ?_
 all_goals try (intros; first | trivial | omega)
 all_goals (try (rw [w64 (by omega) (by omega)]; first | done | omega))
 all_goals grind [qqp]
end
end
end Go.Ev
