/- Tools and contracts under the laws of this seat: Drc31o to Drc68. -/
import Derived.Test.YtblpebplbdoneaaGreatE09
set_option linter.unusedVariables false
set_option linter.unusedSimpArgs false
namespace Go.Ev
noncomputable section
open Go.Proofs Ty
set_option maxRecDepth 10000
set_option maxHeartbeats 4000000
attribute [local go_sem] qbi qbl qck qdc qce qdr qd3 qet Int.toNat_natCast qdq qd4 qee qb9 qc2 qbx qca decI List.length_map nc0 qbj qbo q01 qb7 qdh qd5 qb1 qb8 qem qfe q06 qbz qcx qdl qcb qcm qd6 qen qbt qdm qeo qff qb3 qbr qc1 qdj qcz qeq qdk qc0 qer qdi qcy qep List.length_take qdd Int.toNat_zero Nat.sub_zero List.drop_zero q0c q0y qdn qd7 q0s q0x q05 qba qcv qcw List.length_set Nat.le_refl
attribute [local go_sem ←] List.map_take List.map_drop
def cfg31o : Cfg := mkC 10 q3g
theorem qbis : cfg31o.pins = [] ∧ cfg31o.P = Tryz.prog ∧ cfg31o.N = 10 ∧ cfg31o.ti 56 = none ∧ cfg31o.T 56 = e56 ∧ cfg31o.mv 56 = (fun _ => []) := by and_intros <;> exact rfl
section
attribute [local go_sem] qbis e56
theorem qbvg (hC : COk cfg31o) (t : Table) (hp : (t.file.format.fields.length ≤ 1000000 ∧ t.file.keys.length ≤ 1000000 ∧ t.records.length ≤ 1000000)) : Sem Tryz.prog 31 [.d (q0c t)] (.agg [.d (.s t.file.name), .d (.s t.file.format.name), .d (.sl 4 (t.file.format.fields.map q01)), .d (.sl 2 (t.file.keys.map q06)), .d (.b t.file.unique), .own 71 2 (t.records.map qbt)]) := by
 refine q0g (C := cfg31o) (rs := [.cell 2 69]) (fun _ => [(5, 71, 2)]) Tryz.func31 rfl rfl rfl rfl rfl rfl ?_
 refine inQ ?_
 repeat' first
 | (with_reducible first | apply q0n | apply q0d | apply Wsq | apply Wbk | apply Wsk | apply Wex | apply Wrt | apply q0o | apply q0p | apply q0e | apply q0f | refine q0b rfl ?_ | apply q0q | apply q0r | apply And.intro)
 | (with_reducible first | (refine Wrn hC ?_; intro K hK) | (refine Wdr hC (by kernel_rfl) ?_; intro K hK))
 | ((with_reducible first | refine q0u ?_ | refine qbu ?_ | refine q0m ?_); refine siQ ?_; (try simp (disch := omega) only [w64, wu8]))
 | (with_reducible refine qbh (by kernel_rfl) ?_)
 | ((first | refine Wcd rfl (fun h => ?_) fun h => ?_ | refine Wcu rfl (fun h => ?_) ?_ | refine Wcn rfl ?_ fun h => ?_) <;> (try replace h := q0a h) <;> try (exfalso; first | omega | exact absurd h (by decide)))
 | (refine q0j ?_; refine subQ ?_)
 | (subst hK)
 | exact trivial
 all_goals try (intros; assumption)
 all_goals try refine q0w ?_
 all_goals try replace hp := q0a hp
 all_goals try (intros; first | trivial | omega)
 all_goals (try (rw [w64 (by omega) (by omega)]; first | done | omega))
 all_goals clear hC
 all_goals first | omega | (simp_all [dles]; done) | exact q0k _
end
def cfg120 : Cfg := mkC 28 q3h
theorem qbit : cfg120.pins = [] ∧ cfg120.P = Tryz.prog ∧ cfg120.N = 28 ∧ cfg120.ti 31 = none ∧ cfg120.T 31 = e31o ∧ cfg120.mv 31 = (fun _ => []) := by and_intros <;> exact rfl
section
attribute [local go_sem] qbit e31o
theorem qbvh (hC : COk cfg120) (t : Table) (n : Int) (r : Rec) (hp : 1 ≤ n ∧ n ≤ (t.records.length : Int) + 1 ∧ t.records.length ≤ 1000000 ∧ t.file.format.fields.length ≤ 1000000 ∧ t.file.keys.length ≤ 1000000) : Sem Tryz.prog 120 [.d (q0c t), .d (.i .i64 n), .d (qbt r)] (.d (q0c (qek t n r))) := by
 refine q0g (C := cfg120) (rs := [.cell 6 69]) (fun _ => []) Tryz.func120 rfl rfl rfl rfl rfl rfl ?_
 refine inQ ?_
 repeat' first
 | (with_reducible first | apply q0n | apply q0d | apply Wsq | apply Wbk | apply Wsk | apply Wex | apply Wrt | apply q0o | apply q0p | apply q0e | apply q0f | refine q0b rfl ?_ | apply q0q | apply q0r | apply And.intro)
 | (with_reducible refine Wrn hC ?_; intro K hK)
 | ((with_reducible first | refine q0u ?_ | refine q0m ?_); refine siQ ?_; (try simp (disch := omega) only [w64, wu8]))
 | ((first | refine Wcd rfl (fun h => ?_) fun h => ?_ | refine Wcu rfl (fun h => ?_) ?_ | refine Wcn rfl ?_ fun h => ?_) <;> (try replace h := q0a h) <;> try (exfalso; first | omega | exact absurd h (by decide)))
 | (refine q0j ?_; refine subQ ?_)
 | (subst hK)
 | exact trivial
 all_goals try (intros; assumption)
 all_goals try refine q0w ?_
 all_goals try replace hp := q0a hp
 all_goals try (intros; first | trivial | omega)
 all_goals (try (rw [w64 (by omega) (by omega)]; first | done | omega))
 all_goals clear hC
 all_goals first
 | omega
 | rfl
 | exact q0k _
 | exact qhi (qy4 (by assumption))
 | exact qhi (qy5 (by assumption))
 | (intro d hd; subst hd; exact ⟨rfl, by simp [D.cells, D.one]⟩)
end
def cfg108 : Cfg := mkC 97 q3i
theorem qbiu : cfg108.pins = [] ∧ cfg108.P = Tryz.prog ∧ cfg108.N = 97 ∧ cfg108.T 57 = e57 ∧ cfg108.T 58 = e58 ∧ cfg108.T 62 = e62 ∧ cfg108.T 104 = e104 ∧ cfg108.T 119 = e119 ∧ cfg108.ti = (fun _ => none) ∧ cfg108.mv = fun _ _ => [] := by and_intros <;> exact rfl
section
attribute [local go_sem] qbiu e57 e58 e62 e104 e119
theorem qbvi (hC : COk cfg108) (t : Table) (c : Change) (hp : (t.file.format.fields.length ≤ 1000000 ∧ t.file.keys.length ≤ 1000000 ∧ t.records.length ≤ 1000000)) : Sem Tryz.prog 108 [.d (q0c t), .d (q0s c)] (.d (.i .i64 (qc7 t c))) := by
 refine q0g (C := cfg108) (rs := [.tmp 4]) (fun _ => []) Tryz.func108 rfl rfl rfl rfl rfl rfl ?_
 refine inQ ?_
 repeat' first
 | (with_reducible first | apply q0n | apply q0d | apply Wsq | apply Wbk | apply Wsk | apply Wex | apply Wrt | apply q0o | apply q0p | apply q0e | apply q0f | refine q0b rfl ?_ | apply q0q | apply q0r | apply And.intro)
 | (with_reducible first | (refine Wrn hC ?_; intro K hK) | (refine Wdr hC (by kernel_rfl) ?_; intro K hK))
 | ((with_reducible first | refine q0u ?_ | refine qbu ?_ | refine q0m ?_); refine siQ ?_; (try simp (disch := omega) only [w64, wu8]))
 | (with_reducible refine qbh (by kernel_rfl) ?_)
 | ((first | refine Wcd rfl (fun h => ?_) fun h => ?_ | refine Wcu rfl (fun h => ?_) ?_ | refine Wcn rfl ?_ fun h => ?_) <;> (try replace h := q0a h) <;> try (exfalso; first | omega | exact absurd h (by decide)))
 | (refine q0j ?_; refine subQ ?_)
 | (subst hK)
 | exact trivial
 all_goals try (intros; assumption)
 all_goals try refine q0w ?_
 all_goals try replace hp := q0a hp
 all_goals try (intros; first | trivial | omega)
 all_goals (try (rw [w64 (by omega) (by omega)]; first | done | omega))
 all_goals clear hC
 all_goals first
 | omega
 | exact qbzj (by assumption) (by assumption) (by assumption) (by assumption) (by assumption) (by assumption) (by assumption) (by assumption) (by assumption) (by assumption)
 | exact rc_9 (by assumption) (by assumption) (by assumption) (by assumption) (by assumption) (by assumption) (by assumption) (by assumption) (by assumption) (by assumption)
 | exact rc_8 (by assumption) (by assumption) (by assumption) (by assumption) (by assumption) (by assumption) (by assumption) (by assumption) (by assumption)
 | exact rc_7 (by assumption) (by assumption) (by assumption) (by assumption) (by assumption) (by assumption) (by assumption) (by assumption)
 | exact rc_6 (by assumption) (by assumption) (by assumption) (by assumption) (by assumption) (by assumption) (by assumption)
 | exact rc_5 (by assumption) (by assumption) (by assumption) (by assumption) (by assumption) (by assumption)
 | exact rc_4 (by assumption) (by assumption) (by assumption) (by assumption) (by assumption)
 | exact rc_3 (by assumption) (by assumption) (by assumption) (by assumption)
 | exact rc_2 (by assumption) (by assumption) (by assumption)
 | exact rc_1 (by assumption) (by assumption)
 | exact rc_0 (by assumption)
end
def cfg109 : Cfg := mkC 15 q3j
theorem qbiv : cfg109.pins = [] ∧ cfg109.P = Tryz.prog ∧ cfg109.N = 15 ∧ cfg109.ti 120 = none ∧ cfg109.T 120 = e120 ∧ cfg109.mv 120 = (fun _ => []) := by and_intros <;> exact rfl
section
attribute [local go_sem] qbiv e120
theorem qbvj (hC : COk cfg109) (t : Table) (c : Change) (hp : 1 ≤ c.rrn ∧ c.rrn ≤ (t.records.length : Int) + 1 ∧ t.records.length ≤ 1000000 ∧ t.file.format.fields.length ≤ 1000000 ∧ t.file.keys.length ≤ 1000000) : Sem Tryz.prog 109 [.d (q0c t), .d (q0s c)] (.d (q0c (qek t c.rrn (qdo c)))) := by
 refine q0g (C := cfg109) (rs := [.cell 4 69]) (fun _ => []) Tryz.func109 rfl rfl rfl rfl rfl rfl ?_
 refine inQ ?_
 repeat' first
 | (with_reducible first | apply q0n | apply q0d | apply Wsq | apply Wbk | apply Wsk | apply Wex | apply Wrt | apply q0o | apply q0p | apply q0e | apply q0f | refine q0b rfl ?_ | apply q0q | apply q0r | apply And.intro)
 | (with_reducible refine Wrn hC ?_; intro K hK)
 | ((with_reducible first | refine q0u ?_ | refine q0m ?_); refine siQ ?_; (try simp (disch := omega) only [w64, wu8]))
 | ((first | refine Wcd rfl (fun h => ?_) fun h => ?_ | refine Wcu rfl (fun h => ?_) ?_ | refine Wcn rfl ?_ fun h => ?_) <;> (try replace h := q0a h) <;> try (exfalso; first | omega | exact absurd h (by decide)))
 | (refine q0j ?_; refine subQ ?_)
 | (subst hK)
 | exact trivial
 all_goals try (intros; assumption)
 all_goals try refine q0w ?_
 all_goals try replace hp := q0a hp
 all_goals try (intros; first | trivial | omega)
 all_goals (try (rw [w64 (by omega) (by omega)]; first | done | omega))
 all_goals clear hC
 all_goals first
 | omega
 | exact q0k _
end
def cfg92 : Cfg := mkC 17 q3k
theorem qbpt : cfg92.pins = [] ∧ cfg92.P = Tryz.prog ∧ cfg92.N = 17 ∧ cfg92.T 108 = e108 ∧ cfg92.T 109 = e109 ∧ cfg92.ti = (fun _ => none) ∧ cfg92.mv = fun _ _ => [] := by and_intros <;> exact rfl
section
attribute [local go_sem] qbpt e108 e109
theorem qb01 (hC : COk cfg92) (t : Table) (c : Change) (hp : (t.file.format.fields.length ≤ 1000000 ∧ t.file.keys.length ≤ 1000000 ∧ t.records.length ≤ 1000000)) : Sem Tryz.prog 92 [.d (q0c t), .d (q0s c)] (.tup [.d (q0c (qgv t c).1), .d (.i .i64 (qgv t c).2)]) := by
 refine q0g (C := cfg92) (rs := [.cell 4 69, .tmp 5]) (fun _ => []) Tryz.func92 rfl rfl rfl rfl rfl rfl ?_
 refine inQ ?_
 repeat' first
 | (with_reducible first | apply q0n | apply q0d | apply Wsq | apply Wbk | apply Wsk | apply Wex | apply Wrt | apply q0o | apply q0p | apply q0e | apply q0f | refine q0b rfl ?_ | apply q0q | apply q0r | apply And.intro)
 | (with_reducible refine Wrn hC ?_; intro K hK)
 | ((with_reducible first | refine q0u ?_ | refine q0m ?_); refine siQ ?_; (try simp (disch := omega) only [w64, wu8]))
 | ((first | refine Wcd rfl (fun h => ?_) fun h => ?_ | refine Wcu rfl (fun h => ?_) ?_ | refine Wcn rfl ?_ fun h => ?_) <;> (try replace h := q0a h) <;> try (exfalso; first | omega | exact absurd h (by decide)))
 | (refine q0j ?_; refine subQ ?_)
 | (subst hK)
 | exact trivial
 all_goals try (intros; assumption)
 all_goals try refine q0w ?_
 all_goals try replace hp := q0a hp
 all_goals try (intros; first | trivial | omega)
 all_goals (try (rw [w64 (by omega) (by omega)]; first | done | omega))
 all_goals clear hC
 all_goals first
 | omega
 | exact (qnz (by assumption)).1
 | exact (qnz (by assumption)).2
 | (rw [qm4 (by assumption)]; done)
 | (rw [qm4 (by assumption)]; rfl)
 | (rw [qhk (by assumption)]; done)
 | (rw [qhk (by assumption)]; rfl)
 | (rw [qhk (by assumption)]; exact q0k _)
end
def cfg36 : Cfg := mkC 18 q9a
theorem qbpu : cfg36.pins = [] ∧ cfg36.P = Tryz.prog ∧ cfg36.N = 18 := ⟨rfl, rfl, rfl⟩
section
attribute [local go_sem] qbpu
theorem qb02 (hC : COk cfg36) (c : Change) : Sem Tryz.prog 36 [.d (q0s c)] (.d (q0s (revC c))) := by
 refine q0g (C := cfg36) (rs := [.cell 2 50]) (fun _ => []) Tryz.func36 rfl rfl rfl rfl rfl rfl ?_
 refine inQ ?_
 repeat' first
 | (with_reducible first | apply q0n | apply q0d | apply Wsq | apply Wbk | apply Wsk | apply Wex | apply Wrt | apply q0o | apply q0p | apply q0e | apply q0f | refine q0b rfl ?_ | apply q0q | apply q0r | apply And.intro)
 | (with_reducible refine Wrn hC ?_; intro K hK)
 | ((with_reducible first | refine q0u ?_ | refine q0m ?_); refine siQ ?_; (try simp (disch := omega) only [w64, wu8]))
 | ((first | refine Wcd rfl (fun h => ?_) fun h => ?_ | refine Wcu rfl (fun h => ?_) ?_ | refine Wcn rfl ?_ fun h => ?_) <;> (try replace h := q0a h) <;> try (exfalso; first | omega | exact absurd h (by decide)))
 | (refine q0j ?_; refine subQ ?_)
 | (subst hK)
 | exact trivial
 all_goals try (intros; assumption)
 all_goals try refine q0w ?_
 all_goals try (intros; first | trivial | omega)
 all_goals (try (rw [w64 (by omega) (by omega)]; first | done | omega))
 all_goals clear hC
 all_goals first
 | omega
 | (unfold revC qea; simp_all; done)
 | (unfold revC qea; grind)
end
def cfg59 : Cfg := mkC 21 q9b
theorem qbpv : cfg59.pins = [] ∧ cfg59.P = Tryz.prog ∧ cfg59.N = 21 := ⟨rfl, rfl, rfl⟩
section
attribute [local go_sem] qbpv
attribute [local go_sem] qc5 qcl
theorem qb03 (hC : COk cfg59) (l : List Table) (n : ByteArray) (hp : l.length ≤ 1000000) : Sem Tryz.prog 59 [.d (.sl 6 (l.map q0c)), .d (.s n)] (.d (.i .i64 (qbg l n))) := by
 refine q0g (C := cfg59) (rs := [.tmp 4]) (fun _ => []) Tryz.func59 rfl rfl rfl rfl rfl rfl ?_
 refine inQ ?_
 repeat' first
 | (with_reducible first | apply q0n | apply q0d | apply Wsq | apply Wbk | apply Wsk | apply Wex | apply Wrt | apply q0o | apply q0p | apply q0e | apply q0f | refine q0b rfl ?_ | apply q0q | apply q0r | apply And.intro)
 | (refine Wat 4 rfl ?_; have hg : ∀ z, (l.map q0c).getD i z = q0c (l.getD i q0z) := fun z => qfr (by omega) z)
 | (with_reducible first | (refine Whr hC ?_; intro K hK) | (refine Whd hC (by kernel_rfl) ?_; intro K hK))
 | (with_reducible refine Wrn hC ?_; intro K hK)
 | ((with_reducible first | refine q0u ?_ | refine q0m ?_); (first | (simp (maxSteps := 1000000) only [go_sem, ↓reduceIte, reduceCtorEq, Nat.reduceEqDiff, Nat.reduceLT, Nat.reduceLeDiff, Nat.reduceMul, Nat.reduceAdd, Nat.reduceSub, reduceDIte, Nat.reduceBEq, Nat.reduceBNe, hg]) | (refine siQ ?_)); (try simp (disch := omega) only [w64, wu8]))
 | ((first | refine Wcd rfl (fun h => ?_) fun h => ?_ | refine Wcu rfl (fun h => ?_) ?_ | refine Wcn rfl ?_ fun h => ?_) <;> (try replace h := q0a h) <;> try (exfalso; first | omega | exact absurd h (by decide)))
 | (refine Wlp 2 rfl (ι := Nat) (fun i => mkS [(0, V.d (.sl 6 (l.map q0c))), (1, V.d (.s n)), (5, V.d (.i .i64 (i : Int)))] ([])) (fun i => i ≤ l.length ∧ ∀ j, j < i → qf9 l n j = 0) (fun i => l.length - i) (0) ?_ ?_ (fun i hi => ?_) <;> (try dsimp only) <;> (try dsimp only at hi))
 | (refine Wnx 2 (i + 1) ?_ ?_ ?_ <;> (try dsimp only))
 | (refine q0j ?_; refine subQ ?_)
 | (subst hK)
 | exact trivial
 all_goals try (intros; assumption)
 all_goals try refine q0w ?_
 all_goals try replace hp := q0a hp
 all_goals try replace hi := q0a hi
 all_goals try (intros; first | trivial | omega)
 all_goals (try (rw [w64 (by omega) (by omega)]; first | done | omega))
 all_goals clear hC
 all_goals first
 | omega
 | (rw [qut hi.2 (by omega) (by assumption)]; done)
 | (rw [quu hi.2 (by omega)]; done)
 | exact qex hi.2 (q2b (by assumption))
end
def cfg33 : Cfg := mkC 35 q9c
theorem qbpw : cfg33.pins = [] ∧ cfg33.P = Tryz.prog ∧ cfg33.N = 35 ∧ cfg33.T 58 = e58 ∧ cfg33.T 59 = e59 ∧ cfg33.ti = (fun _ => none) ∧ cfg33.mv = fun _ _ => [] := by and_intros <;> exact rfl
section
attribute [local go_sem] qbpw e58 e59
attribute [local go_sem] qc5 qcl
theorem qb04 (hC : COk cfg33) (l : List Table) (hp : okTs l) : Sem Tryz.prog 33 [.d (.sl 6 (l.map q0c))] (.tup [.d (.i .i64 (qlq l).1), .d (.i .i64 (qlq l).2)]) := by
 refine q0g (C := cfg33) (rs := [.tmp 2, .tmp 3]) (fun _ => []) Tryz.func33 rfl rfl rfl rfl rfl rfl ?_
 refine inQ ?_
 repeat' first
 | (with_reducible first | apply q0n | apply q0d | apply Wsq | apply Wbk | apply Wsk | apply Wex | apply Wrt | apply q0o | apply q0p | apply q0e | apply q0f | refine q0b rfl ?_ | apply q0q | apply q0r | apply And.intro)
 | (refine Wat 6 rfl ?_; have hB : l.length ≤ 1000000 := hp.1; have hg : ∀ z, (l.map q0c).getD i z = q0c (l.getD i q0z) := fun z => qfr (by omega) z)
 | (with_reducible first | (refine Whr hC ?_; intro K hK) | (refine Whd hC (by kernel_rfl) ?_; intro K hK))
 | (with_reducible refine Wrn hC ?_; intro K hK)
 | ((with_reducible first | refine q0u ?_ | refine q0m ?_); (first | (simp (maxSteps := 1000000) only [go_sem, ↓reduceIte, reduceCtorEq, Nat.reduceEqDiff, Nat.reduceLT, Nat.reduceLeDiff, Nat.reduceMul, Nat.reduceAdd, Nat.reduceSub, reduceDIte, Nat.reduceBEq, Nat.reduceBNe, hg]) | (refine siQ ?_)); (try simp (disch := omega) only [w64, wu8]))
 | ((first | refine Wcd rfl (fun h => ?_) fun h => ?_ | refine Wcu rfl (fun h => ?_) ?_ | refine Wcn rfl ?_ fun h => ?_) <;> (try replace h := q0a h) <;> try (exfalso; first | omega | exact absurd h (by decide)))
 | (refine Wlp 4 rfl (ι := Nat) (fun i => mkS [(0, V.d (.sl 6 (l.map q0c))), (4, V.d (.i .i64 (i : Int)))] ([])) (fun i => i ≤ l.length ∧ l.length ≤ 8 ∧ ∀ j, j < i → tabE l j = 0) (fun i => l.length - i) (0) ?_ ?_ (fun i hi => ?_) <;> (try dsimp only) <;> (try dsimp only at hi))
 | (refine Wnx 4 (i + 1) ?_ ?_ ?_ <;> (try dsimp only))
 | (refine q0j ?_; refine subQ ?_)
 | (subst hK)
 | exact trivial
 all_goals try (intros; assumption)
 all_goals try refine q0w ?_
 all_goals try replace hp := q0a hp
 all_goals try replace hi := q0a hi
 all_goals try (intros; first | trivial | omega)
 all_goals (try (rw [w64 (by omega) (by omega)]; first | done | omega))
 all_goals clear hC
 all_goals first
 | omega
 | exact hp.1
 | exact (hp.2 i).1
 | exact (hp.2 i).2.1
 | exact (hp.2 i).2.2
 | (rw [qbnt (by assumption)]; done)
 | (rw [qbca hi.2.1 hi.2.2 (by omega) (by rw [qqy (by assumption)]; assumption)]; first | done | exact qqy (by assumption))
 | (rw [qbca hi.2.1 hi.2.2 (by omega) (by rw [qqz (by assumption) (by assumption)]; decide)]; first | done | exact qqz (by assumption) (by assumption))
 | (rw [qbtf hi.2.1 hi.2.2 (by omega)]; done)
 | exact qex hi.2.2 (qxu (by assumption) (by assumption))
end
def cfg31d : Cfg := mkC 10 q9d
theorem qbiw : cfg31d.pins = [] ∧ cfg31d.P = Tryz.prog ∧ cfg31d.N = 10 ∧ cfg31d.ti 56 = none ∧ cfg31d.T 56 = e56 ∧ cfg31d.mv 56 = (fun _ => []) := by and_intros <;> exact rfl
section
attribute [local go_sem] qbiw e56
theorem qbvk (hC : COk cfg31d) (t : Table) (hp : (t.file.format.fields.length ≤ 1000000 ∧ t.file.keys.length ≤ 1000000 ∧ t.records.length ≤ 1000000)) : Sem Tryz.prog 31 [.d (q0c t)] (.d (q0c t)) := by
 refine q0g (C := cfg31d) (rs := [.cell 2 69]) (fun _ => []) Tryz.func31 rfl rfl rfl rfl rfl rfl ?_
 refine inQ ?_
 repeat' first
 | (with_reducible first | apply q0n | apply q0d | apply Wsq | apply Wbk | apply Wsk | apply Wex | apply Wrt | apply q0o | apply q0p | apply q0e | apply q0f | refine q0b rfl ?_ | apply q0q | apply q0r | apply And.intro)
 | (with_reducible first | (refine Wrn hC ?_; intro K hK) | (refine Wdr hC (by kernel_rfl) ?_; intro K hK))
 | ((with_reducible first | refine q0u ?_ | refine qbu ?_ | refine q0m ?_); refine siQ ?_; (try simp (disch := omega) only [w64, wu8]))
 | (with_reducible refine qbh (by kernel_rfl) ?_)
 | ((first | refine Wcd rfl (fun h => ?_) fun h => ?_ | refine Wcu rfl (fun h => ?_) ?_ | refine Wcn rfl ?_ fun h => ?_) <;> (try replace h := q0a h) <;> try (exfalso; first | omega | exact absurd h (by decide)))
 | (refine q0j ?_; refine subQ ?_)
 | (subst hK)
 | exact trivial
 all_goals try (intros; assumption)
 all_goals try refine q0w ?_
 all_goals try replace hp := q0a hp
 all_goals try (intros; first | trivial | omega)
 all_goals (try (rw [w64 (by omega) (by omega)]; first | done | omega))
 all_goals clear hC
 all_goals first | omega | (simp_all [dles]; done) | exact q0k _
end
def cfg61 : Cfg := ⟨Tryz.prog, 39, q3l, (fun _ _ => []), [0], (fun _ => none)⟩
theorem qbpx : cfg61.pins = [0] ∧ cfg61.P = Tryz.prog ∧ cfg61.N = 39 ∧ cfg61.T 59 = e59 ∧ cfg61.T 92 = e92 ∧ cfg61.ti = (fun _ => none) ∧ cfg61.mv = fun _ _ => [] := by and_intros <;> exact rfl
section
attribute [local go_sem] qbpx e59 e92
attribute [local go_sem] qc5 qcl q0h q0v qbk qby qbm qcj qcq qft qgt qii qj1 qij qik qj5 qim qin qd0
theorem qb05 (hC : COk cfg61) (x : Ans) (c : Change) (hp : okTs x.tables) : Sem Tryz.prog 61 [.bx 88 [.own 69 6 (x.tables.map q0c), .d (.i .i64 x.n), .d (.sl 1 (x.units.map (D.i .i64))), .d (.i .i64 x.err)], .d (q0s c)] (.tup [.d (.i .i64 (cond x.tables c)), .bx 88 [.own 69 6 ((doT x.tables c).map q0c), .d (.i .i64 x.n), .d (.sl 1 (x.units.map (D.i .i64))), .d (.i .i64 x.err)]]) := by
 have hB : x.tables.length ≤ 1000000 := hp.1
 have hf := qhe x.tables c.file
 refine q0g (C := cfg61) (rs := [.tmp 4]) (fun j => if j = 1 then [(4242, 88, 0), (0, 69, 6)] else []) Tryz.func61 rfl rfl rfl rfl rfl rfl ?_
 refine inQ ?_
 repeat' first
 | (with_reducible first | apply q0n | apply q0d | apply Wsq | apply Wbk | apply Wsk | apply Wex | apply Wrt | apply q0o | apply q0p | apply q0e | apply q0f | refine q0b rfl ?_ | apply q0q | apply q0r | apply And.intro)
 | (refine Wat 4 rfl ?_; have hg : ∀ z, (x.tables.map q0c).getD (qbg x.tables c.file).toNat z = q0c (x.tables.getD (qbg x.tables c.file).toNat q0z) := fun z => qfr (by omega) z)
 | (with_reducible first | (refine Whr hC ?_; intro K hK) | (refine Whd hC (by kernel_rfl) ?_; intro K hK))
 | (with_reducible first | (refine Wrn hC ?_; intro K hK) | (refine Wdr hC (by kernel_rfl) ?_; intro K hK))
 | ((with_reducible first | refine q0u ?_ | refine qbu ?_ | refine q0m ?_); (first | (simp (maxSteps := 1000000) only [go_sem, ↓reduceIte, reduceCtorEq, Nat.reduceEqDiff, Nat.reduceLT, Nat.reduceLeDiff, Nat.reduceMul, Nat.reduceAdd, Nat.reduceSub, reduceDIte, Nat.reduceBEq, Nat.reduceBNe, hg]) | (refine siQ ?_)); (try simp (disch := omega) only [w64, wu8]))
 | (with_reducible refine qbh (by kernel_rfl) ?_)
 | ((first | refine Wcd rfl (fun h => ?_) fun h => ?_ | refine Wcu rfl (fun h => ?_) ?_ | refine Wcn rfl ?_ fun h => ?_) <;> (try replace h := q0a h) <;> try (exfalso; first | omega | exact absurd h (by decide)))
 | (refine q0j ?_; refine subQ ?_)
 | (subst hK)
 | exact trivial
 all_goals try (intros; assumption)
 all_goals try refine q0w ?_
 all_goals try replace hp := q0a hp
 all_goals try (intros; first | trivial | omega)
 all_goals (try (rw [w64 (by omega) (by omega)]; first | done | omega))
 all_goals clear hC
 all_goals (try simp only [qm5] at *)
 all_goals first
 | omega
 | exact (qxx (by assumption)).1
 | (rw [(qxx (by assumption)).2]; exact q0k _)
 | exact (hp.2 _).1
 | exact (hp.2 _).2.1
 | exact (hp.2 _).2.2
 | exact (q3e (by assumption) (by assumption)).1
 | (rw [(q3e (by assumption) (by assumption)).2]; exact q0k _)
 | exact (q3f (by assumption) (by assumption)).1
 | (rw [(q3f (by assumption) (by assumption)).2, qhk (by assumption), List.take_of_length_le (by simp), List.map_set]; exact q0k _)
end
def cfg37 : Cfg := ⟨Tryz.prog, 40, q9e, mvz, [], (fun _ => none)⟩
theorem qbpy : cfg37.pins = [] ∧ cfg37.P = Tryz.prog ∧ cfg37.N = 40 ∧ cfg37.T 12 = e12 ∧ cfg37.mv 12 = (fun _ => []) ∧ cfg37.T 59 = e59 ∧ cfg37.mv 59 = (fun _ => []) ∧ cfg37.T 61 = e61 ∧ cfg37.mv 61 = (fun j => if j = 0 then [(4242, 88, 0), (0, 69, 6)] else []) ∧ cfg37.T 62 = e62 ∧ cfg37.mv 62 = (fun _ => []) ∧ cfg37.ti = (fun _ => none) := by and_intros <;> exact rfl
section
attribute [local go_sem] qbpy e12 e59 e61 e62
attribute [local go_sem] qc5 qcl q0h q0v qbk qby qbm qcj qcq qft qgt qii qj1 qij qik qj5 qim qin qd0 List.take_length
theorem qb06 (hC : COk cfg37) (ts : List Table) (cs : List Change) (hp : okTs ts ∧ cs.length ≤ 1000000) : Sem Tryz.prog 37 [.d (.sl 6 (ts.map q0c)), .d (.sl 5 (cs.map q0s))] (.d (qft (qpe (qc4 ts cs)))) := by
 have hB : ts.length ≤ 1000000 := hp.1.1
 refine q0g (C := cfg37) (rs := [.cell 4 88]) (fun _ => []) Tryz.func37 rfl rfl rfl rfl rfl rfl ?_
 refine inQ ?_
 repeat' first
 | (with_reducible first | apply q0n | apply q0d | apply Wsq | apply Wbk | apply Wsk | apply Wex | apply Wrt | apply q0o | apply q0p | apply q0e | apply q0f | refine q0b rfl ?_ | apply q0q | apply q0r | apply And.intro)
 | (refine Wat 8 rfl ?_; have hcn := qbgp (ts := ts) (cs := cs) (k := k); have hcb := qp6 ts cs k)
 | (with_reducible first | (refine Whr hC ?_; intro K hK) | (refine Whd hC (by kernel_rfl) ?_; intro K hK))
 | (with_reducible first | (refine Wrn hC ?_; intro K hK) | (refine Wdr hC (by kernel_rfl) ?_; intro K hK))
 | ((with_reducible first | refine q0u ?_ | refine qbu ?_ | refine q0m ?_); refine siQ ?_; (try simp (disch := omega) only [w64, wu8]))
 | (with_reducible refine qbh (by kernel_rfl) ?_)
 | ((first | refine Wcd rfl (fun h => ?_) fun h => ?_ | refine Wcu rfl (fun h => ?_) ?_ | refine Wcn rfl ?_ fun h => ?_) <;> (try replace h := q0a h) <;> try (exfalso; first | omega | exact absurd h (by decide)))
 | (refine Wlp 3 rfl (ι := Nat) (fun k => mkS [(0, V.d (.sl 6 (ts.map q0c))), (1, V.d (.sl 5 (cs.map q0s))), (4, V.ptr 64 0), (5, V.ptr 80 0), (6, V.d (.i .i64 (k : Int)))] ([(64, .live (.box 88 [.d .nil, .d (.i .i64 0), .d .nil, .d (.i .i64 0)])), (80, .live (.box 88 [V.row 144 6 0 (mTo ts cs k).1.length, .d (.i .i64 (mTo ts cs k).2), .d (.sl 1 []), .d (.i .i64 0)])), (144, .live (.row 69 6 false ((mTo ts cs k).1.map q0c)))])) (fun k => k ≤ cs.length ∧ ∀ j, j < k → mErr ts cs j = 0) (fun k => cs.length - k) (0) ?_ ?_ (fun k hk => ?_) <;> (try dsimp only) <;> (try dsimp only at hk))
 | (refine Wnx 3 (k + 1) ?_ ?_ ?_ <;> (try dsimp only))
 | (refine q0j ?_; refine subQ ?_)
 | (subst hK)
 | exact trivial
 all_goals try (intros; assumption)
 all_goals try refine q0w ?_
 all_goals try replace hp := q0a hp
 all_goals try replace hk := q0a hk
 all_goals try (intros; first | trivial | omega)
 all_goals (try (rw [w64 (by omega) (by omega)]; first | done | omega))
 all_goals clear hC
 all_goals (try have OK := qsi (cs := cs) hp.1 hk.2)
 all_goals (try have CN := qp6 ts cs k)
 all_goals (try have LN := qjj ts cs k)
 all_goals first
 | omega
 | exact hp.1
 | exact OK
 | exact OK.1
 | exact q0k _
 | (rw [qbnv hk.2 (by omega) (by assumption)]; first | done | rfl)
 | exact qex hk.2 (by rw [qnm]; assumption)
 | (rw [qbnu (by rw [qnm]; assumption)]; first | done | exact q0k _)
 | (rw [qbnw hk.2 (by omega)]; first | done | rfl | exact q0k _)
end
def cfg68 : Cfg := ⟨Tryz.prog, 17, q9f, mvz, [], (fun _ => none)⟩
theorem qbpz : cfg68.pins = [] ∧ cfg68.P = Tryz.prog ∧ cfg68.N = 17 ∧ cfg68.T 33 = e33 ∧ cfg68.mv 33 = (fun _ => []) ∧ cfg68.T 34 = e34 ∧ cfg68.mv 34 = (fun _ => []) ∧ cfg68.ti = (fun _ => none) := by and_intros <;> exact rfl
section
attribute [local go_sem] qbpz e33 e34
attribute [local go_sem] qc5 qcl q0h q0v qbk qby qbm qcj qcq qft qgt qii qj1 qij qik qj5 qim qin qd0
theorem qb07 (hC : COk cfg68) (ts : List Table) (l : List Entry) (hp : okTs ts ∧ l.length ≤ 1000000) : Sem Tryz.prog 68 [.d (.sl 6 (ts.map q0c)), .d (.sl 8 (l.map q0h))] (.d (.i .i64 (chkE ts l))) := by
 refine q0g (C := cfg68) (rs := [.tmp 4]) (fun _ => []) Tryz.func68 rfl rfl rfl rfl rfl rfl ?_
 refine inQ ?_
 repeat' first
 | (with_reducible first | apply q0n | apply q0d | apply Wsq | apply Wbk | apply Wsk | apply Wex | apply Wrt | apply q0o | apply q0p | apply q0e | apply q0f | refine q0b rfl ?_ | apply q0q | apply q0r | apply And.intro)
 | (with_reducible refine Wrn hC ?_; intro K hK)
 | ((with_reducible first | refine q0u ?_ | refine q0m ?_); refine siQ ?_; (try simp (disch := omega) only [w64, wu8]))
 | ((first | refine Wcd rfl (fun h => ?_) fun h => ?_ | refine Wcu rfl (fun h => ?_) ?_ | refine Wcn rfl ?_ fun h => ?_) <;> (try replace h := q0a h) <;> try (exfalso; first | omega | exact absurd h (by decide)))
 | (refine q0j ?_; refine subQ ?_)
 | (subst hK)
 | exact trivial
 all_goals try (intros; assumption)
 all_goals try refine q0w ?_
 all_goals try replace hp := q0a hp
 all_goals try (intros; first | trivial | omega)
 all_goals (try (rw [w64 (by omega) (by omega)]; first | done | omega))
 all_goals clear hC
 all_goals (try simp only [qbb9] at *)
 all_goals first
 | omega
 | exact hp.1
 | (rw [(qp5 (by assumption)).2]; done)
 | (rw [(qkt (by assumption)).2]; done)
end
end
end Go.Ev
