/- Tools and contracts under the laws of this seat: Drc127 to Drc30. -/
import Derived.Test.YtblpebplbdoneaaGreatE05
set_option linter.unusedVariables false
set_option linter.unusedSimpArgs false
namespace Go.Ev
noncomputable section
open Go.Proofs Ty
set_option maxRecDepth 10000
set_option maxHeartbeats 4000000
attribute [local go_sem] qbi qbl qck qdc qce qdr qd3 qet Int.toNat_natCast qdq qd4 qee qb9 qc2 qbx qca decI List.length_map nc0 qbj qbo q01 qb7 qdh qd5 qb1 qb8 qem qfe q06 qbz qcx qdl qcb qcm qd6 qen qbt qdm qeo qff qb3 qbr qc1 qdj qcz qeq qdk qc0 qer qdi qcy qep List.length_take qdd Int.toNat_zero Nat.sub_zero List.drop_zero
attribute [local go_sem ←] List.map_take List.map_drop
def cfg127 : Cfg := mkC 47 q15
theorem qbh0 : cfg127.pins = [] ∧ cfg127.P = Tryz.prog ∧ cfg127.N = 47 ∧ cfg127.T 147 = e147 ∧ cfg127.T 148 = e148 ∧ cfg127.ti = (fun _ => none) ∧ cfg127.mv = fun _ _ => [] := by and_intros <;> exact rfl
section
attribute [local go_sem] qbh0 e147 e148
theorem qbun (hC : COk cfg127) (f : Fmt) (b : ByteArray) (hp : f.fields.length ≤ 1000 ∧ (b.size : Int) = qfw f) : Sem Tryz.prog 127 [.d (qb1 f), .d (.s b)] (.tup [.d (.sl 2 ((qhy f b).1.map qce)), .d (.i .i64 (qhy f b).2.1), .d (.i .i64 (qhy f b).2.2)]) := by
 refine q0g (C := cfg127) (rs := [.tmp 4, .tmp 5, .tmp 6]) (fun _ => []) Tryz.func127 rfl rfl rfl rfl rfl rfl ?_
 refine inQ ?_
 repeat' first
 | (with_reducible first | apply q0n | apply q0d | apply Wsq | apply Wbk | apply Wsk | apply Wex | apply Wrt | apply q0o | apply q0p | apply q0e | apply q0f | refine q0b rfl ?_ | apply q0q | apply q0r | apply And.intro)
 | (with_reducible first | (refine Wrn hC ?_; intro K hK) | (refine Wdr hC (by kernel_rfl) ?_; intro K hK))
 | ((with_reducible first | refine q0u ?_ | refine qbu ?_ | refine q0m ?_); refine siQ ?_; (try simp (disch := omega) only [w64, wu8]))
 | (with_reducible refine qbh (by kernel_rfl) ?_)
 | ((first | refine Wcd rfl (fun h => ?_) fun h => ?_ | refine Wcu rfl (fun h => ?_) ?_ | refine Wcn rfl ?_ fun h => ?_) <;> (try replace h := q0a h) <;> try (exfalso; first | omega | exact absurd h (by decide)))
 | (refine Wlp 3 rfl (ι := Nat) (fun i => mkS [(1, V.d (.s (b.extract (qct f.fields i).toNat b.size))), (7, V.row 112 2 0 (qlh f b i).length), (15, V.d (.sl 4 (f.fields.map q01))), (16, V.d (.i .i64 (f.fields.length : Int))), (17, V.d (.i .i64 (i : Int)))] ([(112, .live (.row 187 2 false ((qlh f b i).map qce)))])) (fun i => i ≤ f.fields.length ∧ ∀ j, j < i → qlo f b j = 0) (fun i => f.fields.length - i) (0) ?_ ?_ (fun i hi => ?_) <;> (try dsimp only) <;> (try dsimp only at hi))
 | (refine Wnx 3 (i + 1) ?_ ?_ ?_ <;> (try dsimp only))
 | (refine q0j ?_; refine subQ ?_)
 | (subst hK)
 | exact trivial
 all_goals try (intros; assumption)
 all_goals try refine q0w ?_
 all_goals try replace hp := q0a hp
 all_goals try replace hi := q0a hi
 all_goals try (intros; first | trivial | omega)
 all_goals (try (rw [w64 (by omega) (by omega)]; first | done | omega))
 all_goals (try have O1 := qhd f.fields i)
 all_goals (try have W1 := qjt (f.fields.getD i q03))
 all_goals (try have VL := qwe f b i)
 all_goals (try have PI := qbbj (f := f) (b := b) (i := i) hp.2 (by omega))
 all_goals (try have PE := qbfz (f := f) (b := b) (i := i) hp.2 (by omega))
 all_goals clear hC
 all_goals (try simp only [PE] at *)
 all_goals first
 | rfl
 | omega
 | exact qbnf b
 | exact PI
 | (rw [qxr hi.2 (by omega) (by assumption)]; done)
 | (rw [qxr hi.2 (by omega) (by assumption)]; rfl)
 | exact qex hi.2 (by assumption)
 | exact q5u hp.2 (by omega)
 | (rw [q5u hp.2 (by omega)]; exact q0k _)
 | (rw [qlh, List.length_append]; rfl)
 | (rw [qlh, List.map_append]; exact q0k _)
 | (rw [qxs hi.2 (by omega)]; done)
 | (rw [qxs hi.2 (by omega), show f.fields.length = i by omega]; exact q0k _)
 | (intro d hd; first | (subst hd; exact ⟨rfl, by simp [D.cells, D.one]⟩) | (rcases hd with rfl | rfl <;> exact ⟨rfl, by simp [D.cells, D.one]⟩) | (rcases hd with rfl | rfl | rfl <;> exact ⟨rfl, by simp [D.cells, D.one]⟩) | (rcases hd with rfl | rfl | rfl | rfl <;> exact ⟨rfl, by simp [D.cells, D.one]⟩))
end
def cfg114 : Cfg := mkC 24 q16
theorem qbh1 : cfg114.pins = [] ∧ cfg114.P = Tryz.prog ∧ cfg114.N = 24 ∧ cfg114.T 125 = e125 ∧ cfg114.T 126 = e126 ∧ cfg114.T 127 = e127 ∧ cfg114.ti = (fun _ => none) ∧ cfg114.mv = fun _ _ => [] := by and_intros <;> exact rfl
section
attribute [local go_sem] qbh1 e125 e126 e127
theorem qbuo (hC : COk cfg114) (f : Fmt) (b : ByteArray) (hp : f.fields.length ≤ 1000000) : Sem Tryz.prog 114 [.d (qb1 f), .d (.s b)] (.tup [.d (.sl 2 ((qds f b).1.map qce)), .d (.i .i64 (qds f b).2.1), .d (.i .i64 (qds f b).2.2)]) := by
 refine q0g (C := cfg114) (rs := [.tmp 4, .tmp 5, .tmp 6]) (fun _ => []) Tryz.func114 rfl rfl rfl rfl rfl rfl ?_
 refine inQ ?_
 repeat' first
 | (with_reducible first | apply q0n | apply q0d | apply Wsq | apply Wbk | apply Wsk | apply Wex | apply Wrt | apply q0o | apply q0p | apply q0e | apply q0f | refine q0b rfl ?_ | apply q0q | apply q0r | apply And.intro)
 | (with_reducible refine Wrn hC ?_; intro K hK)
 | ((with_reducible first | refine q0u ?_ | refine q0m ?_); refine siQ ?_; (try simp (disch := omega) only [w64, wu8]))
 | ((first | refine Wcd rfl (fun h => ?_) fun h => ?_ | refine Wcu rfl (fun h => ?_) ?_ | refine Wcn rfl ?_ fun h => ?_) <;> (try replace h := q0a h) <;> try (exfalso; first | omega | exact absurd h (by decide)))
 | (refine q0j ?_; refine subQ ?_)
 | (subst hK)
 | exact trivial
 all_goals try (intros; assumption)
 all_goals try refine q0w ?_
 all_goals try replace hp := q0a hp
 all_goals try (intros; first | trivial | omega)
 all_goals (try (rw [w64 (by omega) (by omega)]; first | done | omega))
 all_goals clear hC
 all_goals (try have FO := qwd (f := f) (by assumption))
 all_goals first
 | omega
 | (rw [qtj (by assumption)]; done)
 | (rw [qtj (by assumption)]; rfl)
 | (rw [qtk (by assumption) (by assumption)]; done)
 | (rw [qtk (by assumption) (by assumption)]; rfl)
 | (rw [qtl (by assumption) (by assumption)]; done)
 | (rw [qtl (by assumption) (by assumption)]; exact q0k _)
 | assumption
end
def cfg102 : Cfg := mkC 18 q17
theorem qbh2 : cfg102.pins = [] ∧ cfg102.P = Tryz.prog ∧ cfg102.N = 18 ∧ cfg102.ti 114 = none ∧ cfg102.T 114 = e114 ∧ cfg102.mv 114 = (fun _ => []) := by and_intros <;> exact rfl
section
attribute [local go_sem] qbh2 e114
theorem qbup (hC : COk cfg102) (f : Fmt) (b : ByteArray) (hp : f.fields.length ≤ 1000000) : Sem Tryz.prog 102 [.d (qb1 f), .d (.s b)] (.tup [.d (.i .i64 (qds f b).2.1), .d (.i .i64 (qds f b).2.2)]) := by
 refine q0g (C := cfg102) (rs := [.tmp 4, .tmp 5]) (fun _ => []) Tryz.func102 rfl rfl rfl rfl rfl rfl ?_
 refine inQ ?_
 repeat' first
 | (with_reducible first | apply q0n | apply q0d | apply Wsq | apply Wbk | apply Wsk | apply Wex | apply Wrt | apply q0o | apply q0p | apply q0e | apply q0f | refine q0b rfl ?_ | apply q0q | apply q0r | apply And.intro)
 | (with_reducible refine Wrn hC ?_; intro K hK)
 | ((with_reducible first | refine q0u ?_ | refine q0m ?_); refine siQ ?_; (try simp (disch := omega) only [w64, wu8]))
 | ((first | refine Wcd rfl (fun h => ?_) fun h => ?_ | refine Wcu rfl (fun h => ?_) ?_ | refine Wcn rfl ?_ fun h => ?_) <;> (try replace h := q0a h) <;> try (exfalso; first | omega | exact absurd h (by decide)))
 | (refine q0j ?_; refine subQ ?_)
 | (subst hK)
 | exact trivial
 all_goals try (intros; assumption)
 all_goals try refine q0w ?_
 all_goals try replace hp := q0a hp
 all_goals try (intros; first | trivial | omega)
 all_goals (try (rw [w64 (by omega) (by omega)]; first | done | omega))
end
def cfg87 : Cfg := mkC 14 q18
theorem qbot : cfg87.pins = [] ∧ cfg87.P = Tryz.prog ∧ cfg87.N = 14 ∧ cfg87.ti 102 = none ∧ cfg87.T 102 = e102 ∧ cfg87.mv 102 = (fun _ => []) := by and_intros <;> exact rfl
section
attribute [local go_sem] qbot e102
theorem qbz1 (hC : COk cfg87) (f : Fmt) (b : ByteArray) (hp : f.fields.length ≤ 1000000) : Sem Tryz.prog 87 [.d (qb1 f), .d (.s b)] (.d (.i .i64 (qds f b).2.2)) := by
 refine q0g (C := cfg87) (rs := [.tmp 4]) (fun _ => []) Tryz.func87 rfl rfl rfl rfl rfl rfl ?_
 refine inQ ?_
 repeat' first
 | (with_reducible first | apply q0n | apply q0d | apply Wsq | apply Wbk | apply Wsk | apply Wex | apply Wrt | apply q0o | apply q0p | apply q0e | apply q0f | refine q0b rfl ?_ | apply q0q | apply q0r | apply And.intro)
 | (with_reducible refine Wrn hC ?_; intro K hK)
 | ((with_reducible first | refine q0u ?_ | refine q0m ?_); refine siQ ?_; (try simp (disch := omega) only [w64, wu8]))
 | ((first | refine Wcd rfl (fun h => ?_) fun h => ?_ | refine Wcu rfl (fun h => ?_) ?_ | refine Wcn rfl ?_ fun h => ?_) <;> (try replace h := q0a h) <;> try (exfalso; first | omega | exact absurd h (by decide)))
 | (refine q0j ?_; refine subQ ?_)
 | (subst hK)
 | exact trivial
 all_goals try (intros; assumption)
 all_goals try refine q0w ?_
 all_goals try replace hp := q0a hp
 all_goals try (intros; first | trivial | omega)
 all_goals (try (rw [w64 (by omega) (by omega)]; first | done | omega))
end
def cfg97 : Cfg := mkC 47 q70
theorem qbou : cfg97.pins = [] ∧ cfg97.P = Tryz.prog ∧ cfg97.N = 47 ∧ cfg97.T 83 = e83 ∧ cfg97.T 85 = e85 ∧ cfg97.T 87 = e87 ∧ cfg97.T 113 = e113 ∧ cfg97.ti = (fun _ => none) ∧ cfg97.mv = fun _ _ => [] := by and_intros <;> exact rfl
section
attribute [local go_sem] qbou e83 e85 e87 e113
attribute [local go_sem] q0c q0y qdn qd7 q0s q0x q05 qba qcv qcw
theorem qbz2 (hC : COk cfg97) (t : Table) (hp : (t.file.format.fields.length ≤ 1000000 ∧ t.file.keys.length ≤ 1000000 ∧ t.records.length ≤ 1000000)) : Sem Tryz.prog 97 [.d (q0c t)] (.tup [.d (.i .i64 (qbd t).1), .d (.i .i64 (qbd t).2)]) := by
 refine q0g (C := cfg97) (rs := [.tmp 2, .tmp 3]) (fun _ => []) Tryz.func97 rfl rfl rfl rfl rfl rfl ?_
 refine inQ ?_
 repeat' first
 | (with_reducible first | apply q0n | apply q0d | apply Wsq | apply Wbk | apply Wsk | apply Wex | apply Wrt | apply q0o | apply q0p | apply q0e | apply q0f | refine q0b rfl ?_ | apply q0q | apply q0r | apply And.intro)
 | (with_reducible first | (refine Wrn hC ?_; intro K hK) | (refine Wdr hC (by kernel_rfl) ?_; intro K hK))
 | ((with_reducible first | refine q0u ?_ | refine qbu ?_ | refine q0m ?_); refine siQ ?_; (try simp (disch := omega) only [w64, wu8]))
 | (with_reducible refine qbh (by kernel_rfl) ?_)
 | ((first | refine Wcd rfl (fun h => ?_) fun h => ?_ | refine Wcu rfl (fun h => ?_) ?_ | refine Wcn rfl ?_ fun h => ?_) <;> (try replace h := q0a h) <;> try (exfalso; first | omega | exact absurd h (by decide)))
 | (refine Wlp 5 rfl (ι := Nat) (fun i => mkS [(1, V.ptr 16 0), (22, V.d (.sl 2 (t.records.map qbt))), (23, V.d (.i .i64 (t.records.length : Int))), (24, V.d (.i .i64 (i : Int)))] ([(16, .live (.box 69 [.d (.s t.file.name), .d (.s t.file.format.name), .d (.sl 4 (t.file.format.fields.map q01)), .d (.sl 2 (t.file.keys.map q06)), .d (.b t.file.unique), .d (.sl 2 (t.records.map qbt))]))])) (fun i => i ≤ t.records.length ∧ ((qcs t.file).2 = 0 ∧ t.records.length ≤ 60) ∧ ∀ j, j < i → recE t j = 0) (fun i => t.records.length - i) (0) ?_ ?_ (fun i hi => ?_) <;> (try dsimp only) <;> (try dsimp only at hi))
 | (refine Wnx 5 (i + 1) ?_ ?_ ?_ <;> (try dsimp only))
 | (refine q0j ?_; refine subQ ?_)
 | (subst hK)
 | exact trivial
 all_goals try (intros; assumption)
 all_goals try refine q0w ?_
 all_goals try replace hp := q0a hp
 all_goals try replace hi := q0a hi
 all_goals try (intros; first | trivial | omega)
 all_goals (try (rw [w64 (by omega) (by omega)]; first | done | omega))
 all_goals clear hC
 all_goals (try simp only [qbfv] at *)
 all_goals first
 | rfl
 | omega
 | (rw [q1x (by assumption)]; done)
 | (rw [q1x (by assumption)]; rfl)
 | exact (q1y (by assumption)).1
 | exact (q1y (by assumption)).2
 | exact hi.2.1.1
 | exact hi.2.1.2
 | (rw [qo9 hi.2.1 hi.2.2 (by omega) (by unfold recE; simp_all)]; unfold recE; simp_all; done)
 | (rw [qo9 hi.2.1 hi.2.2 (by omega) (by unfold recE; simp_all)]; done)
 | exact qex hi.2.2 (by unfold recE; simp_all)
 | (rw [qsf hi.2.1 hi.2.2 (by omega)]; done)
 | (intro d hd; first | (subst hd; exact ⟨rfl, by simp [D.cells, D.one]⟩) | (rcases hd with rfl | rfl <;> exact ⟨rfl, by simp [D.cells, D.one]⟩) | (rcases hd with rfl | rfl | rfl <;> exact ⟨rfl, by simp [D.cells, D.one]⟩) | (rcases hd with rfl | rfl | rfl | rfl <;> exact ⟨rfl, by simp [D.cells, D.one]⟩))
end
def cfg84 : Cfg := mkC 11 q71
theorem qbov : cfg84.pins = [] ∧ cfg84.P = Tryz.prog ∧ cfg84.N = 11 ∧ cfg84.ti 97 = none ∧ cfg84.T 97 = e97 ∧ cfg84.mv 97 = (fun _ => []) := by and_intros <;> exact rfl
section
attribute [local go_sem] qbov e97
attribute [local go_sem] q0c q0y qdn qd7 q0s q0x q05 qba qcv qcw
theorem qbz3 (hC : COk cfg84) (t : Table) (hp : (t.file.format.fields.length ≤ 1000000 ∧ t.file.keys.length ≤ 1000000 ∧ t.records.length ≤ 1000000)) : Sem Tryz.prog 84 [.d (q0c t)] (.d (.i .i64 (qbd t).2)) := by
 refine q0g (C := cfg84) (rs := [.tmp 2]) (fun _ => []) Tryz.func84 rfl rfl rfl rfl rfl rfl ?_
 refine inQ ?_
 repeat' first
 | (with_reducible first | apply q0n | apply q0d | apply Wsq | apply Wbk | apply Wsk | apply Wex | apply Wrt | apply q0o | apply q0p | apply q0e | apply q0f | refine q0b rfl ?_ | apply q0q | apply q0r | apply And.intro)
 | (with_reducible refine Wrn hC ?_; intro K hK)
 | ((with_reducible first | refine q0u ?_ | refine q0m ?_); refine siQ ?_; (try simp (disch := omega) only [w64, wu8]))
 | ((first | refine Wcd rfl (fun h => ?_) fun h => ?_ | refine Wcu rfl (fun h => ?_) ?_ | refine Wcn rfl ?_ fun h => ?_) <;> (try replace h := q0a h) <;> try (exfalso; first | omega | exact absurd h (by decide)))
 | (refine q0j ?_; refine subQ ?_)
 | (subst hK)
 | exact trivial
 all_goals try (intros; assumption)
 all_goals try refine q0w ?_
 all_goals try replace hp := q0a hp
 all_goals try (intros; first | trivial | omega)
 all_goals (try (rw [w64 (by omega) (by omega)]; first | done | omega))
end
def cfg71 : Cfg := mkC 8 q72
theorem qbow : cfg71.pins = [] ∧ cfg71.P = Tryz.prog ∧ cfg71.N = 8 := ⟨rfl, rfl, rfl⟩
section
attribute [local go_sem] qbow
attribute [local go_sem] q0c q0y qdn qd7 q0s q0x q05 qba qcv qcw
theorem qbz4 (hC : COk cfg71) (l : List Field) (hp : l.length ≤ 1000000) : Sem Tryz.prog 71 [.d (.sl 4 (l.map q01))] (.own 128 4 (l.map q01)) := by
 refine q0g (C := cfg71) (rs := [.tmp 2]) (fun _ => [(0, 128, 4)]) Tryz.func71 rfl rfl rfl rfl rfl rfl ?_
 refine inQ ?_
 repeat' first
 | (with_reducible first | apply q0n | apply q0d | apply Wsq | apply Wbk | apply Wsk | apply Wex | apply Wrt | apply q0o | apply q0p | apply q0e | apply q0f | refine q0b rfl ?_ | apply q0q | apply q0r | apply And.intro)
 | (with_reducible refine Wrn hC ?_; intro K hK)
 | ((with_reducible first | refine q0u ?_ | refine q0m ?_); refine siQ ?_; (try simp (disch := omega) only [w64, wu8]))
 | ((first | refine Wcd rfl (fun h => ?_) fun h => ?_ | refine Wcu rfl (fun h => ?_) ?_ | refine Wcn rfl ?_ fun h => ?_) <;> (try replace h := q0a h) <;> try (exfalso; first | omega | exact absurd h (by decide)))
 | (refine q0j ?_; refine subQ ?_)
 | (subst hK)
 | exact trivial
 all_goals try (intros; assumption)
 all_goals try refine q0w ?_
 all_goals try replace hp := q0a hp
 all_goals try (intros; first | trivial | omega)
 all_goals (try (rw [w64 (by omega) (by omega)]; first | done | omega))
 all_goals first | omega | (simp_all [dles]; done)
end
def cfg72 : Cfg := mkC 8 q73
theorem qbox : cfg72.pins = [] ∧ cfg72.P = Tryz.prog ∧ cfg72.N = 8 := ⟨rfl, rfl, rfl⟩
section
attribute [local go_sem] qbox
attribute [local go_sem] q0c q0y qdn qd7 q0s q0x q05 qba qcv qcw
theorem qbz5 (hC : COk cfg72) (l : List KField) (hp : l.length ≤ 1000000) : Sem Tryz.prog 72 [.d (.sl 2 (l.map q06))] (.own 131 2 (l.map q06)) := by
 refine q0g (C := cfg72) (rs := [.tmp 2]) (fun _ => [(0, 131, 2)]) Tryz.func72 rfl rfl rfl rfl rfl rfl ?_
 refine inQ ?_
 repeat' first
 | (with_reducible first | apply q0n | apply q0d | apply Wsq | apply Wbk | apply Wsk | apply Wex | apply Wrt | apply q0o | apply q0p | apply q0e | apply q0f | refine q0b rfl ?_ | apply q0q | apply q0r | apply And.intro)
 | (with_reducible refine Wrn hC ?_; intro K hK)
 | ((with_reducible first | refine q0u ?_ | refine q0m ?_); refine siQ ?_; (try simp (disch := omega) only [w64, wu8]))
 | ((first | refine Wcd rfl (fun h => ?_) fun h => ?_ | refine Wcu rfl (fun h => ?_) ?_ | refine Wcn rfl ?_ fun h => ?_) <;> (try replace h := q0a h) <;> try (exfalso; first | omega | exact absurd h (by decide)))
 | (refine q0j ?_; refine subQ ?_)
 | (subst hK)
 | exact trivial
 all_goals try (intros; assumption)
 all_goals try refine q0w ?_
 all_goals try replace hp := q0a hp
 all_goals try (intros; first | trivial | omega)
 all_goals (try (rw [w64 (by omega) (by omega)]; first | done | omega))
 all_goals first | omega | (simp_all [dles]; done)
end
def cfg73 : Cfg := mkC 8 q74
theorem qboy : cfg73.pins = [] ∧ cfg73.P = Tryz.prog ∧ cfg73.N = 8 := ⟨rfl, rfl, rfl⟩
section
attribute [local go_sem] qboy
attribute [local go_sem] q0c q0y qdn qd7 q0s q0x q05 qba qcv qcw
theorem qbz6 (hC : COk cfg73) (l : List Rec) (hp : l.length ≤ 1000000) : Sem Tryz.prog 73 [.d (.sl 2 (l.map qbt))] (.own 71 2 (l.map qbt)) := by
 refine q0g (C := cfg73) (rs := [.tmp 2]) (fun _ => [(0, 71, 2)]) Tryz.func73 rfl rfl rfl rfl rfl rfl ?_
 refine inQ ?_
 repeat' first
 | (with_reducible first | apply q0n | apply q0d | apply Wsq | apply Wbk | apply Wsk | apply Wex | apply Wrt | apply q0o | apply q0p | apply q0e | apply q0f | refine q0b rfl ?_ | apply q0q | apply q0r | apply And.intro)
 | (with_reducible refine Wrn hC ?_; intro K hK)
 | ((with_reducible first | refine q0u ?_ | refine q0m ?_); refine siQ ?_; (try simp (disch := omega) only [w64, wu8]))
 | ((first | refine Wcd rfl (fun h => ?_) fun h => ?_ | refine Wcu rfl (fun h => ?_) ?_ | refine Wcn rfl ?_ fun h => ?_) <;> (try replace h := q0a h) <;> try (exfalso; first | omega | exact absurd h (by decide)))
 | (refine q0j ?_; refine subQ ?_)
 | (subst hK)
 | exact trivial
 all_goals try (intros; assumption)
 all_goals try refine q0w ?_
 all_goals try replace hp := q0a hp
 all_goals try (intros; first | trivial | omega)
 all_goals (try (rw [w64 (by omega) (by omega)]; first | done | omega))
 all_goals first | omega | (simp_all [dles]; done)
end
def cfg86 : Cfg := mkC 50 q75
theorem qboz : cfg86.pins = [] ∧ cfg86.P = Tryz.prog ∧ cfg86.N = 50 ∧ cfg86.T 83 = e83 ∧ cfg86.T 85 = e85 ∧ cfg86.ti = (fun _ => none) ∧ cfg86.mv = fun _ _ => [] := by and_intros <;> exact rfl
section
attribute [local go_sem] qboz e83 e85
attribute [local go_sem] q0c q0y qdn qd7 q0s q0x q05 qba qcv qcw
theorem qbz7 (hC : COk cfg86) (t : Table) (c : Change) (hp : 1 ≤ c.rrn ∧ c.rrn ≤ (t.records.length : Int) + 1 ∧ t.records.length ≤ 1000000) : Sem Tryz.prog 86 [.d (q0c t), .d (q0s c)] (.d (.i .i64 (qgu t c))) := by
 refine q0g (C := cfg86) (rs := [.tmp 4]) (fun _ => []) Tryz.func86 rfl rfl rfl rfl rfl rfl ?_
 refine inQ ?_
 repeat' first
 | (with_reducible first | apply q0n | apply q0d | apply Wsq | apply Wbk | apply Wsk | apply Wex | apply Wrt | apply q0o | apply q0p | apply q0e | apply q0f | refine q0b rfl ?_ | apply q0q | apply q0r | apply And.intro)
 | (with_reducible first | (refine Wrn hC ?_; intro K hK) | (refine Wdr hC (by kernel_rfl) ?_; intro K hK))
 | ((with_reducible first | refine q0u ?_ | refine qbu ?_ | refine q0m ?_); refine siQ ?_; (try simp (disch := omega) only [w64, wu8]))
 | (with_reducible refine qbh (by kernel_rfl) ?_)
 | ((first | refine Wcd rfl (fun h => ?_) fun h => ?_ | refine Wcu rfl (fun h => ?_) ?_ | refine Wcn rfl ?_ fun h => ?_) <;> (try replace h := q0a h) <;> try (exfalso; first | omega | exact absurd h (by decide)))
 | (refine q0j ?_; refine subQ ?_)
 | (subst hK)
 | exact trivial
 all_goals try (intros; assumption)
 all_goals try refine q0w ?_
 all_goals try replace hp := q0a hp
 all_goals try (intros; first | trivial | omega)
 all_goals (try (rw [w64 (by omega) (by omega)]; first | done | omega))
 all_goals clear hC
 all_goals first
 | omega
 | (intro d hd; first | (subst hd; exact ⟨rfl, by simp [D.cells, D.one]⟩) | (rcases hd with rfl | rfl <;> exact ⟨rfl, by simp [D.cells, D.one]⟩) | (rcases hd with rfl | rfl | rfl <;> exact ⟨rfl, by simp [D.cells, D.one]⟩) | (rcases hd with rfl | rfl | rfl | rfl <;> exact ⟨rfl, by simp [D.cells, D.one]⟩))
 | (unfold qgu qho qkj; simp_all; done)
end
def cfg54 : Cfg := mkC 87 q76
theorem qbo0 : cfg54.pins = [] ∧ cfg54.P = Tryz.prog ∧ cfg54.N = 87 ∧ cfg54.T 83 = e83 ∧ cfg54.T 84 = e84 ∧ cfg54.T 85 = e85 ∧ cfg54.T 86 = e86 ∧ cfg54.T 87 = e87 ∧ cfg54.ti = (fun _ => none) ∧ cfg54.mv = fun _ _ => [] := by and_intros <;> exact rfl
section
attribute [local go_sem] qbo0 e83 e84 e85 e86 e87
attribute [local go_sem] q0c q0y qdn qd7 q0s q0x q05 qba qcv qcw List.length_set Nat.le_refl
theorem qbz8 (hC : COk cfg54) (t : Table) (c : Change) (hp : (t.file.format.fields.length ≤ 1000000 ∧ t.file.keys.length ≤ 1000000 ∧ t.records.length ≤ 1000000)) : Sem Tryz.prog 54 [.d (q0c t), .d (q0s c)] (.d (.i .i64 (qc7 t c))) := by
 refine q0g (C := cfg54) (rs := [.tmp 4]) (fun _ => []) Tryz.func54 rfl rfl rfl rfl rfl rfl ?_
 refine inQ ?_
 repeat' first
 | (with_reducible first | apply q0n | apply q0d | apply Wsq | apply Wbk | apply Wsk | apply Wex | apply Wrt | apply q0o | apply q0p | apply q0e | apply q0f | refine q0b rfl ?_ | apply q0q | apply q0r | apply And.intro)
 | (with_reducible first | (refine Wrn hC ?_; intro K hK) | (refine Wdr hC (by kernel_rfl) ?_; intro K hK))
 | ((with_reducible first | refine q0u ?_ | refine qbu ?_ | refine q0m ?_); refine siQ ?_; (try simp (disch := omega) only [w64, wu8]))
 | (with_reducible refine qbh (by kernel_rfl) ?_)
 | ((first | refine Wcd rfl (fun h => ?_) fun h => ?_ | refine Wcu rfl (fun h => ?_) ?_ | refine Wcn rfl ?_ fun h => ?_) <;> (try replace h := q0a h) <;> try (exfalso; first | omega | exact absurd h (by decide)))
 | (refine q0j ?_; refine subQ ?_)
 | (subst hK)
 | exact trivial
 all_goals try (intros; assumption)
 all_goals try refine q0w ?_
 all_goals try replace hp := q0a hp
 all_goals try (intros; first | trivial | omega)
 all_goals (try (rw [w64 (by omega) (by omega)]; first | done | omega))
 all_goals clear hC
 all_goals (try simp only [qbf0 t c (by assumption)] at *)
 all_goals (try simp only [qbf1 t c (by assumption)] at *)
 all_goals first
 | omega
 | (intro d hd; rcases hd with rfl | rfl | rfl | rfl | rfl <;> exact ⟨rfl, by simp [D.cells, D.one]⟩)
 | exact qkg (by assumption)
 | exact (qqx (by assumption)).1
 | exact (qqx (by assumption)).2
 | exact q19 (by assumption) (by assumption)
 | exact q2a (by assumption) (by assumption)
end
def cfg55 : Cfg := mkC 29 q77
theorem qbo1 : cfg55.pins = [] ∧ cfg55.P = Tryz.prog ∧ cfg55.N = 29 ∧ cfg55.ti 73 = none ∧ cfg55.T 73 = e73 ∧ cfg55.mv 73 = (fun _ => []) := by and_intros <;> exact rfl
section
attribute [local go_sem] qbo1 e73
attribute [local go_sem] q0c q0y qdn qd7 q0s q0x q05 qba qcv qcw List.length_set Nat.le_refl
theorem qbz9 (hC : COk cfg55) (t : Table) (n : Int) (r : Rec) (hp : 1 ≤ n ∧ n ≤ (t.records.length : Int) + 1 ∧ t.records.length ≤ 1000000) : Sem Tryz.prog 55 [.d (q0c t), .d (.i .i64 n), .d (qbt r)] (.d (q0c (qek t n r))) := by
 refine q0g (C := cfg55) (rs := [.cell 6 69]) (fun _ => []) Tryz.func55 rfl rfl rfl rfl rfl rfl ?_
 refine inQ ?_
 repeat' first
 | (with_reducible first | apply q0n | apply q0d | apply Wsq | apply Wbk | apply Wsk | apply Wex | apply Wrt | apply q0o | apply q0p | apply q0e | apply q0f | refine q0b rfl ?_ | apply q0q | apply q0r | apply And.intro)
 | (with_reducible refine Wrn hC ?_; intro K hK)
 | ((with_reducible first | refine q0u ?_ | refine q0m ?_); refine siQ ?_; (try simp (disch := omega) only [w64, wu8]))
 | ((first | refine Wcd rfl (fun h => ?_) fun h => ?_ | refine Wcu rfl (fun h => ?_) ?_ | refine Wcn rfl ?_ fun h => ?_) <;> (try replace h := q0a h) <;> try (exfalso; first | omega | exact absurd h (by decide)))
 | (refine q0j ?_; refine subQ ?_)
 | (subst hK)
 | exact trivial
 all_goals try (intros; assumption)
 all_goals try refine q0w ?_
 all_goals try replace hp := q0a hp
 all_goals try (intros; first | trivial | omega)
 all_goals (try (rw [w64 (by omega) (by omega)]; first | done | omega))
 all_goals clear hC
 all_goals first
 | omega
 | rfl
 | exact q0k _
 | exact qhi (qy4 (by assumption))
 | exact qhi (qy5 (by assumption))
 | (intro d hd; first | (subst hd; exact ⟨rfl, by simp [D.cells, D.one]⟩) | (rcases hd with rfl | rfl <;> exact ⟨rfl, by simp [D.cells, D.one]⟩) | (rcases hd with rfl | rfl | rfl <;> exact ⟨rfl, by simp [D.cells, D.one]⟩) | (rcases hd with rfl | rfl | rfl | rfl <;> exact ⟨rfl, by simp [D.cells, D.one]⟩))
end
def cfg30 : Cfg := mkC 24 q78
theorem qbo2 : cfg30.pins = [] ∧ cfg30.P = Tryz.prog ∧ cfg30.N = 24 ∧ cfg30.T 54 = e54 ∧ cfg30.T 55 = e55 ∧ cfg30.ti = (fun _ => none) ∧ cfg30.mv = fun _ _ => [] := by and_intros <;> exact rfl
section
attribute [local go_sem] qbo2 e54 e55
attribute [local go_sem] q0c q0y qdn qd7 q0s q0x q05 qba qcv qcw List.length_set Nat.le_refl
theorem qb0a (hC : COk cfg30) (t : Table) (c : Change) (hp : (t.file.format.fields.length ≤ 1000000 ∧ t.file.keys.length ≤ 1000000 ∧ t.records.length ≤ 1000000)) : Sem Tryz.prog 30 [.d (q0c t), .d (q0s c)] (.tup [.d (q0c (qgv t c).1), .d (.i .i64 (qgv t c).2)]) := by
 refine q0g (C := cfg30) (rs := [.cell 4 69, .tmp 5]) (fun _ => []) Tryz.func30 rfl rfl rfl rfl rfl rfl ?_
 refine inQ ?_
 repeat' first
 | (with_reducible first | apply q0n | apply q0d | apply Wsq | apply Wbk | apply Wsk | apply Wex | apply Wrt | apply q0o | apply q0p | apply q0e | apply q0f | refine q0b rfl ?_ | apply q0q | apply q0r | apply And.intro)
 | (with_reducible refine Wrn hC ?_; intro K hK)
 | ((with_reducible first | refine q0u ?_ | refine q0m ?_); refine siQ ?_; (try simp (disch := omega) only [w64, wu8]))
 | ((first | refine Wcd rfl (fun h => ?_) fun h => ?_ | refine Wcu rfl (fun h => ?_) ?_ | refine Wcn rfl ?_ fun h => ?_) <;> (try replace h := q0a h) <;> try (exfalso; first | omega | exact absurd h (by decide)))
 | (refine q0j ?_; refine subQ ?_)
 | (subst hK)
 | exact trivial
 all_goals try (intros; assumption)
 all_goals try refine q0w ?_
 all_goals try replace hp := q0a hp
 all_goals try (intros; first | trivial | omega)
 all_goals (try (rw [w64 (by omega) (by omega)]; first | done | omega))
 all_goals clear hC
 all_goals first
 | omega
 | exact (qnz (by assumption)).1
 | exact (qnz (by assumption)).2
 | (rw [qm4 (by assumption)]; done)
 | (rw [qm4 (by assumption)]; rfl)
 | (rw [qhk (by assumption)]; done)
 | (rw [qhk (by assumption)]; rfl)
 | (rw [qhk (by assumption)]; exact q0k _)
end
end
end Go.Ev
