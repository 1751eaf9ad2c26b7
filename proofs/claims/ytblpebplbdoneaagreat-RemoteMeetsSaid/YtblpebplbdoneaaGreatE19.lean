/- Tools and contracts under the laws of this seat: Drc149 to Drc119. -/
import Derived.Test.YtblpebplbdoneaaGreatE09
set_option linter.unusedVariables false
set_option linter.unusedSimpArgs false
namespace Go.Ev
noncomputable section
open Go.Proofs Ty
set_option maxRecDepth 10000
set_option maxHeartbeats 4000000
attribute [local go_sem] qbi qbl qck qdc qce qdr qd3 qet Int.toNat_natCast qdq qd4 qee qb9 qc2 qbx qca decI List.length_map nc0 qbj qbo q01 qb7 qdh qd5 qb1 qb8 qem qfe q06 qbz qcx qdl qcb qcm qd6 qen qbt qdm qeo qff qb3 qbr qc1 qdj qcz qeq qdk qc0 qer qdi qcy qep List.length_take qdd Int.toNat_zero Nat.sub_zero List.drop_zero
attribute [local go_sem ←] List.map_take List.map_drop
def cfg149 : Cfg := mkC 12 q22
theorem qbig : cfg149.pins = [] ∧ cfg149.P = Tryz.prog ∧ cfg149.N = 12 ∧ cfg149.T 106 = e106 ∧ cfg149.T 173 = e173 ∧ cfg149.ti = (fun _ => none) ∧ cfg149.mv = fun _ _ => [] := by and_intros <;> exact rfl
section
attribute [local go_sem] qbig e106 e173
theorem qbu4 (hC : COk cfg149) (f : Fmt) (hp : f.fields.length ≤ 1000000) : Sem Tryz.prog 149 [.d (qb1 f)] (.tup [.d (.i .i64 (qco f).1), .d (.i .i64 (qco f).2)]) := by
 refine q0g (C := cfg149) (rs := [.tmp 2, .tmp 3]) (fun _ => []) Tryz.func149 rfl rfl rfl rfl rfl rfl ?_
 refine inQ ?_
 repeat' first
 | (with_reducible first | apply q0n | apply q0d | apply Wsq | apply Wbk | apply Wsk | apply Wex | apply Wrt | apply q0o | apply q0p | apply q0e | apply q0f | refine q0b rfl ?_ | apply q0q | apply q0r | apply And.intro)
 | (with_reducible refine Wrn hC ?_; intro K hK)
 | ((with_reducible first | refine q0u ?_ | refine q0m ?_); refine siQ ?_; (try simp (disch := omega) only [w64, wu8]))
 | ((first | refine Wcd rfl (fun h => ?_) fun h => ?_ | refine Wcu rfl (fun h => ?_) ?_ | refine Wcn rfl ?_ fun h => ?_) <;> (try replace h := q0a h) <;> try (exfalso; first | omega | exact absurd h (by decide)))
 | (refine q0j ?_; refine subQ ?_)
 | (subst hK)
 | exact trivial
 all_goals try (intros; assumption)
 all_goals try refine q0w ?_
 all_goals try replace hp := q0a hp
 all_goals try (intros; first | trivial | omega)
 all_goals (try (rw [w64 (by omega) (by omega)]; first | done | omega))
 all_goals clear hC
 all_goals first
 | omega
 | rfl
 | (rw [qbgf (by assumption)]; done)
 | (rw [q86 (by simp_all)]; done)
end
def cfg150 : Cfg := mkC 47 q23
theorem qbih : cfg150.pins = [] ∧ cfg150.P = Tryz.prog ∧ cfg150.N = 47 ∧ cfg150.ti 174 = none ∧ cfg150.T 174 = e174 ∧ cfg150.mv 174 = (fun _ => []) := by and_intros <;> exact rfl
section
attribute [local go_sem] qbih e174
theorem qbu5 (hC : COk cfg150) (f : File) (hp : f.format.fields.length ≤ 1000000 ∧ f.keys.length ≤ 1000000) : Sem Tryz.prog 150 [.d (qcb f)] (.tup [.d (.i .i64 (qlp f).1), .d (.i .i64 (qlp f).2)]) := by
 refine q0g (C := cfg150) (rs := [.tmp 2, .tmp 3]) (fun _ => []) Tryz.func150 rfl rfl rfl rfl rfl rfl ?_
 refine inQ ?_
 repeat' first
 | (with_reducible first | apply q0n | apply q0d | apply Wsq | apply Wbk | apply Wsk | apply Wex | apply Wrt | apply q0o | apply q0p | apply q0e | apply q0f | refine q0b rfl ?_ | apply q0q | apply q0r | apply And.intro)
 | (with_reducible first | (refine Wrn hC ?_; intro K hK) | (refine Wdr hC (by kernel_rfl) ?_; intro K hK))
 | ((with_reducible first | refine q0u ?_ | refine qbu ?_ | refine q0m ?_); refine siQ ?_; (try simp (disch := omega) only [w64, wu8]))
 | (with_reducible refine qbh (by kernel_rfl) ?_)
 | ((first | refine Wcd rfl (fun h => ?_) fun h => ?_ | refine Wcu rfl (fun h => ?_) ?_ | refine Wcn rfl ?_ fun h => ?_) <;> (try replace h := q0a h) <;> try (exfalso; first | omega | exact absurd h (by decide)))
 | (refine Wlp 4 rfl (ι := Nat) (fun i => mkS [(1, V.ptr 16 0), (4, V.d (.i .i64 (i : Int)))] ([(16, .live (.box 66 [.d (.s f.name), .d (.s f.format.name), .d (.sl 4 (f.format.fields.map q01)), .d (.sl 2 (f.keys.map q06)), .d (.b f.unique)]))])) (fun i => i ≤ f.keys.length ∧ f.keys.length ≤ 4 ∧ ∀ j, j < i → keyE f j = 0) (fun i => f.keys.length - i) (0) ?_ ?_ (fun i hi => ?_) <;> (try dsimp only) <;> (try dsimp only at hi))
 | (refine Wnx 4 (i + 1) ?_ ?_ ?_ <;> (try dsimp only))
 | (refine Wlp 9 rfl (ι := Nat) (fun k => mkS [(1, V.ptr 16 0), (4, V.d (.i .i64 (i : Int))), (5, V.d (.i .i64 (k : Int)))] ([(16, .live (.box 66 [.d (.s f.name), .d (.s f.format.name), .d (.sl 4 (f.format.fields.map q01)), .d (.sl 2 (f.keys.map q06)), .d (.b f.unique)]))])) (fun k => k ≤ i ∧ ∀ j, j < k → qqa f i j = 0) (fun k => i - k) (0) ?_ ?_ (fun k hk => ?_) <;> (try dsimp only) <;> (try dsimp only at hk))
 | (refine Wnx 9 (k + 1) ?_ ?_ ?_ <;> (try dsimp only))
 | (refine q0j ?_; refine subQ ?_)
 | (subst hK)
 | exact trivial
 all_goals try (intros; assumption)
 all_goals try refine q0w ?_
 all_goals try replace hp := q0a hp
 all_goals try replace hi := q0a hi
 all_goals try replace hk := q0a hk
 all_goals try (intros; first | trivial | omega)
 all_goals (try (rw [w64 (by omega) (by omega)]; first | done | omega))
 all_goals clear hC
 all_goals first
 | omega
 | rfl
 | (rw [qbtd (by omega)]; done)
 | (rw [q2p hi.2.1 hi.2.2 (by omega) (by rw [q52 (by assumption)]; decide)]; first | done | exact q52 (by assumption))
 | (rw [q2p hi.2.1 hi.2.2 (by omega) (by rw [qbb8 (by assumption) (k := k) (by omega) (by omega) (by assumption)]; decide)]; first | done | exact qbb8 (by assumption) (k := k) (by omega) (by omega) (by assumption))
 | exact qex hk.2 (qbzh (by assumption))
 | exact qex hi.2.2 (qbzi (by assumption) hk.2 (by omega))
 | (rw [qbgj hi.2.1 hi.2.2 (by omega)]; done)
end
def cfg128 : Cfg := mkC 23 q24
theorem qbii : cfg128.pins = [] ∧ cfg128.P = Tryz.prog ∧ cfg128.N = 23 ∧ cfg128.T 106 = e106 ∧ cfg128.T 149 = e149 ∧ cfg128.T 150 = e150 ∧ cfg128.ti = (fun _ => none) ∧ cfg128.mv = fun _ _ => [] := by and_intros <;> exact rfl
section
attribute [local go_sem] qbii e106 e149 e150
theorem qbu6 (hC : COk cfg128) (f : File) (hp : f.format.fields.length ≤ 1000000 ∧ f.keys.length ≤ 1000000) : Sem Tryz.prog 128 [.d (qcb f)] (.tup [.d (.i .i64 (qcs f).1), .d (.i .i64 (qcs f).2)]) := by
 refine q0g (C := cfg128) (rs := [.tmp 2, .tmp 3]) (fun _ => []) Tryz.func128 rfl rfl rfl rfl rfl rfl ?_
 refine inQ ?_
 repeat' first
 | (with_reducible first | apply q0n | apply q0d | apply Wsq | apply Wbk | apply Wsk | apply Wex | apply Wrt | apply q0o | apply q0p | apply q0e | apply q0f | refine q0b rfl ?_ | apply q0q | apply q0r | apply And.intro)
 | (with_reducible refine Wrn hC ?_; intro K hK)
 | ((with_reducible first | refine q0u ?_ | refine q0m ?_); refine siQ ?_; (try simp (disch := omega) only [w64, wu8]))
 | ((first | refine Wcd rfl (fun h => ?_) fun h => ?_ | refine Wcu rfl (fun h => ?_) ?_ | refine Wcn rfl ?_ fun h => ?_) <;> (try replace h := q0a h) <;> try (exfalso; first | omega | exact absurd h (by decide)))
 | (refine q0j ?_; refine subQ ?_)
 | (subst hK)
 | exact trivial
 all_goals try (intros; assumption)
 all_goals try refine q0w ?_
 all_goals try replace hp := q0a hp
 all_goals try (intros; first | trivial | omega)
 all_goals (try (rw [w64 (by omega) (by omega)]; first | done | omega))
 all_goals clear hC
 all_goals first
 | omega
 | rfl
 | (rw [qbb6 (by assumption)]; done)
 | (have h0 : qcn f.name = true := by assumption
    rw [qbgi (by rw [h0]; decide) (by assumption)]; done)
 | (have h0 : qcn f.name = true := by assumption
    rw [qbb7 (by rw [h0]; decide) (by assumption)]; done)
end
def cfg115 : Cfg := mkC 11 q25
theorem qbij : cfg115.pins = [] ∧ cfg115.P = Tryz.prog ∧ cfg115.N = 11 ∧ cfg115.ti 128 = none ∧ cfg115.T 128 = e128 ∧ cfg115.mv 128 = (fun _ => []) := by and_intros <;> exact rfl
section
attribute [local go_sem] qbij e128
theorem qbu7 (hC : COk cfg115) (f : File) (hp : f.format.fields.length ≤ 1000000 ∧ f.keys.length ≤ 1000000) : Sem Tryz.prog 115 [.d (qcb f)] (.d (.i .i64 (qcs f).2)) := by
 refine q0g (C := cfg115) (rs := [.tmp 2]) (fun _ => []) Tryz.func115 rfl rfl rfl rfl rfl rfl ?_
 refine inQ ?_
 repeat' first
 | (with_reducible first | apply q0n | apply q0d | apply Wsq | apply Wbk | apply Wsk | apply Wex | apply Wrt | apply q0o | apply q0p | apply q0e | apply q0f | refine q0b rfl ?_ | apply q0q | apply q0r | apply And.intro)
 | (with_reducible refine Wrn hC ?_; intro K hK)
 | ((with_reducible first | refine q0u ?_ | refine q0m ?_); refine siQ ?_; (try simp (disch := omega) only [w64, wu8]))
 | ((first | refine Wcd rfl (fun h => ?_) fun h => ?_ | refine Wcu rfl (fun h => ?_) ?_ | refine Wcn rfl ?_ fun h => ?_) <;> (try replace h := q0a h) <;> try (exfalso; first | omega | exact absurd h (by decide)))
 | (refine q0j ?_; refine subQ ?_)
 | (subst hK)
 | exact trivial
 all_goals try (intros; assumption)
 all_goals try refine q0w ?_
 all_goals try replace hp := q0a hp
 all_goals try (intros; first | trivial | omega)
 all_goals (try (rw [w64 (by omega) (by omega)]; first | done | omega))
end
def cfg103 : Cfg := mkC 5 q26
theorem qbik : cfg103.pins = [] ∧ cfg103.P = Tryz.prog ∧ cfg103.N = 5 ∧ cfg103.ti 115 = none ∧ cfg103.T 115 = e115 ∧ cfg103.mv 115 = (fun _ => []) := by and_intros <;> exact rfl
section
attribute [local go_sem] qbik e115
theorem qbu8 (hC : COk cfg103) (f : File) (hp : f.format.fields.length ≤ 1000000 ∧ f.keys.length ≤ 1000000) : Sem Tryz.prog 103 [.d (qcb f)] (.d (.i .i64 (qcs f).2)) := by
 refine q0g (C := cfg103) (rs := [.tmp 2]) (fun _ => []) Tryz.func103 rfl rfl rfl rfl rfl rfl ?_
 refine inQ ?_
 repeat' first
 | (with_reducible first | apply q0n | apply q0d | apply Wsq | apply Wbk | apply Wsk | apply Wex | apply Wrt | apply q0o | apply q0p | apply q0e | apply q0f | refine q0b rfl ?_ | apply q0q | apply q0r | apply And.intro)
 | (with_reducible refine Wrn hC ?_; intro K hK)
 | ((with_reducible first | refine q0u ?_ | refine q0m ?_); refine siQ ?_; (try simp (disch := omega) only [w64, wu8]))
 | ((first | refine Wcd rfl (fun h => ?_) fun h => ?_ | refine Wcu rfl (fun h => ?_) ?_ | refine Wcn rfl ?_ fun h => ?_) <;> (try replace h := q0a h) <;> try (exfalso; first | omega | exact absurd h (by decide)))
 | (refine q0j ?_; refine subQ ?_)
 | (subst hK)
 | exact trivial
 all_goals try (intros; assumption)
 all_goals try refine q0w ?_
 all_goals try replace hp := q0a hp
 all_goals try (intros; first | trivial | omega)
 all_goals (try (rw [w64 (by omega) (by omega)]; first | done | omega))
end
def cfg129 : Cfg := mkC 11 q27
theorem qbil : cfg129.pins = [] ∧ cfg129.P = Tryz.prog ∧ cfg129.N = 11 ∧ cfg129.ti 149 = none ∧ cfg129.T 149 = e149 ∧ cfg129.mv 149 = (fun _ => []) := by and_intros <;> exact rfl
section
attribute [local go_sem] qbil e149
theorem qbu9 (hC : COk cfg129) (f : Fmt) (hp : f.fields.length ≤ 1000000) : Sem Tryz.prog 129 [.d (qb1 f)] (.d (.i .i64 (qco f).2)) := by
 refine q0g (C := cfg129) (rs := [.tmp 2]) (fun _ => []) Tryz.func129 rfl rfl rfl rfl rfl rfl ?_
 refine inQ ?_
 repeat' first
 | (with_reducible first | apply q0n | apply q0d | apply Wsq | apply Wbk | apply Wsk | apply Wex | apply Wrt | apply q0o | apply q0p | apply q0e | apply q0f | refine q0b rfl ?_ | apply q0q | apply q0r | apply And.intro)
 | (with_reducible refine Wrn hC ?_; intro K hK)
 | ((with_reducible first | refine q0u ?_ | refine q0m ?_); refine siQ ?_; (try simp (disch := omega) only [w64, wu8]))
 | ((first | refine Wcd rfl (fun h => ?_) fun h => ?_ | refine Wcu rfl (fun h => ?_) ?_ | refine Wcn rfl ?_ fun h => ?_) <;> (try replace h := q0a h) <;> try (exfalso; first | omega | exact absurd h (by decide)))
 | (refine q0j ?_; refine subQ ?_)
 | (subst hK)
 | exact trivial
 all_goals try (intros; assumption)
 all_goals try refine q0w ?_
 all_goals try replace hp := q0a hp
 all_goals try (intros; first | trivial | omega)
 all_goals (try (rw [w64 (by omega) (by omega)]; first | done | omega))
end
def cfg130 : Cfg := mkC 5 q28
theorem qbim : cfg130.pins = [] ∧ cfg130.P = Tryz.prog ∧ cfg130.N = 5 ∧ cfg130.ti 151 = none ∧ cfg130.T 151 = e151 ∧ cfg130.mv 151 = (fun _ => []) := by and_intros <;> exact rfl
section
attribute [local go_sem] qbim e151
theorem qbva (hC : COk cfg130) (f : Fmt) (hp : f.fields.length ≤ 1000000 ∧ (∀ j, j < f.fields.length → qbs (f.fields.getD j q03).type_ = 0)) : Sem Tryz.prog 130 [.d (qb1 f)] (.d (.i .i64 (qfw f))) := by
 refine q0g (C := cfg130) (rs := [.tmp 2]) (fun _ => []) Tryz.func130 rfl rfl rfl rfl rfl rfl ?_
 refine inQ ?_
 repeat' first
 | (with_reducible first | apply q0n | apply q0d | apply Wsq | apply Wbk | apply Wsk | apply Wex | apply Wrt | apply q0o | apply q0p | apply q0e | apply q0f | refine q0b rfl ?_ | apply q0q | apply q0r | apply And.intro)
 | (with_reducible refine Wrn hC ?_; intro K hK)
 | ((with_reducible first | refine q0u ?_ | refine q0m ?_); refine siQ ?_; (try simp (disch := omega) only [w64, wu8]))
 | ((first | refine Wcd rfl (fun h => ?_) fun h => ?_ | refine Wcu rfl (fun h => ?_) ?_ | refine Wcn rfl ?_ fun h => ?_) <;> (try replace h := q0a h) <;> try (exfalso; first | omega | exact absurd h (by decide)))
 | (refine q0j ?_; refine subQ ?_)
 | (subst hK)
 | exact trivial
 all_goals try (intros; assumption)
 all_goals try refine q0w ?_
 all_goals try replace hp := q0a hp
 all_goals try (intros; first | trivial | omega)
 all_goals (try (rw [w64 (by omega) (by omega)]; first | done | omega))
 all_goals first | exact hp.2 | omega
end
def cfg158 : Cfg := mkC 22 q29
theorem qbin : cfg158.pins = [] ∧ cfg158.P = Tryz.prog ∧ cfg158.N = 22 ∧ cfg158.ti 153 = none ∧ cfg158.T 153 = e153 ∧ cfg158.mv 153 = (fun _ => []) := by and_intros <;> exact rfl
section
attribute [local go_sem] qbin e153
theorem qbvb (hC : COk cfg158) (f : Fmt) (a : Int) (hp : f.fields.length ≤ 1000000 ∧ (∀ j, j < f.fields.length → qbs (f.fields.getD j q03).type_ = 0) ∧ 0 ≤ a ∧ a ≤ (f.fields.length : Int)) : Sem Tryz.prog 158 [.d (qb1 f), .d (.i .i64 a)] (.d (.i .i64 (qct f.fields a.toNat))) := by
 refine q0g (C := cfg158) (rs := [.tmp 4]) (fun _ => []) Tryz.func158 rfl rfl rfl rfl rfl rfl ?_
 refine inQ ?_
 repeat' first
 | (with_reducible first | apply q0n | apply q0d | apply Wsq | apply Wbk | apply Wsk | apply Wex | apply Wrt | apply q0o | apply q0p | apply q0e | apply q0f | refine q0b rfl ?_ | apply q0q | apply q0r | apply And.intro)
 | (with_reducible refine Wrn hC ?_; intro K hK)
 | ((with_reducible first | refine q0u ?_ | refine q0m ?_); refine siQ ?_; (try simp (disch := omega) only [w64, wu8]))
 | ((first | refine Wcd rfl (fun h => ?_) fun h => ?_ | refine Wcu rfl (fun h => ?_) ?_ | refine Wcn rfl ?_ fun h => ?_) <;> (try replace h := q0a h) <;> try (exfalso; first | omega | exact absurd h (by decide)))
 | (refine Wlp 3 rfl (ι := Nat) (fun i => mkS [(1, V.d (.i .i64 a)), (2, V.ptr 32 0), (5, V.d (.i .i64 (qct f.fields i))), (6, V.d (.i .i64 (i : Int)))] ([(32, .live (.box 63 [.d (.s f.name), .d (.sl 4 (f.fields.map q01))]))])) (fun i => (i : Int) ≤ a) (fun i => a.toNat - i) (0) ?_ ?_ (fun i hi => ?_) <;> (try dsimp only) <;> (try dsimp only at hi))
 | (refine Wnx 3 (i + 1) ?_ ?_ ?_ <;> (try dsimp only))
 | (refine q0j ?_; refine subQ ?_)
 | (subst hK)
 | exact trivial
 all_goals try (intros; assumption)
 all_goals try refine q0w ?_
 all_goals try replace hp := q0a hp
 all_goals try replace hi := q0a hi
 all_goals try (intros; first | trivial | omega)
 all_goals (try (rw [w64 (by omega) (by omega)]; first | done | omega))
 all_goals (try have O1 := qhd f.fields i)
 all_goals (try have S1 := qmt (hp.2.1 i (by omega)))
 all_goals clear hC
 all_goals first
 | omega
 | rfl
 | exact hp.2.1 i (by omega)
 | (rw [q2o hp.2.1 (by omega), w64 (by omega) (by omega)]; done)
 | (rw [show a.toNat = i by omega]; done)
end
def cfg132 : Cfg := mkC 23 q3a
theorem qbio : cfg132.pins = [] ∧ cfg132.P = Tryz.prog ∧ cfg132.N = 23 ∧ cfg132.T 153 = e153 ∧ cfg132.T 158 = e158 ∧ cfg132.ti = (fun _ => none) ∧ cfg132.mv = fun _ _ => [] := by and_intros <;> exact rfl
section
attribute [local go_sem] qbio e153 e158
theorem qbvc (hC : COk cfg132) (f : Fmt) (s : ByteArray) (a : Int) (hp : f.fields.length ≤ 1000000 ∧ (∀ j, j < f.fields.length → qbs (f.fields.getD j q03).type_ = 0) ∧ 0 ≤ a ∧ a < (f.fields.length : Int) ∧ (s.size : Int) = qfw f) : Sem Tryz.prog 132 [.d (qb1 f), .d (.s s), .d (.i .i64 a)] (.d (.s (qqw f s a.toNat))) := by
 refine q0g (C := cfg132) (rs := [.tmp 6]) (fun _ => []) Tryz.func132 rfl rfl rfl rfl rfl rfl ?_
 refine inQ ?_
 repeat' first
 | (with_reducible first | apply q0n | apply q0d | apply Wsq | apply Wbk | apply Wsk | apply Wex | apply Wrt | apply q0o | apply q0p | apply q0e | apply q0f | refine q0b rfl ?_ | apply q0q | apply q0r | apply And.intro)
 | (refine Wat 2 rfl ?_; have ht := hp.2.1 a.toNat (by omega); have hf := qbgl hp.2.2.2.2 (show a.toNat < f.fields.length by omega) ht; have ho := qhd f.fields a.toNat; have hz := qmt ht; have hw : IntKind.i64.wrap (qct f.fields a.toNat + qfh (f.fields.getD a.toNat q03).type_) = qct f.fields a.toNat + qfh (f.fields.getD a.toNat q03).type_ := (w64 (by omega) (by omega)); have he := qbgk (b := s) ht)
 | (with_reducible first | (refine Whr hC ?_; intro K hK) | (refine Whd hC (by kernel_rfl) ?_; intro K hK))
 | (with_reducible refine Wrn hC ?_; intro K hK)
 | ((with_reducible first | refine q0u ?_ | refine q0m ?_); (first | (simp (maxSteps := 1000000) only [go_sem, ↓reduceIte, reduceCtorEq, Nat.reduceEqDiff, Nat.reduceLT, Nat.reduceLeDiff, Nat.reduceMul, Nat.reduceAdd, Nat.reduceSub, reduceDIte, Nat.reduceBEq, Nat.reduceBNe, hw, he]) | (refine siQ ?_)); (try simp (disch := omega) only [w64, wu8]))
 | ((first | refine Wcd rfl (fun h => ?_) fun h => ?_ | refine Wcu rfl (fun h => ?_) ?_ | refine Wcn rfl ?_ fun h => ?_) <;> (try replace h := q0a h) <;> try (exfalso; first | omega | exact absurd h (by decide)))
 | (refine q0j ?_; refine subQ ?_)
 | (subst hK)
 | exact trivial
 all_goals try (intros; assumption)
 all_goals try refine q0w ?_
 all_goals try replace hp := q0a hp
 all_goals try (intros; first | trivial | omega)
 all_goals (try (rw [w64 (by omega) (by omega)]; first | done | omega))
 all_goals clear hC
 all_goals first
 | omega
 | rfl
 | assumption
 | exact hp.2.1
end
def cfg116 : Cfg := mkC 47 q3b
theorem qbip : cfg116.pins = [] ∧ cfg116.P = Tryz.prog ∧ cfg116.N = 47 ∧ cfg116.T 129 = e129 ∧ cfg116.T 130 = e130 ∧ cfg116.T 131 = e131 ∧ cfg116.T 132 = e132 ∧ cfg116.ti = (fun _ => none) ∧ cfg116.mv = fun _ _ => [] := by and_intros <;> exact rfl
section
attribute [local go_sem] qbip e129 e130 e131 e132
theorem qbvd (hC : COk cfg116) (f : Fmt) (s : ByteArray) (hp : f.fields.length ≤ 1000000) : Sem Tryz.prog 116 [.d (qb1 f), .d (.s s)] (.tup [.d (.i .i64 (qds f s).2.1), .d (.i .i64 (qds f s).2.2)]) := by
 refine q0g (C := cfg116) (rs := [.tmp 4, .tmp 5]) (fun _ => []) Tryz.func116 rfl rfl rfl rfl rfl rfl ?_
 refine inQ ?_
 repeat' first
 | (with_reducible first | apply q0n | apply q0d | apply Wsq | apply Wbk | apply Wsk | apply Wex | apply Wrt | apply q0o | apply q0p | apply q0e | apply q0f | refine q0b rfl ?_ | apply q0q | apply q0r | apply And.intro)
 | (with_reducible first | (refine Wrn hC ?_; intro K hK) | (refine Wdr hC (by kernel_rfl) ?_; intro K hK))
 | ((with_reducible first | refine q0u ?_ | refine qbu ?_ | refine q0m ?_); refine siQ ?_; (try simp (disch := omega) only [w64, wu8]))
 | (with_reducible refine qbh (by kernel_rfl) ?_)
 | ((first | refine Wcd rfl (fun h => ?_) fun h => ?_ | refine Wcu rfl (fun h => ?_) ?_ | refine Wcn rfl ?_ fun h => ?_) <;> (try replace h := q0a h) <;> try (exfalso; first | omega | exact absurd h (by decide)))
 | (refine Wlp 7 rfl (ι := Nat) (fun i => mkS [(1, V.d (.s s)), (2, V.ptr 32 0), (7, V.d (.i .i64 (i : Int)))] ([(32, .live (.box 63 [.d (.s f.name), .d (.sl 4 (f.fields.map q01))]))])) (fun i => i ≤ f.fields.length ∧ ((qco f).2 = 0 ∧ (s.size : Int) = qfw f) ∧ ∀ j, j < i → qlo f s j = 0) (fun i => f.fields.length - i) (0) ?_ ?_ (fun i hi => ?_) <;> (try dsimp only) <;> (try dsimp only at hi))
 | (refine Wnx 7 (i + 1) ?_ ?_ ?_ <;> (try dsimp only))
 | (refine q0j ?_; refine subQ ?_)
 | (subst hK)
 | exact trivial
 all_goals try (intros; assumption)
 all_goals try refine q0w ?_
 all_goals try replace hp := q0a hp
 all_goals try replace hi := q0a hi
 all_goals try (intros; first | trivial | omega)
 all_goals (try (rw [w64 (by omega) (by omega)]; first | done | omega))
 all_goals clear hC
 all_goals first
 | omega
 | rfl
 | exact qzf (by assumption)
 | exact qzf hi.2.1.1
 | exact hi.2.1.2
 | (rw [qtj (by assumption)]; done)
 | (rw [qtk (by assumption) (by assumption)]; done)
 | (rw [qbgm hi.2.1.1 hi.2.1.2 hi.2.2 (by omega) (by assumption)]; first | done | rfl)
 | exact qex hi.2.2 (by assumption)
 | (rw [qbgn hi.2.1.1 hi.2.1.2 hi.2.2 (by omega)]; done)
end
def cfg104 : Cfg := mkC 14 q3c
theorem qbiq : cfg104.pins = [] ∧ cfg104.P = Tryz.prog ∧ cfg104.N = 14 ∧ cfg104.ti 116 = none ∧ cfg104.T 116 = e116 ∧ cfg104.mv 116 = (fun _ => []) := by and_intros <;> exact rfl
section
attribute [local go_sem] qbiq e116
theorem qbve (hC : COk cfg104) (f : Fmt) (s : ByteArray) (hp : f.fields.length ≤ 1000000) : Sem Tryz.prog 104 [.d (qb1 f), .d (.s s)] (.d (.i .i64 (qds f s).2.2)) := by
 refine q0g (C := cfg104) (rs := [.tmp 4]) (fun _ => []) Tryz.func104 rfl rfl rfl rfl rfl rfl ?_
 refine inQ ?_
 repeat' first
 | (with_reducible first | apply q0n | apply q0d | apply Wsq | apply Wbk | apply Wsk | apply Wex | apply Wrt | apply q0o | apply q0p | apply q0e | apply q0f | refine q0b rfl ?_ | apply q0q | apply q0r | apply And.intro)
 | (with_reducible refine Wrn hC ?_; intro K hK)
 | ((with_reducible first | refine q0u ?_ | refine q0m ?_); refine siQ ?_; (try simp (disch := omega) only [w64, wu8]))
 | ((first | refine Wcd rfl (fun h => ?_) fun h => ?_ | refine Wcu rfl (fun h => ?_) ?_ | refine Wcn rfl ?_ fun h => ?_) <;> (try replace h := q0a h) <;> try (exfalso; first | omega | exact absurd h (by decide)))
 | (refine q0j ?_; refine subQ ?_)
 | (subst hK)
 | exact trivial
 all_goals try (intros; assumption)
 all_goals try refine q0w ?_
 all_goals try replace hp := q0a hp
 all_goals try (intros; first | trivial | omega)
 all_goals (try (rw [w64 (by omega) (by omega)]; first | done | omega))
end
def cfg89 : Cfg := mkC 51 q3d
theorem qbpr : cfg89.pins = [] ∧ cfg89.P = Tryz.prog ∧ cfg89.N = 51 ∧ cfg89.T 103 = e103 ∧ cfg89.T 104 = e104 ∧ cfg89.ti = (fun _ => none) ∧ cfg89.mv = fun _ _ => [] := by and_intros <;> exact rfl
section
attribute [local go_sem] qbpr e103 e104
attribute [local go_sem] q0c q0y qdn qd7 q0s q0x q05 qba qcv qcw List.length_set Nat.le_refl
theorem qb0z (hC : COk cfg89) (t : Table) (hp : (t.file.format.fields.length ≤ 1000000 ∧ t.file.keys.length ≤ 1000000 ∧ t.records.length ≤ 1000000)) : Sem Tryz.prog 89 [.d (q0c t)] (.tup [.d (.i .i64 (qbd t).1), .d (.i .i64 (qbd t).2)]) := by
 refine q0g (C := cfg89) (rs := [.tmp 2, .tmp 3]) (fun _ => []) Tryz.func89 rfl rfl rfl rfl rfl rfl ?_
 refine inQ ?_
 repeat' first
 | (with_reducible first | apply q0n | apply q0d | apply Wsq | apply Wbk | apply Wsk | apply Wex | apply Wrt | apply q0o | apply q0p | apply q0e | apply q0f | refine q0b rfl ?_ | apply q0q | apply q0r | apply And.intro)
 | (with_reducible refine Wrn hC ?_; intro K hK)
 | ((with_reducible first | refine q0u ?_ | refine q0m ?_); refine siQ ?_; (try simp (disch := omega) only [w64, wu8]))
 | ((first | refine Wcd rfl (fun h => ?_) fun h => ?_ | refine Wcu rfl (fun h => ?_) ?_ | refine Wcn rfl ?_ fun h => ?_) <;> (try replace h := q0a h) <;> try (exfalso; first | omega | exact absurd h (by decide)))
 | (refine Wlp 7 rfl (ι := Nat) (fun i => mkS [(1, V.ptr 16 0), (5, V.d (.i .i64 (i : Int)))] ([(16, .live (.box 69 [.d (.s t.file.name), .d (.s t.file.format.name), .d (.sl 4 (t.file.format.fields.map q01)), .d (.sl 2 (t.file.keys.map q06)), .d (.b t.file.unique), .d (.sl 2 (t.records.map qbt))]))])) (fun i => i ≤ t.records.length ∧ ((qcs t.file).2 = 0 ∧ t.records.length ≤ 60) ∧ ∀ j, j < i → recE t j = 0) (fun i => t.records.length - i) (0) ?_ ?_ (fun i hi => ?_) <;> (try dsimp only) <;> (try dsimp only at hi))
 | (refine Wnx 7 (i + 1) ?_ ?_ ?_ <;> (try dsimp only))
 | (refine q0j ?_; refine subQ ?_)
 | (subst hK)
 | exact trivial
 all_goals try (intros; assumption)
 all_goals try refine q0w ?_
 all_goals try replace hp := q0a hp
 all_goals try replace hi := q0a hi
 all_goals try (intros; first | trivial | omega)
 all_goals (try (rw [w64 (by omega) (by omega)]; first | done | omega))
 all_goals clear hC
 all_goals first
 | rfl
 | omega
 | (rw [qbgo (by assumption)]; done)
 | (rw [qbte (by assumption) (by omega)]; done)
 | exact hi.2.1.1
 | exact hi.2.1.2
 | (rw [qo9 hi.2.1 hi.2.2 (by omega) (by unfold recE; simp_all)]; unfold recE; simp_all; done)
 | (rw [qo9 hi.2.1 hi.2.2 (by omega) (by unfold recE; simp_all)]; done)
 | exact qex hi.2.2 (by unfold recE; simp_all)
 | (rw [qsf hi.2.1 hi.2.2 (by omega)]; done)
end
def cfg58 : Cfg := mkC 11 q87
theorem qbps : cfg58.pins = [] ∧ cfg58.P = Tryz.prog ∧ cfg58.N = 11 ∧ cfg58.ti 89 = none ∧ cfg58.T 89 = e89 ∧ cfg58.mv 89 = (fun _ => []) := by and_intros <;> exact rfl
section
attribute [local go_sem] qbps e89
attribute [local go_sem] q0c q0y qdn qd7 q0s q0x q05 qba qcv qcw List.length_set Nat.le_refl
theorem qb00 (hC : COk cfg58) (t : Table) (hp : (t.file.format.fields.length ≤ 1000000 ∧ t.file.keys.length ≤ 1000000 ∧ t.records.length ≤ 1000000)) : Sem Tryz.prog 58 [.d (q0c t)] (.d (.i .i64 (qbd t).2)) := by
 refine q0g (C := cfg58) (rs := [.tmp 2]) (fun _ => []) Tryz.func58 rfl rfl rfl rfl rfl rfl ?_
 refine inQ ?_
 repeat' first
 | (with_reducible first | apply q0n | apply q0d | apply Wsq | apply Wbk | apply Wsk | apply Wex | apply Wrt | apply q0o | apply q0p | apply q0e | apply q0f | refine q0b rfl ?_ | apply q0q | apply q0r | apply And.intro)
 | (with_reducible refine Wrn hC ?_; intro K hK)
 | ((with_reducible first | refine q0u ?_ | refine q0m ?_); refine siQ ?_; (try simp (disch := omega) only [w64, wu8]))
 | ((first | refine Wcd rfl (fun h => ?_) fun h => ?_ | refine Wcu rfl (fun h => ?_) ?_ | refine Wcn rfl ?_ fun h => ?_) <;> (try replace h := q0a h) <;> try (exfalso; first | omega | exact absurd h (by decide)))
 | (refine q0j ?_; refine subQ ?_)
 | (subst hK)
 | exact trivial
 all_goals try (intros; assumption)
 all_goals try refine q0w ?_
 all_goals try replace hp := q0a hp
 all_goals try (intros; first | trivial | omega)
 all_goals (try (rw [w64 (by omega) (by omega)]; first | done | omega))
end
def cfg119 : Cfg := mkC 20 q88
theorem qbir : cfg119.pins = [] ∧ cfg119.P = Tryz.prog ∧ cfg119.N = 20 ∧ cfg119.ti 57 = none ∧ cfg119.T 57 = e57 ∧ cfg119.mv 57 = (fun _ => []) := by and_intros <;> exact rfl
section
attribute [local go_sem] qbir e57
attribute [local go_sem] q0c q0y qdn qd7 q0s q0x q05 qba qcv qcw List.length_set Nat.le_refl
theorem qbvf (hC : COk cfg119) (t : Table) (n : Int) (hp : t.records.length ≤ 1000000) : Sem Tryz.prog 119 [.d (q0c t), .d (.i .i64 n)] (.d (.b (qgo t n))) := by
 refine q0g (C := cfg119) (rs := [.tmp 4]) (fun _ => []) Tryz.func119 rfl rfl rfl rfl rfl rfl ?_
 refine inQ ?_
 repeat' first
 | (with_reducible first | apply q0n | apply q0d | apply Wsq | apply Wbk | apply Wsk | apply Wex | apply Wrt | apply q0o | apply q0p | apply q0e | apply q0f | refine q0b rfl ?_ | apply q0q | apply q0r | apply And.intro)
 | (with_reducible refine Wrn hC ?_; intro K hK)
 | ((with_reducible first | refine q0u ?_ | refine q0m ?_); refine siQ ?_; (try simp (disch := omega) only [w64, wu8]))
 | ((first | refine Wcd rfl (fun h => ?_) fun h => ?_ | refine Wcu rfl (fun h => ?_) ?_ | refine Wcn rfl ?_ fun h => ?_) <;> (try replace h := q0a h) <;> try (exfalso; first | omega | exact absurd h (by decide)))
 | (refine q0j ?_; refine subQ ?_)
 | (subst hK)
 | exact trivial
 all_goals try (intros; assumption)
 all_goals try refine q0w ?_
 all_goals try replace hp := q0a hp
 all_goals try (intros; first | trivial | omega)
 all_goals (try (rw [w64 (by omega) (by omega)]; first | done | omega))
 all_goals clear hC
 all_goals first
 | omega
 | (intro q; rw [w64 (by omega) (by omega)]; omega)
 | (unfold qgo
    by_cases q : 1 ≤ n ∧ n ≤ (t.records.length : Int)
    ·rw [w64 (by omega) (by omega)]
    ·have e : (decide (1 ≤ n) && decide (n ≤ (t.records.length : Int))) = false := by simp; omega
     rw [e]; simp)
end
end
end Go.Ev
