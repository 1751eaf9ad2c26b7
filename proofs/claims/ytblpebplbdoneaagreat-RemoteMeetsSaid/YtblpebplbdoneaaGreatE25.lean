/- Tools and contracts under the laws of this seat: Drc28y, Drc10, Drc14, Drc41, Drc16, Drc44, Drc17, Drc3, Drc4. -/
import Derived.Test.YtblpebplbdoneaaGreatE11
set_option linter.unusedVariables false
set_option linter.unusedSimpArgs false
namespace Go.Ev
noncomputable section
open Go.Proofs Ty
set_option maxRecDepth 10000
set_option maxHeartbeats 4000000
attribute [local go_sem] qbi qbl qck qdc qce qdr qd3 qet Int.toNat_natCast qdq qd4 qee qb9 qc2 qbx qca decI List.length_map nc0 qbj qbo q01 qb7 qdh qd5 qb1 qb8 qem qfe q06 qbz qcx qdl qcb qcm qd6 qen qbt qdm qeo qff qb3 qbr qc1 qdj qcz qeq qdk qc0 qer qdi qcy qep List.length_take qdd Int.toNat_zero Nat.sub_zero List.drop_zero q0c q0y qdn qd7 q0s q0x q05 qba qcv qcw List.length_set Nat.le_refl qc5 qcl q0h q0v qbk qby qbm qcj qcq qft qgt qii qj1 qij qik qj5 qim qin qd0 qcu qdg qcr qbb qcg qbf qdy qeg qe9 qfq qf3 qfn qf2 qfo qg0 qh1 qg1 qei qe7 qfp qg2 qch qbp qbe qdw D.body qu2
attribute [local go_sem ←] List.map_take List.map_drop
def cfg28y : Cfg := ⟨Tryz.prog, 19, q94, mvr, [], (fun _ => none)⟩
theorem qbi4 : cfg28y.pins = [] ∧ cfg28y.P = Tryz.prog ∧ cfg28y.N = 19 ∧ cfg28y.ti 29 = none ∧ cfg28y.T 29 = e29 ∧ cfg28y.mv 29 = (fun _ => []) := by and_intros <;> exact rfl
section
attribute [local go_sem] qbi4 e29
theorem qbvv (hC : COk cfg28y) (l : List Table) (y : Entry) (hp : l.length ≤ 1000000) : Sem Tryz.prog 28 [.d (.sl 6 (l.map q0c)), .d (.fn 29 [.cp (q0h y).body])] (.d (.i .i64 (qbg l y.change.file))) := by
 refine q0g (C := cfg28y) (rs := [.tmp 4]) (fun _ => []) Tryz.func28 rfl rfl rfl rfl rfl rfl ?_
 refine inQ ?_
 repeat' first
 | (with_reducible first | apply q0n | apply q0d | apply Wsq | apply Wbk | apply Wsk | apply Wex | apply Wrt | apply q0o | apply q0p | apply q0e | apply q0f | refine q0b rfl ?_ | apply q0q | apply q0r | apply And.intro)
 | (refine Wat 4 rfl ?_; have hg : ∀ z, (l.map q0c).getD i z = q0c (l.getD i q0z) := fun z => qfr (by omega) z)
 | (with_reducible first | (refine Whr hC ?_; intro K hK) | (refine Whd hC (by kernel_rfl) ?_; intro K hK))
 | (with_reducible refine Wrn hC ?_; intro K hK)
 | ((with_reducible first | refine q0u ?_ | refine q0m ?_); (first | (simp (maxSteps := 1000000) only [go_sem, ↓reduceIte, reduceCtorEq, Nat.reduceEqDiff, Nat.reduceLT, Nat.reduceLeDiff, Nat.reduceMul, Nat.reduceAdd, Nat.reduceSub, reduceDIte, Nat.reduceBEq, Nat.reduceBNe, hg]) | (refine siQ ?_)); (try simp (disch := omega) only [w64, wu8]))
 | ((first | refine Wcd rfl (fun h => ?_) fun h => ?_ | refine Wcu rfl (fun h => ?_) ?_ | refine Wcn rfl ?_ fun h => ?_) <;> (try replace h := q0a h) <;> try (exfalso; first | omega | exact absurd h (by decide)))
 | (refine Wlp 2 rfl (ι := Nat) (fun i => mkS [(0, V.d (.sl 6 (l.map q0c))), (1, V.d (.fn 29 [.cp (q0h y).body])), (7, V.d (.i .i64 (l.length : Int))), (8, V.d (.i .i64 (i : Int)))] ([])) (fun i => i ≤ l.length ∧ ∀ j, j < i → qf9 l y.change.file j = 0) (fun i => l.length - i) (0) ?_ ?_ (fun i hi => ?_) <;> (try dsimp only) <;> (try dsimp only at hi))
 | (refine Wnx 2 (i + 1) ?_ ?_ ?_ <;> (try dsimp only))
 | (refine q0j ?_; refine subQ ?_)
 | (subst hK)
 | exact trivial
 all_goals try (intros; assumption)
 all_goals try refine q0w ?_
 all_goals try replace hp := q0a hp
 all_goals try replace hi := q0a hi
 all_goals try (intros; first | trivial | omega)
 all_goals (try (rw [w64 (by omega) (by omega)]; first | done | omega))
 all_goals clear hC
 all_goals first
 | omega
 | (rw [qut hi.2 (by omega) (by assumption)]; done)
 | (rw [quu hi.2 (by omega)]; done)
 | exact qex hi.2 (q2b (by assumption))
end
def cfg10 : Cfg := ⟨Tryz.prog, 109, q33, mvr, [], (fun _ => none)⟩
theorem qbqm : cfg10.pins = [] ∧ cfg10.P = Tryz.prog ∧ cfg10.N = 109 ∧ cfg10.T 19 = e19 ∧ cfg10.mv 19 = (fun _ => []) ∧ cfg10.T 24 = e24 ∧ cfg10.mv 24 = (fun _ => []) ∧ cfg10.T 25 = e25 ∧ cfg10.mv 25 = (fun _ => []) ∧ cfg10.T 26 = e26 ∧ cfg10.mv 26 = (fun _ => []) ∧ cfg10.T 27 = e27o ∧ cfg10.mv 27 = (fun _ => []) ∧ cfg10.T 28 = e28y ∧ cfg10.mv 28 = (fun _ => []) ∧ cfg10.T 29 = e29 ∧ cfg10.mv 29 = (fun _ => []) ∧ cfg10.T 30 = e30 ∧ cfg10.mv 30 = (fun _ => []) ∧ cfg10.ti = (fun _ => none) := by and_intros <;> exact rfl
section
attribute [local go_sem] qbqm e19 e24 e25 e26 e27o e28y e29 e30
theorem qb1u (hC : COk cfg10) (x : Remote) (ts : List Table) (l : List Entry) (hp : x.source.length ≤ 1000000 ∧ x.target.length ≤ 1000000 ∧ x.wire.length ≤ 1000000 ∧ okTs ts ∧ l.length ≤ 1000000) : Sem Tryz.prog 10 [.d (qbb x), .d (.sl 6 (ts.map q0c)), .d (.sl 8 (l.map q0h))] (.tup [.d (.sl 6 ((qfc x ts l).1.map q0c)), .d (.i .i64 (qfc x ts l).2)]) := by
 have hB : ts.length ≤ 1000000 := hp.2.2.2.1.1
 have LL : (l.drop x.target.length).length = l.length - x.target.length := List.length_drop ..
 refine q0g (C := cfg10) (rs := [.tmp 6, .tmp 7]) (fun _ => []) Tryz.func10 rfl rfl rfl rfl rfl rfl ?_
 refine inQ ?_
 repeat' first
 | (with_reducible first | apply q0n | apply q0d | apply Wsq | apply Wbk | apply Wsk | apply Wex | apply Wrt | apply q0o | apply q0p | apply q0e | apply q0f | refine q0b rfl ?_ | apply q0q | apply q0r | apply And.intro)
 | (refine Wat 4 rfl ?_; have hx := qjh (x := x) (by assumption); have hap := qi6 ts)
 | (refine Wat 13 rfl ?_; have hce : qi5 x ts l = 0 := qx1 (by assumption) (by rw [← qi6]; assumption) (by assumption) (bw_t (by omega) (by simp_all)))
 | (refine Wat 16 rfl ?_; have hd : List.take (l.length - x.target.length) (List.drop x.target.length l) = List.drop x.target.length l := List.take_of_length_le (by simp); have hst := qbgz (x := x) (ts := ts) (l := l) (by assumption) (by rw [← qi6]; assumption) (by assumption))
 | (refine Wat 22 rfl ?_; have hb := qhe (cuS x ts l i) ((l.drop x.target.length).getD i q0i).change.file; have LN := q57 (x := x) (ts := ts) (l := l) (i := i); have hg : ∀ z, ((cuS x ts l i).map q0c).getD (qbg (cuS x ts l i) ((l.drop x.target.length).getD i q0i).change.file).toNat z = q0c ((cuS x ts l i).getD (qbg (cuS x ts l i) ((l.drop x.target.length).getD i q0i).change.file).toNat q0z) := fun z => qfr (by omega) z)
 | (with_reducible first | (refine Whr hC ?_; intro K hK) | (refine Whd hC (by kernel_rfl) ?_; intro K hK))
 | (with_reducible first | (refine Wrn hC ?_; intro K hK) | (refine Wdr hC (by kernel_rfl) ?_; intro K hK))
 | ((with_reducible first | refine q0u ?_ | refine qbu ?_ | refine q0m ?_); (first | (simp (maxSteps := 1000000) only [go_sem, ↓reduceIte, reduceCtorEq, Nat.reduceEqDiff, Nat.reduceLT, Nat.reduceLeDiff, Nat.reduceMul, Nat.reduceAdd, Nat.reduceSub, reduceDIte, Nat.reduceBEq, Nat.reduceBNe, hd, hg]) | (simp (maxSteps := 1000000) only [go_sem, ↓reduceIte, reduceCtorEq, Nat.reduceEqDiff, Nat.reduceLT, Nat.reduceLeDiff, Nat.reduceMul, Nat.reduceAdd, Nat.reduceSub, reduceDIte, Nat.reduceBEq, Nat.reduceBNe, hd]) | (refine siQ ?_)); (try simp (disch := omega) only [w64, wu8]))
 | (with_reducible refine qbh (by kernel_rfl) ?_)
 | ((first | refine Wcd rfl (fun h => ?_) fun h => ?_ | refine Wcu rfl (fun h => ?_) ?_ | refine Wcn rfl ?_ fun h => ?_) <;> (try replace h := q0a h) <;> try (exfalso; first | omega | exact absurd h (by decide)))
 | (refine Wlp 17 rfl (ι := Nat) (fun i => mkS [(15, V.row 976 6 0 (cuS x ts l i).length), (76, V.d (.sl 8 ((l.drop x.target.length).map q0h))), (77, V.d (.i .i64 ((l.drop x.target.length).length : Int))), (78, V.d (.i .i64 (i : Int)))] ([(976, .live (.row 69 6 false ((cuS x ts l i).map q0c)))])) (fun i => i ≤ (l.drop x.target.length).length ∧ cuOk x ts l i ∧ qi5 x ts l = 0) (fun i => (l.drop x.target.length).length - i) (0) ?_ ?_ (fun i hi => ?_) <;> (try dsimp only) <;> (try dsimp only at hi))
 | (refine Wnx 17 (i + 1) ?_ ?_ ?_ <;> (try dsimp only))
 | (refine q0j ?_; refine subQ ?_)
 | (subst hK)
 | exact trivial
 all_goals try (intros; assumption)
 all_goals try refine q0w ?_
 all_goals try replace hp := q0a hp
 all_goals try replace hi := q0a hi
 all_goals try (intros; first | trivial | omega)
 all_goals (try (rw [w64 (by omega) (by omega)]; first | done | omega))
 all_goals clear hC
 all_goals (try have OK := qbn5 hp.2.2.2.1 hi.2.1)
 all_goals (try have LN := q57 (x := x) (ts := ts) (l := l) (i := i))
 all_goals (try have LT := qhe (cuS x ts l i) ((l.drop x.target.length).getD i q0i).change.file)
 all_goals (try simp only [qm5] at *)
 all_goals first
 | omega
 | exact hp.2.2.2.1
 | exact hp.2.2.2.2
 | exact OK.1
 | exact (OK.2 _).1
 | exact (OK.2 _).2.1
 | exact (OK.2 _).2.2
 | exact ⟨hp.2.2.2.1, hp.1⟩
 | (rw [ct_1 (by assumption)]; first | done | rfl)
 | (rw [ct_2 (by assumption) (by rw [← qi6]; assumption)]; first | done | rfl | exact (qi6 ts).symm)
 | (rw [ct_3 (by assumption) (by rw [← qi6]; assumption) (by assumption)]; first | done | rfl)
 | (rw [ct_4 (by assumption) (by rw [← qi6]; assumption) (by assumption) (bw_f (by assumption))]; first | done | rfl)
 | (rw [qbto hce (by assumption) (by rw [← qi6]; assumption) (by assumption)]; first | done | rfl)
 | exact hst.1
 | (rw [hst.2]; first | done | exact q0k _)
 | exact (q56 (by omega) (by assumption)).2 hi.2.1
 | (rw [(q56 (by omega) (by assumption)).1]; first | done | exact q0k _)
 | (have DD := qxx (s := cuS x ts l i) (c := ((l.drop x.target.length).getD i q0i).change) (by omega)
    have Q := qbjo hi.2.1 (by omega) (by assumption) DD.1
    first | exact Q.1 | (rw [Q.2, DD.2]; first | done | exact q0k _))
 | (have DD := q3e (s := cuS x ts l i) (c := ((l.drop x.target.length).getD i q0i).change) (by omega) (by assumption)
    rw [qtq hi.2.2, qbtn hi.2.1 (by omega) (by assumption) (by rw [DD.1]; assumption)]
    first | done | rfl | exact DD.1)
 | (have DD := q3f (s := cuS x ts l i) (c := ((l.drop x.target.length).getD i q0i).change) (by omega) (by assumption)
    have Q := qbjo hi.2.1 (by omega) (by assumption) DD.1
    first | exact Q.1 | (rw [Q.2, DD.2]; first | done | (simp; done) | (rw [qhk (by assumption), List.map_set]; exact q0k _)))
 | (rw [qtq hi.2.2, (qbcm hi.2.1 (by omega)).1]; first | done | exact q0k _)
 | (rw [qtq hi.2.2]; exact (qbcm hi.2.1 (by omega)).2)
end
def cfg14 : Cfg := ⟨Tryz.prog, 101, q95, mvr, [], (fun _ => none)⟩
theorem qbqn : cfg14.pins = [] ∧ cfg14.P = Tryz.prog ∧ cfg14.N = 101 ∧ cfg14.T 32 = e32 ∧ cfg14.mv 32 = (fun _ => []) ∧ cfg14.T 33 = e33 ∧ cfg14.mv 33 = (fun _ => []) ∧ cfg14.T 34 = e34 ∧ cfg14.mv 34 = (fun _ => []) ∧ cfg14.T 35 = e35 ∧ cfg14.mv 35 = (fun _ => []) ∧ cfg14.T 36 = e36 ∧ cfg14.mv 36 = (fun _ => []) ∧ cfg14.T 37 = e37 ∧ cfg14.mv 37 = (fun _ => []) ∧ cfg14.ti = (fun _ => none) := by and_intros <;> exact rfl
section
attribute [local go_sem] qbqn e32 e33 e34 e35 e36 e37
attribute [local go_sem] qbb9
theorem qb1v (hC : COk cfg14) (x : Remote) (ts : List Table) (l : List Entry) (hp : x.source.length ≤ 1000000 ∧ x.target.length ≤ 1000000 ∧ x.wire.length ≤ 1000000 ∧ okTs ts ∧ l.length ≤ 1000000) : Sem Tryz.prog 14 [.d (qbb x), .d (.sl 6 (ts.map q0c)), .d (.sl 8 (l.map q0h))] (.d (.agg [.sl 6 ((qfc x ts l).1.map q0c), .sl 8 [], .i .i64 (qfc x ts l).2])) := by
 have hB : ts.length ≤ 1000000 := hp.2.2.2.1.1
 refine q0g (C := cfg14) (rs := [.cell 6 38]) (fun _ => []) Tryz.func14 rfl rfl rfl rfl rfl rfl ?_
 refine inQ ?_
 repeat' first
 | (with_reducible first | apply q0n | apply q0d | apply Wsq | apply Wbk | apply Wsk | apply Wex | apply Wrt | apply q0o | apply q0p | apply q0e | apply q0f | refine q0b rfl ?_ | apply q0q | apply q0r | apply And.intro)
 | (refine Wat 12 rfl ?_; have hce : qi5 x ts l = 0 := qx1 (by assumption) (by assumption) (by assumption) (by have q : qeb l x.target = true := (by assumption); rw [q]; decide); have hx := (qhx.1 (show qbq x = 0 by assumption)).t; have hx2 := (qjh (x := x) (by assumption)).s; have hx3 := q58 (x := x) (by assumption); have hx4 := qbn3 (x := x); have hx6 := qyx (l := l) (by assumption); have hx5 := qbtm (l := l) (x := x) (by have q : qeb l x.target = true := (by assumption); rw [q]; decide))
 | (with_reducible first | (refine Whr hC ?_; intro K hK) | (refine Whd hC (by kernel_rfl) ?_; intro K hK))
 | (with_reducible refine Wrn hC ?_; intro K hK)
 | ((with_reducible first | refine q0u ?_ | refine q0m ?_); refine siQ ?_; (try simp (disch := omega) only [w64, wu8]))
 | ((first | refine Wcd rfl (fun h => ?_) fun h => ?_ | refine Wcu rfl (fun h => ?_) ?_ | refine Wcn rfl ?_ fun h => ?_) <;> (try replace h := q0a h) <;> try (exfalso; first | omega | exact absurd h (by decide)))
 | (refine Wlp 14 rfl (ι := Nat) (fun j => mkS [(1, V.d (.sl 6 (ts.map q0c))), (2, V.d (.sl 8 (l.map q0h))), (3, V.ptr 48 0), (6, V.ptr 96 0), (11, V.row 176 5 0 (qi3 allE x.source j).length), (12, V.d (.i .i64 ((j : Int) - 1)))] ([(48, .live (.box 25 [.d (.b x.sync), .d (.sl 8 (x.source.map q0h)), .d (.sl 8 (x.target.map q0h)), .d (.i .i64 x.sent), .d (.i .i64 x.acked), .d (.sl 2 (x.wire.map qbf))])), (96, .live (.box 38 [.d .nil, .d .nil, .d (.i .i64 0)])), (176, .live (.row 50 5 false ((qi3 allE x.source j).map q0s)))])) (fun j => x.target.length ≤ j ∧ j ≤ x.source.length) (fun j => j) (x.source.length) ?_ ?_ (fun j hi => ?_) <;> (try dsimp only) <;> (try dsimp only at hi))
 | (refine Wnx 14 (j - 1) ?_ ?_ ?_ <;> (try dsimp only))
 | (refine Wlp 19 rfl (ι := Nat) (fun k => mkS [(1, V.d (.sl 6 (ts.map q0c))), (2, V.d (.sl 8 (l.map q0h))), (6, V.ptr 96 0), (11, V.row 176 5 0 (cuB x ++ fwdC ((l.drop x.target.length).take k)).length), (13, V.d (.i .i64 ((x.target.length + k : Nat) : Int)))] ([(96, .live (.box 38 [.d .nil, .d .nil, .d (.i .i64 0)])), (176, .live (.row 50 5 false ((cuB x ++ fwdC ((l.drop x.target.length).take k)).map q0s)))])) (fun k => x.target.length + k ≤ l.length) (fun k => l.length - (x.target.length + k)) (0) ?_ ?_ (fun k hk => ?_) <;> (try dsimp only) <;> (try dsimp only at hk))
 | (refine Wnx 19 (k + 1) ?_ ?_ ?_ <;> (try dsimp only))
 | (refine q0j ?_; refine subQ ?_)
 | (subst hK)
 | exact trivial
 all_goals try (intros; assumption)
 all_goals try refine q0w ?_
 all_goals try replace hp := q0a hp
 all_goals try replace hi := q0a hi
 all_goals try replace hk := q0a hk
 all_goals try (intros; first | trivial | omega)
 all_goals (try (rw [w64 (by omega) (by omega)]; first | done | omega))
 all_goals clear hC
 all_goals (try simp only [qjz] at *)
 all_goals (try have BL := qbcf allE x.source j)
 all_goals (try have FL := qbg2 l x.target.length k)
 all_goals first
 | omega
 | exact hp.2.2.2.1
 | exact hp.2.2.2.2
 | (rw [ct_1 (by assumption)]; first | done | rfl)
 | (rw [ct_2 (by assumption) (by assumption)]; first | done | rfl)
 | (rw [ct_3 (by assumption) (by assumption) (by assumption)]; first | done | rfl)
 | (rw [ct_4 (by assumption) (by assumption) (by assumption) (by assumption)]; first | done | rfl)
 | (rw [q44 (Nat.le_refl _)]; first | done | rfl)
 | (intro d hd; subst hd; exact ⟨rfl, by simp [D.cells, D.one]⟩)
 | (rw [qbce (j := j - 1) (by omega) (by assumption) rfl, show j - 1 + 1 = j by omega]; first | (rw [List.length_append]; rfl) | (rw [List.map_append]; exact q0k _))
 | (rw [qbgt (j := j - 1) (by omega) (.inl (by assumption)), show j - 1 + 1 = j by omega]; first | done | exact q0k _)
 | (rw [List.take_zero, q59, ← hx3, show j = x.target.length by omega]; first | done | (simp; done) | (rw [List.append_nil]; exact q0k _))
 | (rw [q59, ← hx3, show j = x.target.length by omega]; first | done | (simp; done) | (rw [List.append_nil]; exact q0k _))
 | (rw [qbg0 (by omega) (by assumption)]; first | (simp; done) | (simp; omega) | (rw [← List.append_assoc, List.map_append (l₂ := [_])]; exact q0k _))
 | (rw [qbn6 (by omega) (by assumption)]; first | done | exact q0k _)
 | (rw [Nat.min_self]; omega)
 | (rw [qtq hce]; unfold qjq qpe; rw [qbg1 (by omega), List.take_of_length_le (by simp)]; first | done | rfl | exact q0k _)
end
def cfg41 : Cfg := ⟨Tryz.prog, 11, q96, mvr, [16], (fun _ => none)⟩
theorem qbqo : cfg41.pins = [16] ∧ cfg41.P = Tryz.prog ∧ cfg41.N = 11 := ⟨rfl, rfl, rfl⟩
section
attribute [local go_sem] qbqo
theorem qb1w (hC : COk cfg41) (y : Entry) (l : List Entry) (hp : l.length ≤ 1000000) : Sem Tryz.prog 41 [.d (q0h y), .bx 22 [.own 52 8 (l.map q0h)]] (.tup [.bx 22 [.own 52 8 ((addE l y).map q0h)]]) := by
 refine q0g (C := cfg41) (rs := []) (fun j => if j = 0 then [(4242, 22, 0), (0, 52, 8)] else []) Tryz.func41 rfl rfl rfl rfl rfl rfl ?_
 refine inQ ?_
 repeat' first
 | (with_reducible first | apply q0n | apply q0d | apply Wsq | apply Wbk | apply Wsk | apply Wex | apply Wrt | apply q0o | apply q0p | apply q0e | apply q0f | refine q0b rfl ?_ | apply q0q | apply q0r | apply And.intro)
 | (with_reducible refine Wrn hC ?_; intro K hK)
 | ((with_reducible first | refine q0u ?_ | refine q0m ?_); refine siQ ?_; (try simp (disch := omega) only [w64, wu8]))
 | ((first | refine Wcd rfl (fun h => ?_) fun h => ?_ | refine Wcu rfl (fun h => ?_) ?_ | refine Wcn rfl ?_ fun h => ?_) <;> (try replace h := q0a h) <;> try (exfalso; first | omega | exact absurd h (by decide)))
 | (refine q0j ?_; refine subQ ?_)
 | (subst hK)
 | exact trivial
 all_goals try (intros; assumption)
 all_goals try refine q0w ?_
 all_goals try replace hp := q0a hp
 all_goals try (intros; first | trivial | omega)
 all_goals (try (rw [w64 (by omega) (by omega)]; first | done | omega))
 all_goals clear hC
 all_goals first
 | omega
 | (intro d hd; subst hd; exact ⟨rfl, by simp [D.cells, D.one]⟩)
 | (rw [addE, List.map_append]; exact q0k _)
end
def cfg16 : Cfg := ⟨Tryz.prog, 85, q97, mvr, [], (fun _ => none)⟩
theorem qbqp : cfg16.pins = [] ∧ cfg16.P = Tryz.prog ∧ cfg16.N = 85 ∧ cfg16.T 24 = e24 ∧ cfg16.mv 24 = (fun _ => []) ∧ cfg16.T 39 = e39 ∧ cfg16.mv 39 = (fun _ => []) ∧ cfg16.T 40 = e40 ∧ cfg16.mv 40 = (fun _ => []) ∧ cfg16.T 41 = e41 ∧ cfg16.mv 41 = (fun j => if j = 1 then [(4242, 22, 0), (0, 52, 8)] else []) ∧ cfg16.T 42 = e42 ∧ cfg16.mv 42 = (fun _ => []) ∧ cfg16.ti = (fun _ => none) := by and_intros <;> exact rfl
section
attribute [local go_sem] qbqp e24 e39 e40 e41 e42
theorem qb1x (hC : COk cfg16) (x : Remote) (ts : List Table) (hp : x.source.length ≤ 1000000 ∧ x.target.length ≤ 1000000 ∧ x.wire.length ≤ 1000000 ∧ okTs ts) : Sem Tryz.prog 16 [.d (qbb x), .d (.sl 6 (ts.map q0c))] (.tup [.d (.sl 6 ((qes x ts).1.map q0c)), .d (.sl 8 ((qes x ts).2.1.map q0h)), .d (.i .i64 (qes x ts).2.2)]) := by
 have hu := qsu x.target
 refine q0g (C := cfg16) (rs := [.tmp 4, .tmp 5, .tmp 6]) (fun _ => []) Tryz.func16 rfl rfl rfl rfl rfl rfl ?_
 refine inQ ?_
 repeat' first
 | (with_reducible first | apply q0n | apply q0d | apply Wsq | apply Wbk | apply Wsk | apply Wex | apply Wrt | apply q0o | apply q0p | apply q0e | apply q0f | refine q0b rfl ?_ | apply q0q | apply q0r | apply And.intro)
 | (refine Wat 7 rfl ?_; have hwo := (qu1 (ts := ts) (l := x.target) (by assumption)).2; have hx := qjh (x := x) (by assumption); have hx1 := hx.s; have hx2 := hx.t; clear hx)
 | (with_reducible first | (refine Whr hC ?_; intro K hK) | (refine Whd hC (by kernel_rfl) ?_; intro K hK))
 | (with_reducible first | (refine Wrn hC ?_; intro K hK) | (refine Wdr hC (by kernel_rfl) ?_; intro K hK))
 | ((with_reducible first | refine q0u ?_ | refine qbu ?_ | refine q0m ?_); (first | (simp (maxSteps := 1000000) only [go_sem, ↓reduceIte, reduceCtorEq, Nat.reduceEqDiff, Nat.reduceLT, Nat.reduceLeDiff, Nat.reduceMul, Nat.reduceAdd, Nat.reduceSub, reduceDIte, Nat.reduceBEq, Nat.reduceBNe, hwo]) | (refine siQ ?_)); (try simp (disch := omega) only [w64, wu8]))
 | (with_reducible refine qbh (by kernel_rfl) ?_)
 | ((first | refine Wcd rfl (fun h => ?_) fun h => ?_ | refine Wcu rfl (fun h => ?_) ?_ | refine Wcn rfl ?_ fun h => ?_) <;> (try replace h := q0a h) <;> try (exfalso; first | omega | exact absurd h (by decide)))
 | (refine Wlp 10 rfl (ι := Nat) (fun k => mkS [(2, V.ptr 32 0), (8, V.d (.sl 6 ((qd8 ts x.target).1.map q0c))), (11, V.ptr 176 0), (12, V.fn 41 [V.ptr 176 0]), (39, V.d (.sl 1 ((qbw x.target).map (D.i .i64)))), (40, V.d (.i .i64 ((qbw x.target).length : Int))), (41, V.d (.i .i64 (k : Int)))] ([(32, .live (.box 25 [.d (.b x.sync), .d (.sl 8 (x.source.map q0h)), .d (.sl 8 (x.target.map q0h)), .d (.i .i64 x.sent), .d (.i .i64 x.acked), .d (.sl 2 (x.wire.map qbf))])), (176, .live (.box 22 [V.row 592 8 0 (qgq x.target ((qbw x.target).take k)).length])), (592, .live (.row 52 8 false ((qgq x.target ((qbw x.target).take k)).map q0h)))])) (fun k => k ≤ (qbw x.target).length ∧ qbq x = 0 ∧ (qd8 ts x.target).2.2 = 0 ∧ x.target.length ≤ 40) (fun k => (qbw x.target).length - k) (0) ?_ ?_ (fun k hi => ?_) <;> (try dsimp only) <;> (try dsimp only at hi))
 | (refine Wnx 10 (k + 1) ?_ ?_ ?_ <;> (try dsimp only))
 | (refine Wlp 13 rfl (ι := Nat) (fun j => mkS [(2, V.ptr 32 0), (8, V.d (.sl 6 ((qd8 ts x.target).1.map q0c))), (11, V.ptr 176 0), (12, V.fn 41 [V.ptr 176 0]), (14, V.d (.i .i64 ((qbw x.target).getD k 0))), (15, V.d (.i .i64 ((j : Int) - 1))), (39, V.d (.sl 1 ((qbw x.target).map (D.i .i64)))), (40, V.d (.i .i64 ((qbw x.target).length : Int))), (41, V.d (.i .i64 (k : Int)))] ([(32, .live (.box 25 [.d (.b x.sync), .d (.sl 8 (x.source.map q0h)), .d (.sl 8 (x.target.map q0h)), .d (.i .i64 x.sent), .d (.i .i64 x.acked), .d (.sl 2 (x.wire.map qbf))])), (176, .live (.box 22 [V.row 592 8 0 (inE x.target ((qbw x.target).take k) ((qbw x.target).getD k 0) j).length])), (592, .live (.row 52 8 false ((inE x.target ((qbw x.target).take k) ((qbw x.target).getD k 0) j).map q0h)))])) (fun j => j ≤ x.target.length) (fun j => j) (x.target.length) ?_ ?_ (fun j hj => ?_) <;> (try dsimp only) <;> (try dsimp only at hj))
 | (refine Wnx 13 (j - 1) ?_ ?_ ?_ <;> (try dsimp only))
 | (refine q0j ?_; refine subQ ?_)
 | (subst hK)
 | exact trivial
 all_goals try (intros; assumption)
 all_goals try refine q0w ?_
 all_goals try replace hp := q0a hp
 all_goals try replace hi := q0a hi
 all_goals try replace hj := q0a hj
 all_goals try (intros; first | trivial | omega)
 all_goals (try (rw [w64 (by omega) (by omega)]; first | done | omega))
 all_goals clear hC
 all_goals (try simp only [qjz] at *)
 all_goals (try have TL := qph x.target ((qbw x.target).take k) (by rw [List.length_take]; omega))
 all_goals (try have IL := q6a (l := x.target) (us := (qbw x.target).take k) (u := (qbw x.target).getD k 0) (j := j) (by rw [List.length_take]; omega))
 all_goals first
 | omega
 | exact hp.2.2.2
 | (rw [tk_1 (by assumption)]; first | done | rfl)
 | (rw [tk_2 (by assumption) (by assumption)]; first | done | rfl)
 | exact q0k _
 | (rw [qzj (Nat.le_refl _)]; first | done | exact q0k _)
 | (rw [q6b (j := j - 1) (by omega) (by first | assumption | (constructor <;> assumption)), show j - 1 + 1 = j by omega, ← qbco (ts := ts) (by assumption) (j := j - 1) (by omega) (by first | assumption | exact And.left (by assumption))]; first | done | exact q0k _)
 | (rw [qbcn (j := j - 1) (by omega) (by first | assumption | omega), show j - 1 + 1 = j by omega]; first | done | exact q0k _)
 | (rw [q9p (by omega), show j = 0 by omega]; first | done | exact q0k _)
 | (rw [tk_3 (by assumption) (by assumption)]; first | done | rfl | exact q0k _ | (rw [List.take_of_length_le (by omega)]; exact q0k _))
end
def cfg44 : Cfg := ⟨Tryz.prog, 61, q98, mvr, [], (fun _ => none)⟩
theorem qbqq : cfg44.pins = [] ∧ cfg44.P = Tryz.prog ∧ cfg44.N = 61 ∧ cfg44.T 13 = e13 ∧ cfg44.mv 13 = (fun _ => []) ∧ cfg44.T 36 = e36 ∧ cfg44.mv 36 = (fun _ => []) ∧ cfg44.T 49 = e49 ∧ cfg44.mv 49 = (fun _ => []) ∧ cfg44.ti = (fun _ => none) := by and_intros <;> exact rfl
section
attribute [local go_sem] qbqq e13 e36 e49
theorem qb1y (hC : COk cfg44) (l : List Entry) (hp : l.length ≤ 100) : Sem Tryz.prog 44 [.d (.sl 8 (l.map q0h))] (.d (.sl 8 ((qgq l (qbw l)).map q0h))) := by
 refine q0g (C := cfg44) (rs := [.tmp 2]) (fun _ => []) Tryz.func44 rfl rfl rfl rfl rfl rfl ?_
 refine inQ ?_
 repeat' first
 | (with_reducible first | apply q0n | apply q0d | apply Wsq | apply Wbk | apply Wsk | apply Wex | apply Wrt | apply q0o | apply q0p | apply q0e | apply q0f | refine q0b rfl ?_ | apply q0q | apply q0r | apply And.intro)
 | (with_reducible refine Wrn hC ?_; intro K hK)
 | ((with_reducible first | refine q0u ?_ | refine q0m ?_); refine siQ ?_; (try simp (disch := omega) only [w64, wu8]))
 | ((first | refine Wcd rfl (fun h => ?_) fun h => ?_ | refine Wcu rfl (fun h => ?_) ?_ | refine Wcn rfl ?_ fun h => ?_) <;> (try replace h := q0a h) <;> try (exfalso; first | omega | exact absurd h (by decide)))
 | (refine Wlp 3 rfl (ι := Nat) (fun i => mkS [(0, V.d (.sl 8 (l.map q0h))), (3, V.row 48 8 0 (qgq l (qf1 l i)).length), (4, V.d (.i .i64 ((i : Int) + 1)))] ([(48, .live (.row 52 8 false ((qgq l (qf1 l i)).map q0h)))])) (fun i => i ≤ 999) (fun i => 999 - i) (0) ?_ ?_ (fun i hi => ?_) <;> (try dsimp only) <;> (try dsimp only at hi))
 | (refine Wnx 3 (i + 1) ?_ ?_ ?_ <;> (try dsimp only))
 | (refine Wlp 7 rfl (ι := Nat) (fun j => mkS [(0, V.d (.sl 8 (l.map q0h))), (3, V.row 48 8 0 (inE l (qf1 l i) ((i : Int) + 1) j).length), (4, V.d (.i .i64 ((i : Int) + 1))), (5, V.d (.i .i64 ((j : Int) - 1)))] ([(48, .live (.row 52 8 false ((inE l (qf1 l i) ((i : Int) + 1) j).map q0h)))])) (fun j => j ≤ l.length ∧ isOpen l ((i : Int) + 1) = true) (fun j => j) (l.length) ?_ ?_ (fun j hj => ?_) <;> (try dsimp only) <;> (try dsimp only at hj))
 | (refine Wnx 7 (j - 1) ?_ ?_ ?_ <;> (try dsimp only))
 | (refine q0j ?_; refine subQ ?_)
 | (subst hK)
 | exact trivial
 all_goals try (intros; assumption)
 all_goals try refine q0w ?_
 all_goals try replace hp := q0a hp
 all_goals try replace hi := q0a hi
 all_goals try replace hj := q0a hj
 all_goals try (intros; first | trivial | omega)
 all_goals (try (rw [w64 (by omega) (by omega)]; first | done | omega))
 all_goals clear hC
 all_goals (try simp only [qjz] at *)
 all_goals (try have OT := qrd l i)
 all_goals (try have TL := qph l (qf1 l i) (by omega))
 all_goals (try have IL := q6a (l := l) (us := qf1 l i) (u := (i : Int) + 1) (j := j) (by omega))
 all_goals first
 | omega
 | exact q0k _
 | (intro d hd; subst hd; exact ⟨rfl, by simp [D.cells, D.one]⟩)
 | (rw [qzh (by assumption)]; first | done | exact q0k _)
 | (rw [qzj (Nat.le_refl _)]; first | done | exact q0k _)
 | (rw [q6b (j := j - 1) (by omega) (by assumption), show j - 1 + 1 = j by omega]; first | (rw [qrg]; done) | (rw [addE, List.map_append, w64 (by omega) (by omega)]; exact q0k _))
 | (rw [qbcn (j := j - 1) (by omega) (by first | assumption | omega), show j - 1 + 1 = j by omega]; first | done | exact q0k _)
 | (obtain rfl : j = 0 := by omega
    rw [qrc (by first | assumption | exact hj.2), qw2]; first | (rw [qrg]; done) | (rw [addE, List.map_append, w64 (by omega) (by omega)]; exact q0k _))
 | (rw [← qrb, show (999 : Nat) = i by omega]; exact q0k _)
end
def cfg17 : Cfg := ⟨Tryz.prog, 29, q99, mvr, [], (fun _ => none)⟩
theorem qbqr : cfg17.pins = [] ∧ cfg17.P = Tryz.prog ∧ cfg17.N = 29 ∧ cfg17.T 32 = e32 ∧ cfg17.mv 32 = (fun _ => []) ∧ cfg17.T 43 = e43 ∧ cfg17.mv 43 = (fun _ => []) ∧ cfg17.T 44 = e44 ∧ cfg17.mv 44 = (fun _ => []) ∧ cfg17.ti = (fun _ => none) := by and_intros <;> exact rfl
section
attribute [local go_sem] qbqr e32 e43 e44
attribute [local go_sem] ansW
theorem qb1z (hC : COk cfg17) (x : Remote) (ts : List Table) (hp : x.source.length ≤ 1000000 ∧ x.target.length ≤ 1000000 ∧ x.wire.length ≤ 1000000 ∧ okTs ts) : Sem Tryz.prog 17 [.d (qbb x), .d (.sl 6 (ts.map q0c))] (.d (.agg [.sl 6 ((qes x ts).1.map q0c), .sl 8 ((qes x ts).2.1.map q0h), .i .i64 (qes x ts).2.2])) := by
 refine q0g (C := cfg17) (rs := [.cell 4 38]) (fun _ => []) Tryz.func17 rfl rfl rfl rfl rfl rfl ?_
 refine inQ ?_
 repeat' first
 | (with_reducible first | apply q0n | apply q0d | apply Wsq | apply Wbk | apply Wsk | apply Wex | apply Wrt | apply q0o | apply q0p | apply q0e | apply q0f | refine q0b rfl ?_ | apply q0q | apply q0r | apply And.intro)
 | (refine Wat 7 rfl ?_; have hx := qjh (x := x) (by assumption); have hx1 := hx.s; have hx2 := hx.t; clear hx)
 | (with_reducible first | (refine Whr hC ?_; intro K hK) | (refine Whd hC (by kernel_rfl) ?_; intro K hK))
 | (with_reducible first | (refine Wrn hC ?_; intro K hK) | (refine Wdr hC (by kernel_rfl) ?_; intro K hK))
 | ((with_reducible first | refine q0u ?_ | refine qbu ?_ | refine q0m ?_); refine siQ ?_; (try simp (disch := omega) only [w64, wu8]))
 | (with_reducible refine qbh (by kernel_rfl) ?_)
 | ((first | refine Wcd rfl (fun h => ?_) fun h => ?_ | refine Wcu rfl (fun h => ?_) ?_ | refine Wcn rfl ?_ fun h => ?_) <;> (try replace h := q0a h) <;> try (exfalso; first | omega | exact absurd h (by decide)))
 | (refine q0j ?_; refine subQ ?_)
 | (subst hK)
 | exact trivial
 all_goals try (intros; assumption)
 all_goals try refine q0w ?_
 all_goals try replace hp := q0a hp
 all_goals try (intros; first | trivial | omega)
 all_goals (try (rw [w64 (by omega) (by omega)]; first | done | omega))
 all_goals clear hC
 all_goals first
 | omega
 | exact hp.2.2.2
 | (rw [tk_1 (by assumption)]; first | done | rfl | exact q0k _)
 | (rw [tk_2 (by assumption) (by assumption)]; first | done | rfl | exact q0k _)
 | (rw [tk_3 (by assumption) (by assumption)]; first | done | rfl | exact q0k _)
end
def cfg3 : Cfg := ⟨Tryz.prog, 49, qbaa, mvr, [], (fun _ => none)⟩
theorem qbvw : cfg3.pins = [] ∧ cfg3.P = Tryz.prog ∧ cfg3.N = 49 ∧ cfg3.T 6 = e6 ∧ cfg3.mv 6 = (fun _ => []) ∧ cfg3.T 7 = e7 ∧ cfg3.mv 7 = (fun _ => []) ∧ cfg3.T 8 = e8 ∧ cfg3.mv 8 = (fun _ => []) ∧ cfg3.T 9 = e9 ∧ cfg3.mv 9 = (fun _ => []) ∧ cfg3.T 10 = e10 ∧ cfg3.mv 10 = (fun _ => []) ∧ cfg3.T 11 = e11d ∧ cfg3.mv 11 = (fun _ => []) ∧ cfg3.T 12 = e12 ∧ cfg3.mv 12 = (fun _ => []) ∧ cfg3.T 13 = e13 ∧ cfg3.mv 13 = (fun _ => []) ∧ cfg3.T 14 = e14 ∧ cfg3.mv 14 = (fun _ => []) ∧ cfg3.T 15 = e15 ∧ cfg3.mv 15 = (fun _ => []) ∧ cfg3.ti = (fun _ => none) := by and_intros <;> exact rfl
section
attribute [local go_sem] qbvw e6 e7 e8 e9 e10 e11d e12 e13 e14 e15
theorem con3 (hC : COk cfg3) (x : Remote) (ts : List Table) (l : List Entry) : Sem Tryz.prog 3 [.d (qbb x), .d (.sl 6 (ts.map q0c)), .d (.sl 8 (l.map q0h))] (.d (.b true)) := by
 refine q0g (C := cfg3) (rs := [.tmp 6]) (fun _ => []) Tryz.func3 rfl rfl rfl rfl rfl rfl ?_
 refine inQ ?_
 repeat' first
 | (with_reducible first | apply q0n | apply q0d | apply Wsq | apply Wbk | apply Wsk | apply Wex | apply Wrt | apply q0o | apply q0p | apply q0e | apply q0f | refine q0b rfl ?_ | apply q0q | apply q0r | apply And.intro)
 | (with_reducible refine Wrn hC ?_; intro K hK)
 | ((with_reducible first | refine q0u ?_ | refine q0m ?_); refine siQ ?_; (try simp (disch := omega) only [w64, wu8]))
 | ((first | refine Wcd rfl (fun h => ?_) fun h => ?_ | refine Wcu rfl (fun h => ?_) ?_ | refine Wcn rfl ?_ fun h => ?_) <;> (try replace h := q0a h) <;> try (exfalso; first | omega | exact absurd h (by decide)))
 | (refine q0j ?_; refine subQ ?_)
 | (subst hK)
 | exact trivial
 all_goals try (intros; assumption)
 all_goals try refine q0w ?_
 all_goals try (intros; first | trivial | omega)
 all_goals (try (rw [w64 (by omega) (by omega)]; first | done | omega))
 all_goals clear hC
 all_goals first
 | omega
 | (have FX := qqq (x := x) (by grind); first | exact FX.1 | exact FX.2.1 | exact FX.2.2)
 | (have FT := (quv (l := ts) (by grind)).1; first | exact FT | exact FT.1 | exact qey FT | exact qh6 FT | exact qge FT | exact qey (qge FT) | exact fun _ => qey (qge FT) | exact fun _ => qey FT | exact fun _ => qh6 FT | exact fun _ => qi2 (qey (qge FT)) | exact fun _ => qi2 (qey FT) | exact fun _ => qi2 (qh6 FT))
 | (have FU := qsw (x := x) (by grind); have := qsy (x := x) (ts := ts) FU.2; omega)
 | (have FL := qng (l := l) (by grind); omega)
end
def cfg4 : Cfg := ⟨Tryz.prog, 47, tab3, mvr, [], (fun _ => none)⟩
theorem qbvx : cfg4.pins = [] ∧ cfg4.P = Tryz.prog ∧ cfg4.N = 47 ∧ cfg4.T 6 = e6 ∧ cfg4.mv 6 = (fun _ => []) ∧ cfg4.T 7 = e7 ∧ cfg4.mv 7 = (fun _ => []) ∧ cfg4.T 8 = e8 ∧ cfg4.mv 8 = (fun _ => []) ∧ cfg4.T 11 = e11d ∧ cfg4.mv 11 = (fun _ => []) ∧ cfg4.T 12 = e12 ∧ cfg4.mv 12 = (fun _ => []) ∧ cfg4.T 15 = e15 ∧ cfg4.mv 15 = (fun _ => []) ∧ cfg4.T 16 = e16 ∧ cfg4.mv 16 = (fun _ => []) ∧ cfg4.T 17 = e17 ∧ cfg4.mv 17 = (fun _ => []) ∧ cfg4.T 18 = e18 ∧ cfg4.mv 18 = (fun _ => []) ∧ cfg4.ti = (fun _ => none) := by and_intros <;> exact rfl
section
attribute [local go_sem] qbvx e6 e7 e8 e11d e12 e15 e16 e17 e18
theorem con4 (hC : COk cfg4) (x : Remote) (ts : List Table) : Sem Tryz.prog 4 [.d (qbb x), .d (.sl 6 (ts.map q0c))] (.d (.b true)) := by
 refine q0g (C := cfg4) (rs := [.tmp 4]) (fun _ => []) Tryz.func4 rfl rfl rfl rfl rfl rfl ?_
 refine inQ ?_
 repeat' first
 | (with_reducible first | apply q0n | apply q0d | apply Wsq | apply Wbk | apply Wsk | apply Wex | apply Wrt | apply q0o | apply q0p | apply q0e | apply q0f | refine q0b rfl ?_ | apply q0q | apply q0r | apply And.intro)
 | (with_reducible refine Wrn hC ?_; intro K hK)
 | ((with_reducible first | refine q0u ?_ | refine q0m ?_); refine siQ ?_; (try simp (disch := omega) only [w64, wu8]))
 | ((first | refine Wcd rfl (fun h => ?_) fun h => ?_ | refine Wcu rfl (fun h => ?_) ?_ | refine Wcn rfl ?_ fun h => ?_) <;> (try replace h := q0a h) <;> try (exfalso; first | omega | exact absurd h (by decide)))
 | (refine q0j ?_; refine subQ ?_)
 | (subst hK)
 | exact trivial
 all_goals try (intros; assumption)
 all_goals try refine q0w ?_
 all_goals try (intros; first | trivial | omega)
 all_goals (try (rw [w64 (by omega) (by omega)]; first | done | omega))
 all_goals clear hC
 all_goals first
 | omega
 | (have FX := qqq (x := x) (by grind); first | exact FX.1 | exact FX.2.1 | exact FX.2.2)
 | (have FT := (quv (l := ts) (by grind)).1; first | exact FT | exact FT.1 | exact qey FT | exact qh6 FT | exact qge FT | exact qey (qge FT) | exact fun _ => qey (qge FT) | exact fun _ => qey FT | exact fun _ => qh6 FT | exact fun _ => qi2 (qey (qge FT)) | exact fun _ => qi2 (qey FT) | exact fun _ => qi2 (qh6 FT))
 | (have FU := qsw (x := x) (by grind); have := qsy (x := x) (ts := ts) FU.2; omega)
end
end
end Go.Ev
