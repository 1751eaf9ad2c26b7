/- Tools and contracts under the laws of this seat: Dtc55, Dtc18, Dtc20, Dtc41, Dtc11, Dtc42, Dtc12. -/
import Derived.Test.YtlejldoefoppaaaGreatDoorE07
set_option linter.unusedVariables false
set_option linter.unusedSimpArgs false
namespace Go.Ev
noncomputable section
open Go.Proofs Ty
set_option maxRecDepth 10000
set_option maxHeartbeats 4000000
def cfg55 : Cfg := ⟨Tryz.prog, 56, qz7, mvs, [0], (fun _ => none)⟩
theorem q83 : cfg55.pins = [0] ∧ cfg55.P = Tryz.prog ∧ cfg55.N = 56 ∧ cfg55.T 54 = e54 ∧ cfg55.mv 54 = (fun j => if j = 0 then [(4242, 99, 0)] else []) ∧ cfg55.T 87 = e87 ∧ cfg55.mv 87 = (fun _ => []) ∧ cfg55.T 95 = e95 ∧ cfg55.mv 95 = (fun j => if j = 0 then [(4242, 99, 0)] else []) ∧ cfg55.T 96 = e96 ∧ cfg55.mv 96 = (fun _ => []) ∧ cfg55.T 97 = e97 ∧ cfg55.mv 97 = (fun j => if j = 0 then [(4242, 99, 0)] else []) ∧ cfg55.T 98 = e98 ∧ cfg55.mv 98 = (fun j => if j = 0 then [(4242, 99, 0)] else []) ∧ cfg55.ti = (fun _ => none) := by and_intros <;> exact rfl
section
attribute [local go_sem] q83 e54 e87 e95 e96 e97 e98
attribute [local go_sem] q0k qba qbq qb4 q09 qbr qbs q0d qbd qcd qcy qce qcf Int.toNat_natCast_add_one qim qha qin List.length_map List.map_append List.map_cons List.map_nil List.length_append List.length_cons List.length_nil qpo qh0 qbe qcq etaB etaW etaS q5h qbn qb9 Int.toNat_natCast qd4
theorem qbc3 (hC : COk cfg55) (r : Rd) (hp : r.pos ≤ r.s.size ∧ r.s.size ≤ 400 ∧ asc r.s ∧ r.err = 0) : Sem Tryz.prog 55 [.bx 99 [.d (.s r.s), .d (.i .i64 (r.pos : Int)), .d (.i .i64 r.place), .d (.i .i64 r.err)]] (.tup [.d (q0d r.partV), .bx 99 [.d (.s r.partR.s), .d (.i .i64 (r.partR.pos : Int)), .d (.i .i64 r.partR.place), .d (.i .i64 r.partR.err)]]) := by
 refine q0i (C := cfg55) (rs := [.cell 2 70]) (fun j => if j = 1 then [(4242, 99, 0)] else []) Tryz.func55 rfl rfl rfl rfl rfl rfl ?_
 refine inQ ?_
 repeat' first
 | (with_reducible first | apply q0n | apply q0f | apply Wsq | apply Wbk | apply Wsk | apply Wex | apply Wrt | apply q0o | apply q0p | apply q0g | apply q0h | refine q0c rfl ?_ | apply q0q | apply q0r | apply And.intro)
 | (with_reducible refine Wrn hC ?_; intro K hK)
 | ((with_reducible first | refine q0w ?_ | refine q0m ?_); refine siQ ?_; (try simp (disch := omega) only [w64, wu8]))
 | ((first | refine Wcd rfl (fun h => ?_) fun h => ?_ | refine Wcu rfl (fun h => ?_) ?_ | refine Wcn rfl ?_ fun h => ?_) <;> (try replace h := q0a h) <;> try (exfalso; first | omega | exact absurd h (by decide)))
 | (refine q0j ?_; refine subQ ?_)
 | (subst hK)
 | exact trivial
 all_goals try (intros; assumption)
 all_goals try refine q07 ?_
 all_goals try replace hp := q0a hp
 all_goals try (intros; first | trivial | omega)
 all_goals (try (rw [w64 (by omega) (by omega)]; first | done | omega))
 all_goals (try have hw := qer (r := r) hp.1)
 all_goals first
 | omega
 | exact hp.2.2.1
 | exact hp.2.2.2
 | exact qm5 (by assumption)
 | (intro d hd; subst hd; exact ⟨rfl, by simp [D.cells, D.one]⟩)
 | (simp_all [Rd.partV, Rd.partR, q0b]; done)
 | (simp_all [Rd.partV, Rd.partR, q0b, Rd.fail, qbn, qb9, qh0]; done)
 | (rw [show r.partV.values = r.list.2 by simp_all [Rd.partV]]; exact q00 _)
 | (rw [show r.partV.values = r.word.list.2 by simp_all [Rd.partV]]; exact q00 _)
 | (rw [show r.partV.values = [r.valV] by simp_all [Rd.partV]]; exact q00 _)
end
def cfg18 : Cfg := ⟨Tryz.prog, 75, qz8, mvs, [], (fun _ => none)⟩
theorem q84 : cfg18.pins = [] ∧ cfg18.P = Tryz.prog ∧ cfg18.N = 75 ∧ cfg18.T 50 = e50 ∧ cfg18.mv 50 = (fun _ => []) ∧ cfg18.T 51 = e51 ∧ cfg18.mv 51 = (fun _ => []) ∧ cfg18.T 52 = e52 ∧ cfg18.mv 52 = (fun j => if j = 0 then [(4242, 99, 0)] else []) ∧ cfg18.T 53 = e53 ∧ cfg18.mv 53 = (fun j => if j = 0 then [(4242, 99, 0)] else []) ∧ cfg18.T 54 = e54 ∧ cfg18.mv 54 = (fun j => if j = 0 then [(4242, 99, 0)] else []) ∧ cfg18.T 55 = e55 ∧ cfg18.mv 55 = (fun j => if j = 0 then [(4242, 99, 0)] else []) ∧ cfg18.ti = (fun _ => none) := by and_intros <;> exact rfl
section
attribute [local go_sem] q84 e50 e51 e52 e53 e54 e55
attribute [local go_sem] q0k qba qbq qb4 q09 qbr qbs q0d qbd qcd qcy qce qcf Int.toNat_natCast_add_one qim qha qin List.length_map List.map_append List.map_cons List.map_nil List.length_append List.length_cons List.length_nil qpo qh0 qbe qcq eta0 qpt qk6 qgp etaN etaP q31 qe2 ql8 q05 qew etaB etaW etaS q5h qbn qb9 Int.toNat_natCast qd4
theorem qbc4 (hC : COk cfg18) (s : ByteArray) : Sem Tryz.prog 18 [.d (.s s)] (.tup [.d (q05 (qca s).1), .d (.i .i64 (qca s).2.1), .d (.i .i64 (qca s).2.2)]) := by
 refine q0i (C := cfg18) (rs := [.cell 2 33, .tmp 3, .tmp 4]) (fun _ => []) Tryz.func18 rfl rfl rfl rfl rfl rfl ?_
 refine inQ ?_
 repeat' first
 | (with_reducible first | apply q0n | apply q0f | apply Wsq | apply Wbk | apply Wsk | apply Wex | apply Wrt | apply q0o | apply q0p | apply q0g | apply q0h | refine q0c rfl ?_ | apply q0q | apply q0r | apply And.intro)
 | (with_reducible first | (refine Wrn hC ?_; intro K hK) | (refine Wdr hC (by kernel_rfl) ?_; intro K hK))
 | ((with_reducible first | refine q0w ?_ | refine qdx ?_ | refine q0m ?_); refine siQ ?_; (try simp (disch := omega) only [w64, wu8]))
 | (with_reducible refine qc7 (by kernel_rfl) ?_)
 | ((first | refine Wcd rfl (fun h => ?_) fun h => ?_ | refine Wcu rfl (fun h => ?_) ?_ | refine Wcn rfl ?_ fun h => ?_) <;> (try replace h := q0a h) <;> try (exfalso; first | omega | exact absurd h (by decide)))
 | (refine Wlp 9 rfl (ι := Rd × List CPart) (fun p => mkS [(0, V.d (.s s)), (2, V.ptr 32 0), (6, .ptr 336 0), (7, .ptr 112 0)] ([(32, .live (.box 33 [.d (.s ⟨#[]⟩), .d .nil])), (336, .live (.box 99 [.d (.s p.1.s), .d (.i .i64 (p.1.pos : Int)), .d (.i .i64 p.1.place), .d (.i .i64 p.1.err)])), (112, .live (.box 33 [.d (.s (rd0 s).nmT), V.row 64 2 0 p.2.length])), (64, .live (.row 70 2 false (p.2.map q0d)))])) (fun p => p.1.s = s ∧ p.1.pos ≤ 401 ∧ s.size ≤ 400 ∧ ¬ 0 ≤ qei s ∧ p.2.length ≤ 12 ∧ prun 13 (rd0 s).nmR.blanks [] = prun (13 - p.2.length) p.1 p.2 ∧ (p.1.err = 0 → p.1.pos ≤ s.size)) (fun p => 13 - p.2.length) (((rd0 s).nmR.blanks, [])) ?_ ?_ (fun p hi => ?_) <;> (try dsimp only) <;> (try dsimp only at hi))
 | (refine Wnx 9 ((p.1.partR.blanks, p.2 ++ [p.1.partV])) ?_ ?_ ?_ <;> (try dsimp only))
 | (refine q0j ?_; refine subQ ?_)
 | (subst hK)
 | exact trivial
 all_goals try (intros; assumption)
 all_goals try refine q07 ?_
 all_goals try replace hi := q0a hi
 all_goals try (intros; first | trivial | omega)
 all_goals (try (rw [w64 (by omega) (by omega)]; first | done | omega))
 all_goals (try have hn := qrl (r := rd0 s) (Nat.zero_le _))
 all_goals (try rw [qpt] at hn)
 all_goals first
 | omega
 | (rw [qi0 (by assumption)]; first | done | rfl)
 | (rw [qpu (by assumption) (by assumption)]; first | done | rfl)
 | exact Nat.zero_le _
 | exact qsq ⟨by omega, qjw (by omega)⟩
 | (rw [qbe, qk6]; rfl)
 | exact fun _ => qxs
 | (have := qxs (s := s); omega)
 | (exfalso; rw [fE2 (by have := hi; omega)] at h; cases h)
 | (have c := hi
    obtain ⟨c1, c2, c3, c4, c5, c6, c7⟩ := c
    have hs : p.1.s.size = s.size := by rw [c1]
    first
     | omega
     | (rw [c1]; omega)
     | exact c1
     | exact c1.symm
     | (intro d hd; subst hd; exact ⟨rfl, by simp [D.cells, D.one]⟩)
     | (simp only [List.map_append, List.map_cons, List.map_nil]; exact q00 _)
     | (rw [c1]; exact qsq ⟨by omega, qjw (by omega)⟩)
     | (rw [qbe, qgp]; exact c1)
     | exact q7b c6 c5 ⟨by omega, by omega⟩ (by omega)
     | (have := q1p (r := p.1) (by omega) (by omega); rw [hs] at this; first | exact this.2 | omega)
     | (have := qjg (r := p.1) (by omega); omega)
     | (rw [List.length_append, List.length_singleton]; omega)
     | (have e := q7a c6 ⟨by omega, by omega⟩ (by omega)
        first
         | (rw [qk7 (by assumption) (by assumption) e h]; first | done | rfl)
         | (exfalso; rw [fE2 (by omega)] at h; cases h)
         )
     | (have e := q91 c6 (by omega)
        first
         | (rw [qk7 (by assumption) (by assumption) e h]; first | done | rfl)
         | (rw [qjh (by assumption) (by assumption) e h]; first | done | rfl | (rw [qdk _ _ (by rw [List.length_map])]; exact q00 _))
         )
     )
end
def cfg20 : Cfg := ⟨Tryz.prog, 72, qz9, mvs, [], (fun _ => none)⟩
theorem q85 : cfg20.pins = [] ∧ cfg20.P = Tryz.prog ∧ cfg20.N = 72 := ⟨rfl, rfl, rfl⟩
section
attribute [local go_sem] q85
attribute [local go_sem] q0k qba qbq qb4 q09 qbr qbs q0d qbd qcd qcy qce qcf q05 qbf qd6 qew Int.toNat_natCast q62 List.length_map
theorem qbc5 (hC : COk cfg20) (a : CStr) (b : CStr) (hp : qzj a) : Sem Tryz.prog 20 [.d (q05 a), .d (q05 b)] (.d (.b (decide (a = b)))) := by
 refine q0i (C := cfg20) (rs := [.tmp 4]) (fun _ => []) Tryz.func20 rfl rfl rfl rfl rfl rfl ?_
 refine inQ ?_
 repeat' first
 | (with_reducible first | apply q0n | apply q0f | apply Wsq | apply Wbk | apply Wsk | apply Wex | apply Wrt | apply q0o | apply q0p | apply q0g | apply q0h | refine q0c rfl ?_ | apply q0q | apply q0r | apply And.intro)
 | (refine Wat 6 rfl ?_; have hga : ∀ z, (a.parts.map q0d).getD i z = q0d (a.parts.getD i q0b) := fun z => qdw (by omega) z; have hgb : ∀ z, (b.parts.map q0d).getD i z = q0d (b.parts.getD i q0b) := fun z => qdw (by omega) z)
 | (with_reducible first | (refine Whr hC ?_; intro K hK) | (refine Whd hC (by kernel_rfl) ?_; intro K hK))
 | (with_reducible first | (refine Wrn hC ?_; intro K hK) | (refine Wdr hC (by kernel_rfl) ?_; intro K hK))
 | ((with_reducible first | refine q0w ?_ | refine qdx ?_ | refine q0m ?_); (first | (simp (maxSteps := 1000000) only [go_sem, ↓reduceIte, reduceCtorEq, Nat.reduceEqDiff, Nat.reduceLT, Nat.reduceLeDiff, Nat.reduceMul, Nat.reduceAdd, Nat.reduceSub, reduceDIte, Nat.reduceBEq, Nat.reduceBNe, hga, hgb]) | (refine siQ ?_)); (try simp (disch := omega) only [w64, wu8]))
 | (with_reducible refine qc7 (by kernel_rfl) ?_)
 | ((first | refine Wcd rfl (fun h => ?_) fun h => ?_ | refine Wcu rfl (fun h => ?_) ?_ | refine Wcn rfl ?_ fun h => ?_) <;> (try replace h := q0a h) <;> try (exfalso; first | omega | exact absurd h (by decide)))
 | (refine Wlp 4 rfl (ι := Nat) (fun i => mkS [(2, V.ptr 32 0), (3, V.ptr 48 0), (5, V.d (.i .i64 (i : Int)))] ([(32, .live (.box 33 [.d (.s a.name), .d (.sl 2 (a.parts.map q0d))])), (48, .live (.box 33 [.d (.s b.name), .d (.sl 2 (b.parts.map q0d))]))])) (fun i => i ≤ a.parts.length ∧ a.name = b.name ∧ a.parts.length = b.parts.length ∧ a.parts.take i = b.parts.take i) (fun i => a.parts.length - i) (0) ?_ ?_ (fun i hi => ?_) <;> (try dsimp only) <;> (try dsimp only at hi))
 | (refine Wnx 4 (i + 1) ?_ ?_ ?_ <;> (try dsimp only))
 | (refine Wlp 10 rfl (ι := Nat) (fun k => mkS [(2, V.ptr 32 0), (3, V.ptr 48 0), (5, V.d (.i .i64 (i : Int))), (6, V.ptr 96 0), (7, V.ptr 112 0), (8, V.d (.i .i64 (k : Int)))] ([(32, .live (.box 33 [.d (.s a.name), .d (.sl 2 (a.parts.map q0d))])), (48, .live (.box 33 [.d (.s b.name), .d (.sl 2 (b.parts.map q0d))])), (96, .live (.box 70 [.d (.s (a.parts.getD i q0b).keyword), .d (.sl 2 ((a.parts.getD i q0b).values.map q0k))])), (112, .live (.box 70 [.d (.s (b.parts.getD i q0b).keyword), .d (.sl 2 ((b.parts.getD i q0b).values.map q0k))]))])) (fun k => k ≤ (a.parts.getD i q0b).values.length ∧ (a.parts.getD i q0b).keyword = (b.parts.getD i q0b).keyword ∧ (a.parts.getD i q0b).values.length = (b.parts.getD i q0b).values.length ∧ (a.parts.getD i q0b).values.take k = (b.parts.getD i q0b).values.take k) (fun k => (a.parts.getD i q0b).values.length - k) (0) ?_ ?_ (fun k hk => ?_) <;> (try dsimp only) <;> (try dsimp only at hk))
 | (refine Wnx 10 (k + 1) ?_ ?_ ?_ <;> (try dsimp only))
 | (refine q0j ?_; refine subQ ?_)
 | (subst hK)
 | exact trivial
 all_goals try (intros; assumption)
 all_goals try refine q07 ?_
 all_goals try replace hp := q0a hp
 all_goals try replace hi := q0a hi
 all_goals try replace hk := q0a hk
 all_goals try (intros; first | trivial | omega)
 all_goals (try (rw [w64 (by omega) (by omega)]; first | done | omega))
 all_goals clear hC
 all_goals (try have q1 := hp.1)
 all_goals (try have q2 := hp.2 i)
 all_goals (try obtain ⟨i1, i2, i3, i4⟩ := hi)
 all_goals (try obtain ⟨k1, k2, k3, k4⟩ := hk)
 all_goals first
 | omega
 | exact h.1
 | exact i2
 | exact k2
 | (rw [w64 (by omega) (by omega)]; omega)
 | (intro e; subst e; simp at h; done)
 | (intro e; subst e; rcases h with h | h <;> exact h rfl)
 | exact ql6 k4 (by omega) (by omega) (by assumption)
 | (refine ql6 (z := q0b) i4 (by omega) (by omega) (q7p k2 (qnu k4 (by omega) (by omega))))
 | exact q96 i2 (qnu i4 (by omega) (by omega))
end
def cfg41 : Cfg := ⟨Tryz.prog, 43, q00a, mvs, [], (fun _ => none)⟩
theorem q86 : cfg41.pins = [] ∧ cfg41.P = Tryz.prog ∧ cfg41.N = 43 ∧ cfg41.T 18 = e18 ∧ cfg41.mv 18 = (fun _ => []) ∧ cfg41.T 20 = e20 ∧ cfg41.mv 20 = (fun _ => []) ∧ cfg41.T 23 = e23 ∧ cfg41.mv 23 = (fun _ => []) ∧ cfg41.T 34 = e34 ∧ cfg41.mv 34 = (fun _ => []) ∧ cfg41.T 36 = e36 ∧ cfg41.mv 36 = (fun _ => []) ∧ cfg41.ti = (fun _ => none) := by and_intros <;> exact rfl
section
attribute [local go_sem] q86 e18 e20 e23 e34 e36
attribute [local go_sem] q0k qba qbq qb4 q09 qbr qbs q0d qbd qcd qcy qce qcf q05 qbf qd6 qew
theorem qbc6 (hC : COk cfg41) (c : CStr) (hp : cErr c = 0) : Sem Tryz.prog 41 [.d (q05 c)] (.d (.b true)) := by
 refine q0i (C := cfg41) (rs := [.tmp 2]) (fun _ => []) Tryz.func41 rfl rfl rfl rfl rfl rfl ?_
 refine inQ ?_
 repeat' first
 | (with_reducible first | apply q0n | apply q0f | apply Wsq | apply Wbk | apply Wsk | apply Wex | apply Wrt | apply q0o | apply q0p | apply q0g | apply q0h | refine q0c rfl ?_ | apply q0q | apply q0r | apply And.intro)
 | (with_reducible refine Wrn hC ?_; intro K hK)
 | ((with_reducible first | refine q0w ?_ | refine q0m ?_); (first | (simp (maxSteps := 1000000) only [go_sem, ↓reduceIte, reduceCtorEq, Nat.reduceEqDiff, Nat.reduceLT, Nat.reduceLeDiff, Nat.reduceMul, Nat.reduceAdd, Nat.reduceSub, reduceDIte, Nat.reduceBEq, Nat.reduceBNe, hp]) | (refine siQ ?_)); (try simp (disch := omega) only [w64, wu8]))
 | ((first | refine Wcd rfl (fun h => ?_) fun h => ?_ | refine Wcu rfl (fun h => ?_) ?_ | refine Wcn rfl ?_ fun h => ?_) <;> (try replace h := q0a h) <;> try (exfalso; first | omega | exact absurd h (by decide)))
 | (refine q0j ?_; refine subQ ?_)
 | (subst hK)
 | exact trivial
 all_goals try (intros; assumption)
 all_goals try refine q07 ?_
 all_goals try replace hp := q0a hp
 all_goals try (intros; first | trivial | omega)
 all_goals (try (rw [w64 (by omega) (by omega)]; first | done | omega))
 all_goals clear hC
 all_goals first
 | exact qmn hp
 | exact fun _ => qnb (qmn hp)
 | exact qnb (qmn hp)
 | (rw [qi0 (by omega)]; first | done | rfl)
 | (rw [q00b hp (by omega)]; first | done | rfl | exact qnb (qmn hp) | (simp; done))
end
def cfg11 : Cfg := ⟨Tryz.prog, 38, q00f, mvs, [], (fun _ => none)⟩
theorem q87 : cfg11.pins = [] ∧ cfg11.P = Tryz.prog ∧ cfg11.N = 38 ∧ cfg11.T 13 = e13 ∧ cfg11.mv 13 = (fun _ => []) ∧ cfg11.T 18 = e18 ∧ cfg11.mv 18 = (fun _ => []) ∧ cfg11.T 21 = e21 ∧ cfg11.mv 21 = (fun _ => []) ∧ cfg11.T 34 = e34 ∧ cfg11.mv 34 = (fun _ => []) ∧ cfg11.T 41 = e41 ∧ cfg11.mv 41 = (fun _ => []) ∧ cfg11.ti = (fun _ => none) := by and_intros <;> exact rfl
section
attribute [local go_sem] q87 e13 e18 e21 e34 e41
attribute [local go_sem] q0k qba qbq qb4 q09 qbr qbs q0d qbd qcd qcy qce qcf q05 qbf qd6 qew
theorem qbc7 (hC : COk cfg11) (c : CStr) (s : ByteArray) : Sem Tryz.prog 11 [.d (q05 c), .d (.s s)] (.d (.b true)) := by
 refine q0i (C := cfg11) (rs := [.tmp 4]) (fun _ => []) Tryz.func11 rfl rfl rfl rfl rfl rfl ?_
 refine inQ ?_
 repeat' first
 | (with_reducible first | apply q0n | apply q0f | apply Wsq | apply Wbk | apply Wsk | apply Wex | apply Wrt | apply q0o | apply q0p | apply q0g | apply q0h | refine q0c rfl ?_ | apply q0q | apply q0r | apply And.intro)
 | (with_reducible refine Wrn hC ?_; intro K hK)
 | ((with_reducible first | refine q0w ?_ | refine q0m ?_); refine siQ ?_; (try simp (disch := omega) only [w64, wu8]))
 | ((first | refine Wcd rfl (fun h => ?_) fun h => ?_ | refine Wcu rfl (fun h => ?_) ?_ | refine Wcn rfl ?_ fun h => ?_) <;> (try replace h := q0a h) <;> try (exfalso; first | omega | exact absurd h (by decide)))
 | (refine q0j ?_; refine subQ ?_)
 | (subst hK)
 | exact trivial
 all_goals try (intros; assumption)
 all_goals try refine q07 ?_
 all_goals try (intros; first | trivial | omega)
 all_goals (try (rw [w64 (by omega) (by omega)]; first | done | omega))
 all_goals clear hC
 all_goals first
 | (exact qqm (And.right (by assumption)))
 | (exact qn1 (by assumption))
 | (intro k; exact qn1 k)
end
def cfg42 : Cfg := ⟨Tryz.prog, 18, q00g, mvs, [], (fun _ => none)⟩
theorem q88 : cfg42.pins = [] ∧ cfg42.P = Tryz.prog ∧ cfg42.N = 18 := ⟨rfl, rfl, rfl⟩
section
attribute [local go_sem] q88
attribute [local go_sem] q92 List.length_replicate List.length_map q4u Int.toNat_natCast
theorem qbc8 (hC : COk cfg42) (c : Int) (n : Int) (hp : n ≤ 1000) : Sem Tryz.prog 42 [.d (.i .u8 c), .d (.i .i64 n)] (.d (.s (txt (List.replicate n.toNat c)))) := by
 refine q0i (C := cfg42) (rs := [.tmp 4]) (fun _ => []) Tryz.func42 rfl rfl rfl rfl rfl rfl ?_
 refine inQ ?_
 repeat' first
 | (with_reducible first | apply q0n | apply q0f | apply Wsq | apply Wbk | apply Wsk | apply Wex | apply Wrt | apply q0o | apply q0p | apply q0g | apply q0h | refine q0c rfl ?_ | apply q0q | apply q0r | apply And.intro)
 | (with_reducible refine Wrn hC ?_; intro K hK)
 | ((with_reducible first | refine q0w ?_ | refine q0m ?_); refine siQ ?_; (try simp (disch := omega) only [w64, wu8]))
 | ((first | refine Wcd rfl (fun h => ?_) fun h => ?_ | refine Wcu rfl (fun h => ?_) ?_ | refine Wcn rfl ?_ fun h => ?_) <;> (try replace h := q0a h) <;> try (exfalso; first | omega | exact absurd h (by decide)))
 | (refine Wlp 3 rfl (ι := Nat) (fun i => mkS [(0, V.d (.i .u8 c)), (1, V.d (.i .i64 n)), (5, V.row 80 1 0 i), (6, V.d (.i .i64 (i : Int)))] ([(80, .live (.row 5 1 false ((List.replicate i c).map (D.i .u8))))])) (fun i => i ≤ n.toNat) (fun i => n.toNat - i) (0) ?_ ?_ (fun i hi => ?_) <;> (try dsimp only) <;> (try dsimp only at hi))
 | (refine Wnx 3 (i + 1) ?_ ?_ ?_ <;> (try dsimp only))
 | (refine q0j ?_; refine subQ ?_)
 | (subst hK)
 | exact trivial
 all_goals try (intros; assumption)
 all_goals try refine q07 ?_
 all_goals try replace hp := q0a hp
 all_goals try replace hi := q0a hi
 all_goals try (intros; first | trivial | omega)
 all_goals (try (rw [w64 (by omega) (by omega)]; first | done | omega))
 all_goals clear hC
 all_goals first
 | omega
 | (rw [w64 (by omega) (by omega)]; omega)
 | (intro d hd; subst hd; exact ⟨rfl, by simp [D.cells, D.one]⟩)
 | exact qvb _
 | (rw [show i = n.toNat by omega]; done)
 | (have e : i = n.toNat := by omega
    subst e; rfl)
 | (rw [List.replicate_succ', List.map_append]; exact q00 _)
end
def cfg12 : Cfg := ⟨Tryz.prog, 99, q00k, mvs, [], (fun _ => none)⟩
theorem q89 : cfg12.pins = [] ∧ cfg12.P = Tryz.prog ∧ cfg12.N = 99 ∧ cfg12.T 13 = e13 ∧ cfg12.mv 13 = (fun _ => []) ∧ cfg12.T 18 = e18 ∧ cfg12.mv 18 = (fun _ => []) ∧ cfg12.T 20 = e20 ∧ cfg12.mv 20 = (fun _ => []) ∧ cfg12.T 21 = e21 ∧ cfg12.mv 21 = (fun _ => []) ∧ cfg12.T 23 = e23 ∧ cfg12.mv 23 = (fun _ => []) ∧ cfg12.T 34 = e34 ∧ cfg12.mv 34 = (fun _ => []) ∧ cfg12.T 36 = e36 ∧ cfg12.mv 36 = (fun _ => []) ∧ cfg12.T 42 = e42 ∧ cfg12.mv 42 = (fun _ => []) ∧ cfg12.T 43 = e43 ∧ cfg12.mv 43 = (fun _ => []) ∧ cfg12.ti = (fun _ => none) := by and_intros <;> exact rfl
section
attribute [local go_sem] q89 e13 e18 e20 e21 e23 e34 e36 e42 e43
attribute [local go_sem] q0k qba qbq qb4 q09 qbr qbs q0d qbd qcd qcy qce qcf q05 qbf qd6 qew toN1 qd4 Int.toNat_natCast
theorem qbc9 (hC : COk cfg12) (c : CStr) (bk : Int) : Sem Tryz.prog 12 [.d (q05 c), .d (.i .u8 bk)] (.d (.b true)) := by
 refine q0i (C := cfg12) (rs := [.tmp 4]) (fun _ => []) Tryz.func12 rfl rfl rfl rfl rfl rfl ?_
 refine inQ ?_
 repeat' first
 | (with_reducible first | apply q0n | apply q0f | apply Wsq | apply Wbk | apply Wsk | apply Wex | apply Wrt | apply q0o | apply q0p | apply q0g | apply q0h | refine q0c rfl ?_ | apply q0q | apply q0r | apply And.intro)
 | (with_reducible refine Wrn hC ?_; intro K hK)
 | ((with_reducible first | refine q0w ?_ | refine q0m ?_); refine siQ ?_; (try simp (disch := omega) only [w64, wu8]))
 | ((first | refine Wcd rfl (fun h => ?_) fun h => ?_ | refine Wcu rfl (fun h => ?_) ?_ | refine Wcn rfl ?_ fun h => ?_) <;> (try replace h := q0a h) <;> try (exfalso; first | omega | exact absurd h (by decide)))
 | (refine Wlp 12 rfl (ι := Nat) (fun i => mkS [(2, V.ptr 32 0), (5, V.d (.s (comT c))), (7, V.d (.s (blT (mB bk)))), (8, V.d (.s (qen (mB bk) (comT c) i))), (9, V.d (.b (q0x (mB bk) false ((comT c).data.toList.take i)).1)), (10, V.d (.i .i64 (i : Int)))] ([(32, .live (.box 33 [.d (.s c.name), .d (.sl 2 (c.parts.map q0d))]))])) (fun i => i ≤ (comT c).size) (fun i => (comT c).size - i) (0) ?_ ?_ (fun i hi => ?_) <;> (try dsimp only) <;> (try dsimp only at hi))
 | (refine Wnx 12 (i + 1) ?_ ?_ ?_ <;> (try dsimp only))
 | (refine q0j ?_; refine subQ ?_)
 | (subst hK)
 | exact trivial
 all_goals try (intros; assumption)
 all_goals try refine q07 ?_
 all_goals try replace hi := q0a hi
 all_goals try (intros; first | trivial | omega)
 all_goals (try (rw [w64 (by omega) (by omega)]; first | done | omega))
 all_goals clear hC
 all_goals first
 | (exact fun k => qqm k)
 | (exact qqm (And.left (by assumption)))
 | (have hz : cErr c = 0 := by assumption
    have hm := qbb0 bk
    have hcs := q2l hz
    have hwm : IntKind.i64.wrap (bk.tmod 4) = bk.tmod 4 := w64 (by have := Int.lt_tmod_of_pos bk (show (0 : Int) < 4 by decide); omega) (by have := Int.tmod_lt_of_pos bk (show (0 : Int) < 4 by decide); omega)
    first
     | (rw [if_pos hz]; done)
     | (rw [hwm]; have := Int.tmod_lt_of_pos bk (show (0 : Int) < 4 by decide); omega)
     | (rw [hwm]; exact (qyd _).symm)
     | (rw [hwm, q78]; exact (qyd _).symm)
     | (have hw : IntKind.i64.wrap ((i : Int) + 1) = (i : Int) + 1 := w64 (by omega) (by omega)
        have hf := q00j hm (comT c) i
        simp only [hw, toN1] at *
        first
         | omega
         | (have he := ext1 (s := comT c) (i := i) (by omega)
            simp only [he, qwr, qbb1]; omega)
         | (intro d hd; subst hd; exact ⟨rfl, by simp [D.cells, D.one]⟩)
         | (exfalso; exact qbb2 (m := mB bk) (s := comT c) (i := i) (by omega) (by assumption) (by assumption))
         | (exfalso; exact qbb4 (m := mB bk) (s := comT c) (i := i) (by assumption) (by assumption))
         | (exfalso; exact qbb3 (m := mB bk) (s := comT c) (i := i) (by omega) (by assumption) (by assumption))
         | exact (fk_4 (by omega) (by assumption)).1
         | exact (fk_4 (by omega) (by assumption)).2
         | exact (fk_6 (by omega) (by assumption) (by assumption)).1
         | exact (fk_7 (by omega) (by assumption)).1
         | exact (fk_8 (by omega) (by assumption) (by assumption) (by assumption)).1
         | exact (fk_6 (by omega) (by assumption) (by assumption)).2
         | exact (fk_7 (by omega) (by assumption)).2
         | exact (fk_8 (by omega) (by assumption) (by assumption) (by assumption)).2
         | (simp only [qwr]; omega)
         | exact fun _ => qnb (qmn hz)
         | (rw [q00i hz (by omega) (by first | omega | (rw [qld]; omega))]; first | done | rfl | (simp; done))
         )
     )
end
end
end Go.Ev
