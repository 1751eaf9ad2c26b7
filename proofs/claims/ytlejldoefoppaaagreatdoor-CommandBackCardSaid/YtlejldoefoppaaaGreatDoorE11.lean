/- Tools and contracts under the laws of this seat: Dtc55, Dtc18, Dtc20, Dtc41, Dtc11. -/
import Derived.Test.YtlejldoefoppaaaGreatDoorE07
set_option linter.unusedVariables false
set_option linter.unusedSimpArgs false
namespace Go.Ev
noncomputable section
open Go.Proofs Ty
set_option maxRecDepth 10000
set_option maxHeartbeats 4000000
attribute [local go_sem] q0r qbb qb6 qcu qbd qb7 qb8 q0i qbn qdr qej qds qdt
def cfg55 : Cfg := ⟨Tryz.prog, 56, qyx, mvs, [0], (fun _ => none)⟩
theorem q7i : cfg55.pins = [0] ∧ cfg55.P = Tryz.prog ∧ cfg55.N = 56 ∧ cfg55.T 54 = e54 ∧ cfg55.mv 54 = (fun j => if j = 0 then [(4242, 99, 0)] else []) ∧ cfg55.T 87 = e87 ∧ cfg55.mv 87 = (fun _ => []) ∧ cfg55.T 95 = e95 ∧ cfg55.mv 95 = (fun j => if j = 0 then [(4242, 99, 0)] else []) ∧ cfg55.T 96 = e96 ∧ cfg55.mv 96 = (fun _ => []) ∧ cfg55.T 97 = e97 ∧ cfg55.mv 97 = (fun j => if j = 0 then [(4242, 99, 0)] else []) ∧ cfg55.T 98 = e98 ∧ cfg55.mv 98 = (fun j => if j = 0 then [(4242, 99, 0)] else []) ∧ cfg55.ti = (fun _ => none) := by and_intros <;> exact rfl
section
attribute [local go_sem] q7i e54 e87 e95 e96 e97 e98
attribute [local go_sem] Int.toNat_natCast_add_one qh5 qgv qh6 List.length_map List.map_append List.map_cons List.map_nil List.length_append List.length_cons List.length_nil qos qhi qba qcg etaB etaW etaS q3y qbk qb2 Int.toNat_natCast qd6
theorem qba9 (hC : COk cfg55) (r : Rd) (hp : r.pos ≤ r.s.size ∧ r.s.size ≤ 400 ∧ asc r.s ∧ r.err = 0) : Sem Tryz.prog 55 [.bx 99 [.d (.s r.s), .d (.i .i64 (r.pos : Int)), .d (.i .i64 r.place), .d (.i .i64 r.err)]] (.tup [.d (q0i r.partV), .bx 99 [.d (.s r.partR.s), .d (.i .i64 (r.partR.pos : Int)), .d (.i .i64 r.partR.place), .d (.i .i64 r.partR.err)]]) := by
 refine q0h (C := cfg55) (rs := [.cell 2 70]) (fun j => if j = 1 then [(4242, 99, 0)] else []) Tryz.func55 rfl rfl rfl rfl rfl rfl ?_
 refine inQ ?_
 repeat' first
 | (with_reducible first | apply q0m | apply q0e | apply Wsq | apply Wbk | apply Wsk | apply Wex | apply Wrt | apply q0n | apply q0o | apply q0f | apply q0g | refine q0c rfl ?_ | apply q0p | apply q0q | apply And.intro)
 | (with_reducible refine Wrn hC ?_; intro K hK)
 | ((with_reducible first | refine q0w ?_ | refine q0l ?_); refine siQ ?_; (try simp (disch := omega) only [w64, wu8]))
 | ((first | refine Wcd rfl (fun h => ?_) fun h => ?_ | refine Wcu rfl (fun h => ?_) ?_ | refine Wcn rfl ?_ fun h => ?_) <;> (try replace h := q0b h) <;> try (exfalso; first | omega | exact absurd h (by decide)))
 | (refine q0j ?_; refine subQ ?_)
 | (subst hK)
 | exact trivial
 all_goals try (intros; assumption)
 all_goals try refine q05 ?_
 all_goals try replace hp := q0b hp
 all_goals try (intros; first | trivial | omega)
 all_goals (try (rw [w64 (by omega) (by omega)]; first | done | omega))
 all_goals (try have hw := qed (r := r) hp.1)
 all_goals first
 | omega
 | exact hp.2.2.1
 | exact hp.2.2.2
 | exact qmd (by assumption)
 | (intro d hd; subst hd; exact ⟨rfl, by simp [D.cells, D.one]⟩)
 | (simp_all [Rd.partV, Rd.partR, q0a]; done)
 | (simp_all [Rd.partV, Rd.partR, q0a, Rd.fail, qbk, qb2, qhi]; done)
 | (rw [show r.partV.values = r.list.2 by simp_all [Rd.partV]]; exact q00 _)
 | (rw [show r.partV.values = r.word.list.2 by simp_all [Rd.partV]]; exact q00 _)
 | (rw [show r.partV.values = [r.valV] by simp_all [Rd.partV]]; exact q00 _)
end
def cfg18 : Cfg := ⟨Tryz.prog, 75, qyy, mvs, [], (fun _ => none)⟩
theorem q7j : cfg18.pins = [] ∧ cfg18.P = Tryz.prog ∧ cfg18.N = 75 ∧ cfg18.T 50 = e50 ∧ cfg18.mv 50 = (fun _ => []) ∧ cfg18.T 51 = e51 ∧ cfg18.mv 51 = (fun _ => []) ∧ cfg18.T 52 = e52 ∧ cfg18.mv 52 = (fun j => if j = 0 then [(4242, 99, 0)] else []) ∧ cfg18.T 53 = e53 ∧ cfg18.mv 53 = (fun j => if j = 0 then [(4242, 99, 0)] else []) ∧ cfg18.T 54 = e54 ∧ cfg18.mv 54 = (fun j => if j = 0 then [(4242, 99, 0)] else []) ∧ cfg18.T 55 = e55 ∧ cfg18.mv 55 = (fun j => if j = 0 then [(4242, 99, 0)] else []) ∧ cfg18.ti = (fun _ => none) := by and_intros <;> exact rfl
section
attribute [local go_sem] q7j e50 e51 e52 e53 e54 e55
attribute [local go_sem] Int.toNat_natCast_add_one qh5 qgv qh6 List.length_map List.map_append List.map_cons List.map_nil List.length_append List.length_cons List.length_nil qos qhi qba qcg eta0 qow qkg qgd etaN etaP q2k qer qli q06 qev etaB etaW etaS q3y qbk qb2 Int.toNat_natCast qd6
theorem qbba (hC : COk cfg18) (s : ByteArray) : Sem Tryz.prog 18 [.d (.s s)] (.tup [.d (q06 (qck s).1), .d (.i .i64 (qck s).2.1), .d (.i .i64 (qck s).2.2)]) := by
 refine q0h (C := cfg18) (rs := [.cell 2 33, .tmp 3, .tmp 4]) (fun _ => []) Tryz.func18 rfl rfl rfl rfl rfl rfl ?_
 refine inQ ?_
 repeat' first
 | (with_reducible first | apply q0m | apply q0e | apply Wsq | apply Wbk | apply Wsk | apply Wex | apply Wrt | apply q0n | apply q0o | apply q0f | apply q0g | refine q0c rfl ?_ | apply q0p | apply q0q | apply And.intro)
 | (with_reducible first | (refine Wrn hC ?_; intro K hK) | (refine Wdr hC (by kernel_rfl) ?_; intro K hK))
 | ((with_reducible first | refine q0w ?_ | refine qdk ?_ | refine q0l ?_); refine siQ ?_; (try simp (disch := omega) only [w64, wu8]))
 | (with_reducible refine qcx (by kernel_rfl) ?_)
 | ((first | refine Wcd rfl (fun h => ?_) fun h => ?_ | refine Wcu rfl (fun h => ?_) ?_ | refine Wcn rfl ?_ fun h => ?_) <;> (try replace h := q0b h) <;> try (exfalso; first | omega | exact absurd h (by decide)))
 | (refine Wlp 9 rfl (ι := Rd × List CPart) (fun p => mkS [(0, V.d (.s s)), (2, V.ptr 32 0), (6, .ptr 336 0), (7, .ptr 112 0)] ([(32, .live (.box 33 [.d (.s ⟨#[]⟩), .d .nil])), (336, .live (.box 99 [.d (.s p.1.s), .d (.i .i64 (p.1.pos : Int)), .d (.i .i64 p.1.place), .d (.i .i64 p.1.err)])), (112, .live (.box 33 [.d (.s (rd0 s).nmT), V.row 64 2 0 p.2.length])), (64, .live (.row 70 2 false (p.2.map q0i)))])) (fun p => p.1.s = s ∧ p.1.pos ≤ 401 ∧ s.size ≤ 400 ∧ ¬ 0 ≤ qee s ∧ p.2.length ≤ 12 ∧ prun 13 (rd0 s).nmR.blanks [] = prun (13 - p.2.length) p.1 p.2 ∧ (p.1.err = 0 → p.1.pos ≤ s.size)) (fun p => 13 - p.2.length) (((rd0 s).nmR.blanks, [])) ?_ ?_ (fun p hi => ?_) <;> (try dsimp only) <;> (try dsimp only at hi))
 | (refine Wnx 9 ((p.1.partR.blanks, p.2 ++ [p.1.partV])) ?_ ?_ ?_ <;> (try dsimp only))
 | (refine q0j ?_; refine subQ ?_)
 | (subst hK)
 | exact trivial
 all_goals try (intros; assumption)
 all_goals try refine q05 ?_
 all_goals try replace hi := q0b hi
 all_goals try (intros; first | trivial | omega)
 all_goals (try (rw [w64 (by omega) (by omega)]; first | done | omega))
 all_goals (try have hn := qql (r := rd0 s) (Nat.zero_le _))
 all_goals (try rw [qow] at hn)
 all_goals first
 | omega
 | (rw [qij (by assumption)]; first | done | rfl)
 | (rw [qox (by assumption) (by assumption)]; first | done | rfl)
 | exact Nat.zero_le _
 | exact qrq ⟨by omega, qja (by omega)⟩
 | (rw [qba, qkg]; rfl)
 | exact fun _ => qwg
 | (have := qwg (s := s); omega)
 | (exfalso; rw [fE2 (by have := hi; omega)] at h; cases h)
 | (have c := hi
    obtain ⟨c1, c2, c3, c4, c5, c6, c7⟩ := c
    have hs : p.1.s.size = s.size := by rw [c1]
    first
     | omega
     | (rw [c1]; omega)
     | exact c1
     | exact c1.symm
     | (intro d hd; subst hd; exact ⟨rfl, by simp [D.cells, D.one]⟩)
     | (simp only [List.map_append, List.map_cons, List.map_nil]; exact q00 _)
     | (rw [c1]; exact qrq ⟨by omega, qja (by omega)⟩)
     | (rw [qba, qgd]; exact c1)
     | exact q5r c6 c5 ⟨by omega, by omega⟩ (by omega)
     | (have := q00a (r := p.1) (by omega) (by omega); rw [hs] at this; first | exact this.2 | omega)
     | (have := qiw (r := p.1) (by omega); omega)
     | (rw [List.length_append, List.length_singleton]; omega)
     | (have e := q5q c6 ⟨by omega, by omega⟩ (by omega)
        first
         | (rw [qkh (by assumption) (by assumption) e h]; first | done | rfl)
         | (exfalso; rw [fE2 (by omega)] at h; cases h)
         )
     | (have e := q8e c6 (by omega)
        first
         | (rw [qkh (by assumption) (by assumption) e h]; first | done | rfl)
         | (rw [qlj (by assumption) (by assumption) e h]; first | done | rfl | (rw [qdu _ _ (by rw [List.length_map])]; exact q00 _))
         )
     )
end
def cfg20 : Cfg := ⟨Tryz.prog, 72, qyz, mvs, [], (fun _ => none)⟩
theorem q7k : cfg20.pins = [] ∧ cfg20.P = Tryz.prog ∧ cfg20.N = 72 := ⟨rfl, rfl, rfl⟩
section
attribute [local go_sem] q7k
attribute [local go_sem] q06 qbg qek qev Int.toNat_natCast q5i List.length_map
theorem qbbb (hC : COk cfg20) (a : CStr) (b : CStr) (hp : qx8 a) : Sem Tryz.prog 20 [.d (q06 a), .d (q06 b)] (.d (.b (decide (a = b)))) := by
 refine q0h (C := cfg20) (rs := [.tmp 4]) (fun _ => []) Tryz.func20 rfl rfl rfl rfl rfl rfl ?_
 refine inQ ?_
 repeat' first
 | (with_reducible first | apply q0m | apply q0e | apply Wsq | apply Wbk | apply Wsk | apply Wex | apply Wrt | apply q0n | apply q0o | apply q0f | apply q0g | refine q0c rfl ?_ | apply q0p | apply q0q | apply And.intro)
 | (refine Wat 6 rfl ?_; have hga : ∀ z, (a.parts.map q0i).getD i z = q0i (a.parts.getD i q0a) := fun z => qdj (by omega) z; have hgb : ∀ z, (b.parts.map q0i).getD i z = q0i (b.parts.getD i q0a) := fun z => qdj (by omega) z)
 | (with_reducible first | (refine Whr hC ?_; intro K hK) | (refine Whd hC (by kernel_rfl) ?_; intro K hK))
 | (with_reducible first | (refine Wrn hC ?_; intro K hK) | (refine Wdr hC (by kernel_rfl) ?_; intro K hK))
 | ((with_reducible first | refine q0w ?_ | refine qdk ?_ | refine q0l ?_); (first | (simp (maxSteps := 1000000) only [go_sem, ↓reduceIte, reduceCtorEq, Nat.reduceEqDiff, Nat.reduceLT, Nat.reduceLeDiff, Nat.reduceMul, Nat.reduceAdd, Nat.reduceSub, reduceDIte, Nat.reduceBEq, Nat.reduceBNe, hga, hgb]) | (refine siQ ?_)); (try simp (disch := omega) only [w64, wu8]))
 | (with_reducible refine qcx (by kernel_rfl) ?_)
 | ((first | refine Wcd rfl (fun h => ?_) fun h => ?_ | refine Wcu rfl (fun h => ?_) ?_ | refine Wcn rfl ?_ fun h => ?_) <;> (try replace h := q0b h) <;> try (exfalso; first | omega | exact absurd h (by decide)))
 | (refine Wlp 4 rfl (ι := Nat) (fun i => mkS [(2, V.ptr 32 0), (3, V.ptr 48 0), (5, V.d (.i .i64 (i : Int)))] ([(32, .live (.box 33 [.d (.s a.name), .d (.sl 2 (a.parts.map q0i))])), (48, .live (.box 33 [.d (.s b.name), .d (.sl 2 (b.parts.map q0i))]))])) (fun i => i ≤ a.parts.length ∧ a.name = b.name ∧ a.parts.length = b.parts.length ∧ a.parts.take i = b.parts.take i) (fun i => a.parts.length - i) (0) ?_ ?_ (fun i hi => ?_) <;> (try dsimp only) <;> (try dsimp only at hi))
 | (refine Wnx 4 (i + 1) ?_ ?_ ?_ <;> (try dsimp only))
 | (refine Wlp 10 rfl (ι := Nat) (fun k => mkS [(2, V.ptr 32 0), (3, V.ptr 48 0), (5, V.d (.i .i64 (i : Int))), (6, V.ptr 96 0), (7, V.ptr 112 0), (8, V.d (.i .i64 (k : Int)))] ([(32, .live (.box 33 [.d (.s a.name), .d (.sl 2 (a.parts.map q0i))])), (48, .live (.box 33 [.d (.s b.name), .d (.sl 2 (b.parts.map q0i))])), (96, .live (.box 70 [.d (.s (a.parts.getD i q0a).keyword), .d (.sl 2 ((a.parts.getD i q0a).values.map q0r))])), (112, .live (.box 70 [.d (.s (b.parts.getD i q0a).keyword), .d (.sl 2 ((b.parts.getD i q0a).values.map q0r))]))])) (fun k => k ≤ (a.parts.getD i q0a).values.length ∧ (a.parts.getD i q0a).keyword = (b.parts.getD i q0a).keyword ∧ (a.parts.getD i q0a).values.length = (b.parts.getD i q0a).values.length ∧ (a.parts.getD i q0a).values.take k = (b.parts.getD i q0a).values.take k) (fun k => (a.parts.getD i q0a).values.length - k) (0) ?_ ?_ (fun k hk => ?_) <;> (try dsimp only) <;> (try dsimp only at hk))
 | (refine Wnx 10 (k + 1) ?_ ?_ ?_ <;> (try dsimp only))
 | (refine q0j ?_; refine subQ ?_)
 | (subst hK)
 | exact trivial
 all_goals try (intros; assumption)
 all_goals try refine q05 ?_
 all_goals try replace hp := q0b hp
 all_goals try replace hi := q0b hi
 all_goals try replace hk := q0b hk
 all_goals try (intros; first | trivial | omega)
 all_goals (try (rw [w64 (by omega) (by omega)]; first | done | omega))
 all_goals clear hC
 all_goals (try have q1 := hp.1)
 all_goals (try have q2 := hp.2 i)
 all_goals (try obtain ⟨i1, i2, i3, i4⟩ := hi)
 all_goals (try obtain ⟨k1, k2, k3, k4⟩ := hk)
 all_goals first
 | omega
 | exact h.1
 | exact i2
 | exact k2
 | (rw [w64 (by omega) (by omega)]; omega)
 | (intro e; subst e; simp at h; done)
 | (intro e; subst e; rcases h with h | h <;> exact h rfl)
 | exact qlg k4 (by omega) (by omega) (by assumption)
 | (refine qlg (z := q0a) i4 (by omega) (by omega) (q55 k2 (qm1 k4 (by omega) (by omega))))
 | exact q8i i2 (qm1 i4 (by omega) (by omega))
end
def cfg41 : Cfg := ⟨Tryz.prog, 43, qy0, mvs, [], (fun _ => none)⟩
theorem q7l : cfg41.pins = [] ∧ cfg41.P = Tryz.prog ∧ cfg41.N = 43 ∧ cfg41.T 18 = e18 ∧ cfg41.mv 18 = (fun _ => []) ∧ cfg41.T 20 = e20 ∧ cfg41.mv 20 = (fun _ => []) ∧ cfg41.T 23 = e23 ∧ cfg41.mv 23 = (fun _ => []) ∧ cfg41.T 34 = e34 ∧ cfg41.mv 34 = (fun _ => []) ∧ cfg41.T 36 = e36 ∧ cfg41.mv 36 = (fun _ => []) ∧ cfg41.ti = (fun _ => none) := by and_intros <;> exact rfl
section
attribute [local go_sem] q7l e18 e20 e23 e34 e36
attribute [local go_sem] q06 qbg qek qev
theorem qbbc (hC : COk cfg41) (c : CStr) (hp : cErr c = 0) : Sem Tryz.prog 41 [.d (q06 c)] (.d (.b true)) := by
 refine q0h (C := cfg41) (rs := [.tmp 2]) (fun _ => []) Tryz.func41 rfl rfl rfl rfl rfl rfl ?_
 refine inQ ?_
 repeat' first
 | (with_reducible first | apply q0m | apply q0e | apply Wsq | apply Wbk | apply Wsk | apply Wex | apply Wrt | apply q0n | apply q0o | apply q0f | apply q0g | refine q0c rfl ?_ | apply q0p | apply q0q | apply And.intro)
 | (with_reducible refine Wrn hC ?_; intro K hK)
 | ((with_reducible first | refine q0w ?_ | refine q0l ?_); (first | (simp (maxSteps := 1000000) only [go_sem, ↓reduceIte, reduceCtorEq, Nat.reduceEqDiff, Nat.reduceLT, Nat.reduceLeDiff, Nat.reduceMul, Nat.reduceAdd, Nat.reduceSub, reduceDIte, Nat.reduceBEq, Nat.reduceBNe, hp]) | (refine siQ ?_)); (try simp (disch := omega) only [w64, wu8]))
 | ((first | refine Wcd rfl (fun h => ?_) fun h => ?_ | refine Wcu rfl (fun h => ?_) ?_ | refine Wcn rfl ?_ fun h => ?_) <;> (try replace h := q0b h) <;> try (exfalso; first | omega | exact absurd h (by decide)))
 | (refine q0j ?_; refine subQ ?_)
 | (subst hK)
 | exact trivial
 all_goals try (intros; assumption)
 all_goals try refine q05 ?_
 all_goals try replace hp := q0b hp
 all_goals try (intros; first | trivial | omega)
 all_goals (try (rw [w64 (by omega) (by omega)]; first | done | omega))
 all_goals clear hC
 all_goals first
 | exact qpz hp
 | exact fun _ => qqr (qpz hp)
 | exact qqr (qpz hp)
 | (rw [qij (by omega)]; first | done | rfl)
 | (rw [qy1 hp (by omega)]; first | done | rfl | exact qqr (qpz hp) | (simp; done))
end
def cfg11 : Cfg := ⟨Tryz.prog, 38, qy5, mvs, [], (fun _ => none)⟩
theorem q7m : cfg11.pins = [] ∧ cfg11.P = Tryz.prog ∧ cfg11.N = 38 ∧ cfg11.T 13 = e13 ∧ cfg11.mv 13 = (fun _ => []) ∧ cfg11.T 18 = e18 ∧ cfg11.mv 18 = (fun _ => []) ∧ cfg11.T 21 = e21 ∧ cfg11.mv 21 = (fun _ => []) ∧ cfg11.T 34 = e34 ∧ cfg11.mv 34 = (fun _ => []) ∧ cfg11.T 41 = e41 ∧ cfg11.mv 41 = (fun _ => []) ∧ cfg11.ti = (fun _ => none) := by and_intros <;> exact rfl
section
attribute [local go_sem] q7m e13 e18 e21 e34 e41
attribute [local go_sem] q06 qbg qek qev
theorem qbbd (hC : COk cfg11) (c : CStr) (s : ByteArray) : Sem Tryz.prog 11 [.d (q06 c), .d (.s s)] (.d (.b true)) := by
 refine q0h (C := cfg11) (rs := [.tmp 4]) (fun _ => []) Tryz.func11 rfl rfl rfl rfl rfl rfl ?_
 refine inQ ?_
 repeat' first
 | (with_reducible first | apply q0m | apply q0e | apply Wsq | apply Wbk | apply Wsk | apply Wex | apply Wrt | apply q0n | apply q0o | apply q0f | apply q0g | refine q0c rfl ?_ | apply q0p | apply q0q | apply And.intro)
 | (with_reducible refine Wrn hC ?_; intro K hK)
 | ((with_reducible first | refine q0w ?_ | refine q0l ?_); refine siQ ?_; (try simp (disch := omega) only [w64, wu8]))
 | ((first | refine Wcd rfl (fun h => ?_) fun h => ?_ | refine Wcu rfl (fun h => ?_) ?_ | refine Wcn rfl ?_ fun h => ?_) <;> (try replace h := q0b h) <;> try (exfalso; first | omega | exact absurd h (by decide)))
 | (refine q0j ?_; refine subQ ?_)
 | (subst hK)
 | exact trivial
 all_goals try (intros; assumption)
 all_goals try refine q05 ?_
 all_goals try (intros; first | trivial | omega)
 all_goals (try (rw [w64 (by omega) (by omega)]; first | done | omega))
 all_goals clear hC
 all_goals first
 | (exact q00q (And.right (by assumption)))
 | (exact qm7 (by assumption))
 | (intro k; exact qm7 k)
end
end
end Go.Ev
