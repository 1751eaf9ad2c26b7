/- Tools and contracts under the laws of this seat: Dtc52, Dtc97, Dtc55, Dtc18, Dtc59, Dtc56, Dtc100, Dtc58, Dtc102, Dtc101, Dtc60. -/
import Derived.Test.YtlejldoefoppaaaGreatDoorE07
set_option linter.unusedVariables false
set_option linter.unusedSimpArgs false
namespace Go.Ev
noncomputable section
open Go.Proofs Ty
set_option maxRecDepth 10000
set_option maxHeartbeats 4000000
def cfg52 : Cfg := ⟨Tryz.prog, 51, qux, mvs, [0], (fun _ => none)⟩
theorem q1m : cfg52.pins = [0] ∧ cfg52.P = Tryz.prog ∧ cfg52.N = 51 ∧ cfg52.T 53 = e53 ∧ cfg52.mv 53 = (fun j => if j = 0 then [(4242, 99, 0)] else []) ∧ cfg52.T 54 = e54 ∧ cfg52.mv 54 = (fun j => if j = 0 then [(4242, 99, 0)] else []) ∧ cfg52.T 87 = e87 ∧ cfg52.mv 87 = (fun _ => []) ∧ cfg52.T 95 = e95 ∧ cfg52.mv 95 = (fun j => if j = 0 then [(4242, 99, 0)] else []) ∧ cfg52.T 96 = e96 ∧ cfg52.mv 96 = (fun _ => []) ∧ cfg52.ti = (fun _ => none) := by and_intros <;> exact rfl
section
attribute [local go_sem] q1m e53 e54 e87 e95 e96
attribute [local go_sem] q0s qcc qei qe7 qcp qej qek Int.toNat_natCast_add_one qel qdt qem List.length_map List.map_append List.map_cons List.map_nil List.length_append List.length_cons List.length_nil qhr qew q0n qba etaB etaW Int.toNat_natCast qct
theorem q4h (hC : COk cfg52) (r : Rd) (hp : r.pos ≤ r.s.size ∧ asc r.s) : Sem Tryz.prog 52 [.bx 99 [.d (.s r.s), .d (.i .i64 (r.pos : Int)), .d (.i .i64 r.place), .d (.i .i64 r.err)]] (.tup [.d (.s r.nmT), .bx 99 [.d (.s r.nmR.s), .d (.i .i64 (r.nmR.pos : Int)), .d (.i .i64 r.nmR.place), .d (.i .i64 r.nmR.err)]]) := by
 refine q0i (C := cfg52) (rs := [.tmp 2]) (fun j => if j = 1 then [(4242, 99, 0)] else []) Tryz.func52 rfl rfl rfl rfl rfl rfl ?_
 refine inQ ?_
 repeat' first
 | (with_reducible first | apply q0y | apply q0f | apply Wsq | apply Wbk | apply Wsk | apply Wex | apply Wrt | apply q0z | apply q00 | apply q0g | apply q0h | refine q0d rfl ?_ | apply q01 | apply q02 | apply And.intro)
 | (with_reducible first | (refine Wrn hC ?_; intro K hK) | (refine Wdr hC (by kernel_rfl) ?_; intro K hK))
 | ((with_reducible first | refine q08 ?_ | refine qcl ?_ | refine q0x ?_); refine siQ ?_; (try simp (disch := omega) only [w64, wu8]))
 | (with_reducible refine qb4 (by kernel_rfl) ?_)
 | ((first | refine Wcd rfl (fun h => ?_) fun h => ?_ | refine Wcu rfl (fun h => ?_) ?_ | refine Wcn rfl ?_ fun h => ?_) <;> (try replace h := q0e h) <;> try (exfalso; first | omega | exact absurd h (by decide)))
 | (refine q0t ?_; refine subQ ?_)
 | (subst hK)
 | exact trivial
 all_goals try (intros; assumption)
 all_goals try refine qbm ?_
 all_goals try replace hp := q0e hp
 all_goals try (intros; first | trivial | omega)
 all_goals (try (rw [w64 (by omega) (by omega)]; first | done | omega))
 all_goals (try have hz := hp.2.1)
 all_goals (try have hb := qbk hp.1)
 all_goals (try have hw := qcz (r := r.blanks) hb.2)
 all_goals first
 | omega
 | exact hp.2
 | exact qgg hp.2 _ _
 | (have h0 : r.blanks.pos = r.s.size := by omega
    first
     | (rw [q3r h0]; done)
     | (rw [qyv h0]; rfl))
 | (have h0 : ¬ r.blanks.pos = r.s.size := by omega
    first
     | (rw [qyu h0]; done)
     | (rw [qyw h0 (by assumption)]; first
         | (rw [qgm (r := r.blanks.word) (by assumption) (by assumption)]; rfl)
         | (rw [qgm (r := r.blanks.word) (And.left (by assumption)) (And.right (by assumption))]; rfl)
         | (rw [qf4 (r := r.blanks.word) (by assumption)]; done)
         | (rw [qf4 (r := r.blanks.word) (by assumption)]; rfl))
     | (rw [qyx h0 (by assumption)]; first
         | (rw [qgm (r := r.blanks.word) (And.left (by assumption)) (And.right (by assumption))]; rfl)
         | (rw [qf4 (r := r.blanks.word) (by assumption)]; done)
         | (rw [qf4 (r := r.blanks.word) (by assumption)]; rfl))
     )
end
def cfg97 : Cfg := ⟨Tryz.prog, 123, quy, mvs, [0], (fun _ => none)⟩
theorem q1n : cfg97.pins = [0] ∧ cfg97.P = Tryz.prog ∧ cfg97.N = 123 ∧ cfg97.T 53 = e53 ∧ cfg97.mv 53 = (fun j => if j = 0 then [(4242, 99, 0)] else []) ∧ cfg97.T 54 = e54 ∧ cfg97.mv 54 = (fun j => if j = 0 then [(4242, 99, 0)] else []) ∧ cfg97.T 96 = e96 ∧ cfg97.mv 96 = (fun _ => []) ∧ cfg97.T 98 = e98 ∧ cfg97.mv 98 = (fun j => if j = 0 then [(4242, 99, 0)] else []) ∧ cfg97.ti = (fun _ => none) := by and_intros <;> exact rfl
section
attribute [local go_sem] q1n e53 e54 e96 e98
attribute [local go_sem] q0s qcc qei qe7 qcp qej qek Int.toNat_natCast_add_one qel qdt qem List.length_map List.map_append List.map_cons List.map_nil List.length_append List.length_cons List.length_nil qhr qew q0n qba etaB etaW etaS q04 qbh Int.toNat_natCast qct
theorem q4i (hC : COk cfg97) (r : Rd) (hp : r.pos < r.s.size ∧ r.s.size ≤ 400 ∧ asc r.s ∧ r.err = 0) : Sem Tryz.prog 97 [.bx 99 [.d (.s r.s), .d (.i .i64 (r.pos : Int)), .d (.i .i64 r.place), .d (.i .i64 r.err)]] (.tup [.d (.sl 2 (r.list.2.map q0s)), .bx 99 [.d (.s r.list.1.s), .d (.i .i64 (r.list.1.pos : Int)), .d (.i .i64 r.list.1.place), .d (.i .i64 r.list.1.err)]]) := by
 refine q0i (C := cfg97) (rs := [.tmp 2]) (fun j => if j = 1 then [(4242, 99, 0)] else []) Tryz.func97 rfl rfl rfl rfl rfl rfl ?_
 refine inQ ?_
 repeat' first
 | (with_reducible first | apply q0y | apply q0f | apply Wsq | apply Wbk | apply Wsk | apply Wex | apply Wrt | apply q0z | apply q00 | apply q0g | apply q0h | refine q0d rfl ?_ | apply q01 | apply q02 | apply And.intro)
 | (with_reducible first | (refine Wrn hC ?_; intro K hK) | (refine Wdr hC (by kernel_rfl) ?_; intro K hK))
 | ((with_reducible first | refine q08 ?_ | refine qcl ?_ | refine q0x ?_); refine siQ ?_; (try simp (disch := omega) only [w64, wu8]))
 | (with_reducible refine qb4 (by kernel_rfl) ?_)
 | ((first | refine Wcd rfl (fun h => ?_) fun h => ?_ | refine Wcu rfl (fun h => ?_) ?_ | refine Wcn rfl ?_ fun h => ?_) <;> (try replace h := q0e h) <;> try (exfalso; first | omega | exact absurd h (by decide)))
 | (refine Wlp 5 rfl (ι := Rd × List CVal) (fun p => mkS [(0, .ptr 0 0), (3, V.d (.i .i64 (r.pos : Int))), (4, V.row 64 2 0 p.2.length)] ([(0, .live (.box 99 [.d (.s p.1.s), .d (.i .i64 (p.1.pos : Int)), .d (.i .i64 p.1.place), .d (.i .i64 p.1.err)])), (64, .live (.row 76 2 false (p.2.map q0s)))])) (fun p => p.1.s = r.s ∧ p.1.pos ≤ r.s.size ∧ r.s.size ≤ 400 ∧ p.2.length ≤ 10 ∧ r.list = lrun r.pos (12 - p.2.length) p.1 p.2) (fun p => 11 - p.2.length) (((r.to (r.pos + 1)).blanks, [])) ?_ ?_ (fun p hi => ?_) <;> (try dsimp only) <;> (try dsimp only at hi))
 | (refine Wnx 5 (((p.1.valR.stop true).blanks, p.2 ++ [p.1.valV])) ?_ ?_ ?_ <;> (try dsimp only))
 | (refine q0t ?_; refine subQ ?_)
 | (subst hK)
 | exact trivial
 all_goals try (intros; assumption)
 all_goals try refine qbm ?_
 all_goals try replace hp := q0e hp
 all_goals try replace hi := q0e hi
 all_goals try (intros; first | trivial | omega)
 all_goals (try (rw [w64 (by omega) (by omega)]; first | done | omega))
 all_goals (try have hz := hp.2.1)
 all_goals first
 | omega
 | exact (qbk (r := r.to (r.pos + 1)) (by show r.pos + 1 ≤ r.s.size; omega)).2
 | (intro _; rw [hi.1]; omega)
 | (rw [hi.1]; omega)
 | (intro d hd; subst hd; exact ⟨rfl, by simp [D.cells, D.one]⟩)
 | (rw [hi.1]; exact hp.2.2.1)
 | (rw [List.length_append, List.length_singleton]; omega)
 | (have v := qff (r := p.1) (by rw [hi.1]; omega)
    rw [hi.1] at v
    rw [qbp]; omega)
 | (rw [q0n, q04, qbh, hi.1])
 | (have b := qbk (r := p.1.valR.stop true) (by rw [qbp, q04, qbh]; exact (qff (by rw [hi.1]; omega)).2)
    rw [q04, qbh, hi.1] at b
    exact b.2)
 | exact q00i hi.2.2.2.2 hi.2.2.2.1 (by assumption) (by assumption) (by assumption)
 | (have e := q00g hi.2.2.2.2 hi.2.2.2.1 (by assumption) (by assumption)
    rw [e]
    first
     | rfl
     | (rw [qdo (q := p.1) (by assumption)]; rfl)
     | (rw [qdo (q := p.1) (by assumption)]; done)
     | (rw [qd5 (q := p.1) (by first | assumption | exact .inl (by show (p.1.s.size : Int) ≤ (p.1.pos : Int) + 1; omega))]; rfl)
     | (rw [qd5 (q := p.1) (by first | assumption | exact .inl (by show (p.1.s.size : Int) ≤ (p.1.pos : Int) + 1; omega))]; done)
     | (rw [qby _ _ (by rw [List.length_map])]; exact q0b _)
     )
 | (have e := q00h hi.2.2.2.2 hi.2.2.2.1 (by assumption) (by assumption) (by assumption)
    rw [e]
    first
     | rfl
     | (rw [qdo (q := p.1) (by assumption)]; rfl)
     | (rw [qdo (q := p.1) (by assumption)]; done)
     | (rw [qd5 (q := p.1) (by first | assumption | exact .inl (by show (p.1.s.size : Int) ≤ (p.1.pos : Int) + 1; omega))]; rfl)
     | (rw [qd5 (q := p.1) (by first | assumption | exact .inl (by show (p.1.s.size : Int) ≤ (p.1.pos : Int) + 1; omega))]; done)
     | (rw [qby _ _ (by rw [List.length_map])]; exact q0b _)
     )
 | (have e := qwa hi.2.2.2.2 hi.2.2.2.1 (by assumption) (by assumption)
    rw [e]; done)
 | (have e := qwa hi.2.2.2.2 hi.2.2.2.1 (by assumption) (by assumption)
    rw [e]
    first
     | rfl
     | (rw [qdo (q := p.1) (by assumption)]; rfl)
     | (rw [qdo (q := p.1) (by assumption)]; done)
     | (rw [qd5 (q := p.1) (by first | assumption | exact .inl (by show (p.1.s.size : Int) ≤ (p.1.pos : Int) + 1; omega))]; rfl)
     | (rw [qd5 (q := p.1) (by first | assumption | exact .inl (by show (p.1.s.size : Int) ≤ (p.1.pos : Int) + 1; omega))]; done)
     | (rw [qby _ _ (by rw [List.length_map])]; exact q0b _)
     )
 | (have e := q2k hi.2.2.2.2 hi.2.2.2.1 (by assumption) (by assumption) (by assumption)
    rw [e]
    first
     | rfl
     | (rw [qhs (q := p.1) (by assumption)]; rfl)
     | (rw [qhs (q := p.1) (by assumption)]; done)
     | (rw [qi8 (q := p.1) (by first | assumption | exact .inl (by show (p.1.s.size : Int) ≤ (p.1.pos : Int) + 1; omega))]; rfl)
     | (rw [qi8 (q := p.1) (by first | assumption | exact .inl (by show (p.1.s.size : Int) ≤ (p.1.pos : Int) + 1; omega))]; done)
     | (rw [qby _ _ (by rw [List.length_map])]; exact q0b _)
     )
 | (have e := q2l hi.2.2.2.2 hi.2.2.2.1 (by assumption) (by assumption) (by assumption) (by assumption)
    rw [e]
    first
     | rfl
     | (rw [qhs (q := p.1) (by assumption)]; rfl)
     | (rw [qhs (q := p.1) (by assumption)]; done)
     | (rw [qi8 (q := p.1) (by first | assumption | exact .inl (by show (p.1.s.size : Int) ≤ (p.1.pos : Int) + 1; omega))]; rfl)
     | (rw [qi8 (q := p.1) (by first | assumption | exact .inl (by show (p.1.s.size : Int) ≤ (p.1.pos : Int) + 1; omega))]; done)
     | (rw [qby _ _ (by rw [List.length_map])]; exact q0b _)
     )
 | (have e := q3s hi.2.2.2.2 hi.2.2.2.1 (by assumption) (by assumption) (by assumption) (by assumption)
    rw [e]
    first
     | rfl
     | (rw [qdo (q := p.1) (by assumption)]; rfl)
     | (rw [qdo (q := p.1) (by assumption)]; done)
     | (rw [qd5 (q := p.1) (by first | assumption | exact .inl (by show (p.1.s.size : Int) ≤ (p.1.pos : Int) + 1; omega))]; rfl)
     | (rw [qd5 (q := p.1) (by first | assumption | exact .inl (by show (p.1.s.size : Int) ≤ (p.1.pos : Int) + 1; omega))]; done)
     | (rw [qby _ _ (by rw [List.length_map])]; exact q0b _)
     )
end
def cfg55 : Cfg := ⟨Tryz.prog, 56, quz, mvs, [0], (fun _ => none)⟩
theorem q1o : cfg55.pins = [0] ∧ cfg55.P = Tryz.prog ∧ cfg55.N = 56 ∧ cfg55.T 54 = e54 ∧ cfg55.mv 54 = (fun j => if j = 0 then [(4242, 99, 0)] else []) ∧ cfg55.T 87 = e87 ∧ cfg55.mv 87 = (fun _ => []) ∧ cfg55.T 95 = e95 ∧ cfg55.mv 95 = (fun j => if j = 0 then [(4242, 99, 0)] else []) ∧ cfg55.T 96 = e96 ∧ cfg55.mv 96 = (fun _ => []) ∧ cfg55.T 97 = e97 ∧ cfg55.mv 97 = (fun j => if j = 0 then [(4242, 99, 0)] else []) ∧ cfg55.T 98 = e98 ∧ cfg55.mv 98 = (fun j => if j = 0 then [(4242, 99, 0)] else []) ∧ cfg55.ti = (fun _ => none) := by and_intros <;> exact rfl
section
attribute [local go_sem] q1o e54 e87 e95 e96 e97 e98
attribute [local go_sem] q0s qcc qei qe7 qcp qej qek q0v qdf qi3 qkp qi4 qi5 Int.toNat_natCast_add_one qel qdt qem List.length_map List.map_append List.map_cons List.map_nil List.length_append List.length_cons List.length_nil qhr qew q0n qba etaB etaW etaS qua q04 qbh Int.toNat_natCast qct
theorem q4j (hC : COk cfg55) (r : Rd) (hp : r.pos ≤ r.s.size ∧ r.s.size ≤ 400 ∧ asc r.s ∧ r.err = 0) : Sem Tryz.prog 55 [.bx 99 [.d (.s r.s), .d (.i .i64 (r.pos : Int)), .d (.i .i64 r.place), .d (.i .i64 r.err)]] (.tup [.d (q0v r.partV), .bx 99 [.d (.s r.partR.s), .d (.i .i64 (r.partR.pos : Int)), .d (.i .i64 r.partR.place), .d (.i .i64 r.partR.err)]]) := by
 refine q0i (C := cfg55) (rs := [.cell 2 70]) (fun j => if j = 1 then [(4242, 99, 0)] else []) Tryz.func55 rfl rfl rfl rfl rfl rfl ?_
 refine inQ ?_
 repeat' first
 | (with_reducible first | apply q0y | apply q0f | apply Wsq | apply Wbk | apply Wsk | apply Wex | apply Wrt | apply q0z | apply q00 | apply q0g | apply q0h | refine q0d rfl ?_ | apply q01 | apply q02 | apply And.intro)
 | (with_reducible refine Wrn hC ?_; intro K hK)
 | ((with_reducible first | refine q08 ?_ | refine q0x ?_); refine siQ ?_; (try simp (disch := omega) only [w64, wu8]))
 | ((first | refine Wcd rfl (fun h => ?_) fun h => ?_ | refine Wcu rfl (fun h => ?_) ?_ | refine Wcn rfl ?_ fun h => ?_) <;> (try replace h := q0e h) <;> try (exfalso; first | omega | exact absurd h (by decide)))
 | (refine q0t ?_; refine subQ ?_)
 | (subst hK)
 | exact trivial
 all_goals try (intros; assumption)
 all_goals try refine qbm ?_
 all_goals try replace hp := q0e hp
 all_goals try (intros; first | trivial | omega)
 all_goals (try (rw [w64 (by omega) (by omega)]; first | done | omega))
 all_goals (try have hw := qcz (r := r) hp.1)
 all_goals first
 | omega
 | exact hp.2.2.1
 | exact hp.2.2.2
 | exact qks (by assumption)
 | (intro d hd; subst hd; exact ⟨rfl, by simp [D.cells, D.one]⟩)
 | (simp_all [Rd.partV, Rd.partR, q09]; done)
 | (simp_all [Rd.partV, Rd.partR, q09, Rd.fail, q04, qbh, qew]; done)
 | (rw [show r.partV.values = r.list.2 by simp_all [Rd.partV]]; exact q0b _)
 | (rw [show r.partV.values = r.word.list.2 by simp_all [Rd.partV]]; exact q0b _)
 | (rw [show r.partV.values = [r.valV] by simp_all [Rd.partV]]; exact q0b _)
end
def cfg18 : Cfg := ⟨Tryz.prog, 75, qu0, mvs, [], (fun _ => none)⟩
theorem q1p : cfg18.pins = [] ∧ cfg18.P = Tryz.prog ∧ cfg18.N = 75 ∧ cfg18.T 50 = e50 ∧ cfg18.mv 50 = (fun _ => []) ∧ cfg18.T 51 = e51 ∧ cfg18.mv 51 = (fun _ => []) ∧ cfg18.T 52 = e52 ∧ cfg18.mv 52 = (fun j => if j = 0 then [(4242, 99, 0)] else []) ∧ cfg18.T 53 = e53 ∧ cfg18.mv 53 = (fun j => if j = 0 then [(4242, 99, 0)] else []) ∧ cfg18.T 54 = e54 ∧ cfg18.mv 54 = (fun j => if j = 0 then [(4242, 99, 0)] else []) ∧ cfg18.T 55 = e55 ∧ cfg18.mv 55 = (fun j => if j = 0 then [(4242, 99, 0)] else []) ∧ cfg18.ti = (fun _ => none) := by and_intros <;> exact rfl
section
attribute [local go_sem] q1p e50 e51 e52 e53 e54 e55
attribute [local go_sem] q0s qcc qei qe7 qcp qej qek q0v qdf qi3 qkp qi4 qi5 Int.toNat_natCast_add_one qel qdt qem List.length_map List.map_append List.map_cons List.map_nil List.length_append List.length_cons List.length_nil qhr qew q0n qba eta0 qi9 qkt qf6 etaN etaP qrf qfu qo2 qd0 qv4 etaB etaW etaS qua q04 qbh Int.toNat_natCast qct
theorem q4k (hC : COk cfg18) (s : ByteArray) : Sem Tryz.prog 18 [.d (.s s)] (.tup [.d (qd0 (qcb s).1), .d (.i .i64 (qcb s).2.1), .d (.i .i64 (qcb s).2.2)]) := by
 refine q0i (C := cfg18) (rs := [.cell 2 33, .tmp 3, .tmp 4]) (fun _ => []) Tryz.func18 rfl rfl rfl rfl rfl rfl ?_
 refine inQ ?_
 repeat' first
 | (with_reducible first | apply q0y | apply q0f | apply Wsq | apply Wbk | apply Wsk | apply Wex | apply Wrt | apply q0z | apply q00 | apply q0g | apply q0h | refine q0d rfl ?_ | apply q01 | apply q02 | apply And.intro)
 | (with_reducible first | (refine Wrn hC ?_; intro K hK) | (refine Wdr hC (by kernel_rfl) ?_; intro K hK))
 | ((with_reducible first | refine q08 ?_ | refine qcl ?_ | refine q0x ?_); refine siQ ?_; (try simp (disch := omega) only [w64, wu8]))
 | (with_reducible refine qb4 (by kernel_rfl) ?_)
 | ((first | refine Wcd rfl (fun h => ?_) fun h => ?_ | refine Wcu rfl (fun h => ?_) ?_ | refine Wcn rfl ?_ fun h => ?_) <;> (try replace h := q0e h) <;> try (exfalso; first | omega | exact absurd h (by decide)))
 | (refine Wlp 9 rfl (ι := Rd × List CPart) (fun p => mkS [(0, V.d (.s s)), (2, V.ptr 32 0), (6, .ptr 336 0), (7, .ptr 112 0)] ([(32, .live (.box 33 [.d (.s ⟨#[]⟩), .d .nil])), (336, .live (.box 99 [.d (.s p.1.s), .d (.i .i64 (p.1.pos : Int)), .d (.i .i64 p.1.place), .d (.i .i64 p.1.err)])), (112, .live (.box 33 [.d (.s (rd0 s).nmT), V.row 64 2 0 p.2.length])), (64, .live (.row 70 2 false (p.2.map q0v)))])) (fun p => p.1.s = s ∧ p.1.pos ≤ 401 ∧ s.size ≤ 400 ∧ ¬ 0 ≤ qcw s ∧ p.2.length ≤ 12 ∧ prun 13 (rd0 s).nmR.blanks [] = prun (13 - p.2.length) p.1 p.2 ∧ (p.1.err = 0 → p.1.pos ≤ s.size)) (fun p => 13 - p.2.length) (((rd0 s).nmR.blanks, [])) ?_ ?_ (fun p hi => ?_) <;> (try dsimp only) <;> (try dsimp only at hi))
 | (refine Wnx 9 ((p.1.partR.blanks, p.2 ++ [p.1.partV])) ?_ ?_ ?_ <;> (try dsimp only))
 | (refine q0t ?_; refine subQ ?_)
 | (subst hK)
 | exact trivial
 all_goals try (intros; assumption)
 all_goals try refine qbm ?_
 all_goals try replace hi := q0e hi
 all_goals try (intros; first | trivial | omega)
 all_goals (try (rw [w64 (by omega) (by omega)]; first | done | omega))
 all_goals (try have hn := qs7 (r := rd0 s) (Nat.zero_le _))
 all_goals (try rw [qi9] at hn)
 all_goals first
 | omega
 | (rw [qrg (by assumption)]; first | done | rfl)
 | (rw [qub (by assumption) (by assumption)]; first | done | rfl)
 | exact Nat.zero_le _
 | exact qj1 ⟨by omega, qh3 (by omega)⟩
 | (rw [q0n, qkt]; rfl)
 | exact fun _ => qs8
 | (have := qs8 (s := s); omega)
 | (exfalso; rw [fE2 (by have := hi; omega)] at h; cases h)
 | (have c := hi
    obtain ⟨c1, c2, c3, c4, c5, c6, c7⟩ := c
    have hs : p.1.s.size = s.size := by rw [c1]
    first
     | omega
     | (rw [c1]; omega)
     | exact c1
     | exact c1.symm
     | (intro d hd; subst hd; exact ⟨rfl, by simp [D.cells, D.one]⟩)
     | (simp only [List.map_append, List.map_cons, List.map_nil]; exact q0b _)
     | (rw [c1]; exact qj1 ⟨by omega, qh3 (by omega)⟩)
     | (rw [q0n, qf6]; exact c1)
     | exact q00k c6 c5 ⟨by omega, by omega⟩ (by omega)
     | (have := qwc (r := p.1) (by omega) (by omega); rw [hs] at this; first | exact this.2 | omega)
     | (have := qj3 (r := p.1) (by omega); omega)
     | (rw [List.length_append, List.length_singleton]; omega)
     | (have e := q00j c6 ⟨by omega, by omega⟩ (by omega)
        first
         | (rw [qm1 (by assumption) (by assumption) e h]; first | done | rfl)
         | (exfalso; rw [fE2 (by omega)] at h; cases h)
         )
     | (have e := q2m c6 (by omega)
        first
         | (rw [qm1 (by assumption) (by assumption) e h]; first | done | rfl)
         | (rw [qwb (by assumption) (by assumption) e h]; first | done | rfl | (rw [qby _ _ (by rw [List.length_map])]; exact q0b _))
         )
     )
end
def cfg59 : Cfg := ⟨Tryz.prog, 19, qu1, mvs, [0], (fun _ => none)⟩
theorem q1q : cfg59.pins = [0] ∧ cfg59.P = Tryz.prog ∧ cfg59.N = 19 := ⟨rfl, rfl, rfl⟩
section
attribute [local go_sem] q1q
theorem q4l (hC : COk cfg59) (r : Rd) (pl : Int) (e : Int) : Sem Tryz.prog 59 [.bx 105 [.d (.s r.s), .d (.i .i64 (r.pos : Int)), .d (.i .i64 r.place), .d (.i .i64 r.err)], .d (.i .i64 pl), .d (.i .i64 e)] (.tup [.bx 105 [.d (.s r.s), .d (.i .i64 (r.pos : Int)), .d (.i .i64 (fP r.err r.place pl)), .d (.i .i64 (fE r.err e))]]) := by
 refine q0i (C := cfg59) (rs := []) (fun j => if j = 0 then [(4242, 105, 0)] else []) Tryz.func59 rfl rfl rfl rfl rfl rfl ?_
 refine inQ ?_
 repeat' first
 | (with_reducible first | apply q0y | apply q0f | apply Wsq | apply Wbk | apply Wsk | apply Wex | apply Wrt | apply q0z | apply q00 | apply q0g | apply q0h | refine q0d rfl ?_ | apply q01 | apply q02 | apply And.intro)
 | (with_reducible refine Wrn hC ?_; intro K hK)
 | ((with_reducible first | refine q08 ?_ | refine q0x ?_); refine siQ ?_; (try simp (disch := omega) only [w64, wu8]))
 | ((first | refine Wcd rfl (fun h => ?_) fun h => ?_ | refine Wcu rfl (fun h => ?_) ?_ | refine Wcn rfl ?_ fun h => ?_) <;> (try replace h := q0e h) <;> try (exfalso; first | omega | exact absurd h (by decide)))
 | (refine q0t ?_; refine subQ ?_)
 | (subst hK)
 | exact trivial
 all_goals try (intros; assumption)
 all_goals try refine qbm ?_
 all_goals try (intros; first | trivial | omega)
 all_goals (try (rw [w64 (by omega) (by omega)]; first | done | omega))
 all_goals (simp [fP, fE, *])
end
def cfg56 : Cfg := ⟨Tryz.prog, 42, qu2, mvs, [0], (fun _ => none)⟩
theorem q1r : cfg56.pins = [0] ∧ cfg56.P = Tryz.prog ∧ cfg56.N = 42 := ⟨rfl, rfl, rfl⟩
section
attribute [local go_sem] q1r
attribute [local go_sem] Int.toNat_natCast qct
theorem q4m (hC : COk cfg56) (r : Rd) (hp : r.pos ≤ 401 ∧ r.s.size ≤ 400) : Sem Tryz.prog 56 [.bx 105 [.d (.s r.s), .d (.i .i64 (r.pos : Int)), .d (.i .i64 r.place), .d (.i .i64 r.err)]] (.tup [.d (.b r.more), .bx 105 [.d (.s r.blanks.s), .d (.i .i64 (r.blanks.pos : Int)), .d (.i .i64 r.blanks.place), .d (.i .i64 r.blanks.err)]]) := by
 refine q0i (C := cfg56) (rs := [.tmp 2]) (fun j => if j = 1 then [(4242, 105, 0)] else []) Tryz.func56 rfl rfl rfl rfl rfl rfl ?_
 refine inQ ?_
 repeat' first
 | (with_reducible first | apply q0y | apply q0f | apply Wsq | apply Wbk | apply Wsk | apply Wex | apply Wrt | apply q0z | apply q00 | apply q0g | apply q0h | refine q0d rfl ?_ | apply q01 | apply q02 | apply And.intro)
 | (with_reducible first | (refine Wrn hC ?_; intro K hK) | (refine Wdr hC (by kernel_rfl) ?_; intro K hK))
 | ((with_reducible first | refine q08 ?_ | refine qcl ?_ | refine q0x ?_); refine siQ ?_; (try simp (disch := omega) only [w64, wu8]))
 | (with_reducible refine qb4 (by kernel_rfl) ?_)
 | ((first | refine Wcd rfl (fun h => ?_) fun h => ?_ | refine Wcu rfl (fun h => ?_) ?_ | refine Wcn rfl ?_ fun h => ?_) <;> (try replace h := q0e h) <;> try (exfalso; first | omega | exact absurd h (by decide)))
 | (refine Wlp 1 rfl (ι := Nat) (fun i => mkS [(0, .ptr 0 0)] ([(0, .live (.box 105 [.d (.s r.s), .d (.i .i64 (i : Int)), .d (.i .i64 r.place), .d (.i .i64 r.err)]))])) (fun i => r.pos ≤ i ∧ (i ≤ r.s.size ∨ i = r.pos) ∧ ∀ k, r.pos ≤ k → k < i → isBl (chr r.s k) = true) (fun i => r.s.size - i) (r.pos) ?_ ?_ (fun i hi => ?_) <;> (try dsimp only) <;> (try dsimp only at hi))
 | (refine Wnx 1 (i + 1) ?_ ?_ ?_ <;> (try dsimp only))
 | (refine q0t ?_; refine subQ ?_)
 | (subst hK)
 | exact trivial
 all_goals try (intros; assumption)
 all_goals try refine qbm ?_
 all_goals try replace hp := q0e hp
 all_goals try replace hi := q0e hi
 all_goals try (intros; first | trivial | omega)
 all_goals (try (rw [w64 (by omega) (by omega)]; first | done | omega))
 all_goals first
 | omega
 | exact qhp hi.2.2 (qi6.2 (by omega))
 | exact .inr trivial
 | exact .inr rfl
 | (intros; omega)
 | (have e0 : r.blanks.pos = i := by
     by_cases e : i ≤ r.s.size
     ·exact qkq hi.1 e hi.2.2 (by rw [← Bool.not_eq_true, qi6]; omega)
     ·have : i = r.pos := by omega
      subst this
      exact qlr (by omega)
    first
     | (rw [e0]; done)
     | (rw [e0]; simp; done)
     | (rw [e0]; first | rfl | (congr 1; simp; done) | (simp; omega))
     | (unfold Rd.more; rw [e0]; first | rfl | (congr 1; simp; done) | (simp; omega))
     )
end
def cfg100 : Cfg := ⟨Tryz.prog, 21, qu3, mvs, [], (fun _ => none)⟩
theorem qyk : cfg100.pins = [] ∧ cfg100.P = Tryz.prog ∧ cfg100.N = 21 := ⟨rfl, rfl, rfl⟩
section
attribute [local go_sem] qyk
theorem q2z (hC : COk cfg100) (c : Int) : Sem Tryz.prog 100 [.d (.i .u8 c)] (.d (.b (inWq c))) := by
 refine q0i (C := cfg100) (rs := [.tmp 2]) (fun _ => []) Tryz.func100 rfl rfl rfl rfl rfl rfl ?_
 refine inQ ?_
 repeat' first
 | (with_reducible first | apply q0y | apply q0f | apply Wsq | apply Wbk | apply Wsk | apply Wex | apply Wrt | apply q0z | apply q00 | apply q0g | apply q0h | refine q0d rfl ?_ | apply q01 | apply q02 | apply And.intro)
 | (with_reducible refine Wrn hC ?_; intro K hK)
 | ((with_reducible first | refine q08 ?_ | refine q0x ?_); refine siQ ?_; (try simp (disch := omega) only [w64, wu8]))
 | ((first | refine Wcd rfl (fun h => ?_) fun h => ?_ | refine Wcu rfl (fun h => ?_) ?_ | refine Wcn rfl ?_ fun h => ?_) <;> (try replace h := q0e h) <;> try (exfalso; first | omega | exact absurd h (by decide)))
 | (refine q0t ?_; refine subQ ?_)
 | (subst hK)
 | exact trivial
 all_goals try (intros; assumption)
 all_goals try refine qbm ?_
 all_goals try (intros; first | trivial | omega)
 all_goals (try (rw [w64 (by omega) (by omega)]; first | done | omega))
 all_goals (unfold inWq; rw [Bool.eq_iff_iff]; simp; try omega)
end
def cfg58 : Cfg := ⟨Tryz.prog, 47, qu4, mvs, [0], (fun _ => none)⟩
theorem q1s : cfg58.pins = [0] ∧ cfg58.P = Tryz.prog ∧ cfg58.N = 47 ∧ cfg58.ti 100 = none ∧ cfg58.T 100 = e100 ∧ cfg58.mv 100 = (fun _ => []) := by and_intros <;> exact rfl
section
attribute [local go_sem] q1s e100
attribute [local go_sem] Int.toNat_natCast qct
theorem q4n (hC : COk cfg58) (r : Rd) (hp : r.pos ≤ r.s.size ∧ qfc r.s) : Sem Tryz.prog 58 [.bx 105 [.d (.s r.s), .d (.i .i64 (r.pos : Int)), .d (.i .i64 r.place), .d (.i .i64 r.err)]] (.tup [.d (.s r.wraw), .bx 105 [.d (.s r.word.s), .d (.i .i64 (r.word.pos : Int)), .d (.i .i64 r.word.place), .d (.i .i64 r.word.err)]]) := by
 refine q0i (C := cfg58) (rs := [.tmp 2]) (fun j => if j = 1 then [(4242, 105, 0)] else []) Tryz.func58 rfl rfl rfl rfl rfl rfl ?_
 refine inQ ?_
 repeat' first
 | (with_reducible first | apply q0y | apply q0f | apply Wsq | apply Wbk | apply Wsk | apply Wex | apply Wrt | apply q0z | apply q00 | apply q0g | apply q0h | refine q0d rfl ?_ | apply q01 | apply q02 | apply And.intro)
 | (with_reducible first | (refine Wrn hC ?_; intro K hK) | (refine Wdr hC (by kernel_rfl) ?_; intro K hK))
 | ((with_reducible first | refine q08 ?_ | refine qcl ?_ | refine q0x ?_); refine siQ ?_; (try simp (disch := omega) only [w64, wu8]))
 | (with_reducible refine qb4 (by kernel_rfl) ?_)
 | ((first | refine Wcd rfl (fun h => ?_) fun h => ?_ | refine Wcu rfl (fun h => ?_) ?_ | refine Wcn rfl ?_ fun h => ?_) <;> (try replace h := q0e h) <;> try (exfalso; first | omega | exact absurd h (by decide)))
 | (refine Wlp 2 rfl (ι := Nat) (fun i => mkS [(0, .ptr 0 0), (3, V.d (.i .i64 (r.pos : Int)))] ([(0, .live (.box 105 [.d (.s r.s), .d (.i .i64 (i : Int)), .d (.i .i64 r.place), .d (.i .i64 r.err)]))])) (fun i => r.pos ≤ i ∧ i ≤ r.s.size ∧ r.s.size ≤ 400 ∧ ∀ k, r.pos ≤ k → k < i → inW (chr r.s k) = true) (fun i => r.s.size - i) (r.pos) ?_ ?_ (fun i hi => ?_) <;> (try dsimp only) <;> (try dsimp only at hi))
 | (refine Wnx 2 (i + 1) ?_ ?_ ?_ <;> (try dsimp only))
 | (refine q0t ?_; refine subQ ?_)
 | (subst hK)
 | exact trivial
 all_goals try (intros; assumption)
 all_goals try refine qbm ?_
 all_goals try replace hp := q0e hp
 all_goals try replace hi := q0e hi
 all_goals try (intros; first | trivial | omega)
 all_goals (try (rw [w64 (by omega) (by omega)]; first | done | omega))
 all_goals (try have hz := hp.2.1)
 all_goals first
 | omega
 | exact qhp hi.2.2.2 (by have := hp.2.2 i (by omega); rw [← qq9 (by omega) (by omega)]; exact h.2)
 | (have hw : r.wend = i := qkq hi.1 hi.2.1 hi.2.2.2 (by
     rcases h with h | h
     ·exact .inl (by omega)
     ·by_cases e : i < r.s.size
      ·have := hp.2.2 i e
       rw [qq9 (by omega) (by omega)] at h
       exact .inr h
      ·exact .inl (by omega))
    first
     | (rw [Rd.wraw, hw]; done)
     | (rw [Rd.wraw, hw]; rfl)
     | (show ((r.wend : Nat) : Int) = _; rw [hw])
     )
end
def cfg102 : Cfg := ⟨Tryz.prog, 111, qu5, mvs, [0], (fun _ => none)⟩
theorem qyl : cfg102.pins = [0] ∧ cfg102.P = Tryz.prog ∧ cfg102.N = 111 ∧ cfg102.ti 59 = none ∧ cfg102.T 59 = e59 ∧ cfg102.mv 59 = (fun j => if j = 0 then [(4242, 105, 0)] else []) := by and_intros <;> exact rfl
section
attribute [local go_sem] qyl e59
attribute [local go_sem] q0s qcc qei qe7 qcp qej qek Int.toNat_natCast_add_one qel qdt qem List.length_map List.map_append List.map_cons List.map_nil List.length_append List.length_cons List.length_nil Int.toNat_natCast qct qx2
theorem q20 (hC : COk cfg102) (r : Rd) (hp : r.pos < r.s.size ∧ r.s.size ≤ 400) : Sem Tryz.prog 102 [.bx 105 [.d (.s r.s), .d (.i .i64 (r.pos : Int)), .d (.i .i64 r.place), .d (.i .i64 r.err)]] (.tup [.d (q0s r.qval), .bx 105 [.d (.s r.quoted.s), .d (.i .i64 (r.quoted.pos : Int)), .d (.i .i64 r.quoted.place), .d (.i .i64 r.quoted.err)]]) := by
 refine q0i (C := cfg102) (rs := [.cell 2 76]) (fun j => if j = 1 then [(4242, 105, 0)] else []) Tryz.func102 rfl rfl rfl rfl rfl rfl ?_
 refine inQ ?_
 repeat' first
 | (with_reducible first | apply q0y | apply q0f | apply Wsq | apply Wbk | apply Wsk | apply Wex | apply Wrt | apply q0z | apply q00 | apply q0g | apply q0h | refine q0d rfl ?_ | apply q01 | apply q02 | apply And.intro)
 | (with_reducible first | (refine Wrn hC ?_; intro K hK) | (refine Wdr hC (by kernel_rfl) ?_; intro K hK))
 | ((with_reducible first | refine q08 ?_ | refine qcl ?_ | refine q0x ?_); refine siQ ?_; (try simp (disch := omega) only [w64, wu8]))
 | (with_reducible refine qb4 (by kernel_rfl) ?_)
 | ((first | refine Wcd rfl (fun h => ?_) fun h => ?_ | refine Wcu rfl (fun h => ?_) ?_ | refine Wcn rfl ?_ fun h => ?_) <;> (try replace h := q0e h) <;> try (exfalso; first | omega | exact absurd h (by decide)))
 | (refine Wlp 4 rfl (ι := Nat × List Int) (fun p => mkS [(0, .ptr 0 0), (2, .ptr 32 0), (3, V.d (.i .i64 (r.pos : Int))), (4, V.d (.s (txt p.2)))] ([(0, .live (.box 105 [.d (.s r.s), .d (.i .i64 (p.1 : Int)), .d (.i .i64 r.place), .d (.i .i64 r.err)])), (32, .live (.box 76 [.d (.i .i64 0), .d (.s ⟨#[]⟩)]))])) (fun p => p.1 ≤ r.s.size ∧ r.s.size ≤ 400 ∧ p.2.length ≤ p.1 ∧ r.qres = qq r.s p.1 p.2) (fun p => r.s.size - p.1) ((r.pos + 1, [])) ?_ ?_ (fun p hi => ?_) <;> (try dsimp only) <;> (try dsimp only at hi))
 | (refine Wnx 4 (qnx r.s p) ?_ ?_ ?_ <;> (try dsimp only))
 | (refine q0t ?_; refine subQ ?_)
 | (subst hK)
 | exact trivial
 all_goals try (intros; assumption)
 all_goals try refine qbm ?_
 all_goals try replace hp := q0e hp
 all_goals try replace hi := q0e hi
 all_goals try (intros; first | trivial | omega)
 all_goals (try (rw [w64 (by omega) (by omega)]; first | done | omega))
 all_goals (try simp only [toN1, toN2] at *)
 all_goals first
 | omega
 | (rw [ext1 (by omega)]; omega)
 | (rw [w64 (by omega) (by omega)]; omega)
 | rfl
 | (have c : chr r.s p.1 = 39 := by assumption
    have e : r.qres = (p.1 + 1, p.2, true) := hi.2.2.2.trans (qs3 (by omega) c (by omega))
    simp [Rd.qval, Rd.quoted, Rd.to, e, q2s]
    try split
    all_goals first | rfl | omega | (simp; done))
 | (have e : r.qres = (p.1, p.2, false) := hi.2.2.2.trans (qv5 (by omega))
    simp [Rd.qval, Rd.quoted, Rd.to, Rd.fail, e, qi2])
 | (have c : chr r.s p.1 = 39 := by assumption
    have c2 : chr r.s (p.1 + 1) = 39 := by omega
    have e := hi.2.2.2.trans (qv6 (by omega) c c2)
    rw [qs4 c]
    first
     | omega
     | exact e
     | (rw [List.length_append]; simp; omega)
     | (rw [ext1 (by omega)]; omega)
     | (show txt (p.2 ++ [39]) = _; rw [← c2]; exact (qhc (by omega)).symm)
     | (show _ = txt (p.2 ++ [39]); rw [← c2]; first | exact qhc (by omega) | (rw [← qhc (by omega)]; done))
     )
 | (have c : ¬ chr r.s p.1 = 39 := by assumption
    have e := hi.2.2.2.trans (qs2 (by omega) c)
    rw [qs5 c]
    first
     | omega
     | exact e
     | (rw [List.length_append]; simp; omega)
     | exact qhc (by omega)
     | exact (qhc (by omega)).symm
     | (rw [ext1 (by omega)]; omega)
     )
 | (simp only [List.length_nil]; omega)
end
def cfg101 : Cfg := ⟨Tryz.prog, 132, qrx, mvs, [0], (fun _ => none)⟩
theorem qym : cfg101.pins = [0] ∧ cfg101.P = Tryz.prog ∧ cfg101.N = 132 ∧ cfg101.T 56 = e56 ∧ cfg101.mv 56 = (fun j => if j = 0 then [(4242, 105, 0)] else []) ∧ cfg101.T 57 = e57 ∧ cfg101.mv 57 = (fun _ => []) ∧ cfg101.T 58 = e58 ∧ cfg101.mv 58 = (fun j => if j = 0 then [(4242, 105, 0)] else []) ∧ cfg101.T 59 = e59 ∧ cfg101.mv 59 = (fun j => if j = 0 then [(4242, 105, 0)] else []) ∧ cfg101.T 102 = e102 ∧ cfg101.mv 102 = (fun j => if j = 0 then [(4242, 105, 0)] else []) ∧ cfg101.ti = (fun _ => none) := by and_intros <;> exact rfl
section
attribute [local go_sem] qym e56 e57 e58 e59 e102
attribute [local go_sem] q0s qcc qei qe7 qcp qej qek Int.toNat_natCast_add_one qel qdt qem List.length_map List.map_append List.map_cons List.map_nil List.length_append List.length_cons List.length_nil qhr qew q0n qba toN1 toN2 qen etaL quc qif q04 qbh etaB etaW etaS qex Int.toNat_natCast qct
theorem q21 (hC : COk cfg101) (r : Rd) (hp : r.pos < r.s.size ∧ qfc r.s) : Sem Tryz.prog 101 [.bx 105 [.d (.s r.s), .d (.i .i64 (r.pos : Int)), .d (.i .i64 r.place), .d (.i .i64 r.err)]] (.tup [.d (.sl 2 (r.rlist.2.map q0s)), .bx 105 [.d (.s r.rlist.1.s), .d (.i .i64 (r.rlist.1.pos : Int)), .d (.i .i64 r.rlist.1.place), .d (.i .i64 r.rlist.1.err)]]) := by
 refine q0i (C := cfg101) (rs := [.tmp 2]) (fun j => if j = 1 then [(4242, 105, 0)] else []) Tryz.func101 rfl rfl rfl rfl rfl rfl ?_
 refine inQ ?_
 repeat' first
 | (with_reducible first | apply q0y | apply q0f | apply Wsq | apply Wbk | apply Wsk | apply Wex | apply Wrt | apply q0z | apply q00 | apply q0g | apply q0h | refine q0d rfl ?_ | apply q01 | apply q02 | apply And.intro)
 | (with_reducible first | (refine Wrn hC ?_; intro K hK) | (refine Wdr hC (by kernel_rfl) ?_; intro K hK))
 | ((with_reducible first | refine q08 ?_ | refine qcl ?_ | refine q0x ?_); refine siQ ?_; (try simp (disch := omega) only [w64, wu8]))
 | (with_reducible refine qb4 (by kernel_rfl) ?_)
 | ((first | refine Wcd rfl (fun h => ?_) fun h => ?_ | refine Wcu rfl (fun h => ?_) ?_ | refine Wcn rfl ?_ fun h => ?_) <;> (try replace h := q0e h) <;> try (exfalso; first | omega | exact absurd h (by decide)))
 | (refine Wlp 4 rfl (ι := Rd × List CVal) (fun p => mkS [(0, .ptr 0 0), (3, V.d (.i .i64 (r.pos : Int))), (4, V.row 96 2 0 p.2.length)] ([(0, .live (.box 105 [.d (.s p.1.s), .d (.i .i64 (p.1.pos : Int)), .d (.i .i64 p.1.place), .d (.i .i64 p.1.err)])), (96, .live (.row 76 2 false (p.2.map q0s)))])) (fun p => p.1.s = r.s ∧ p.1.pos ≤ r.s.size ∧ qfc r.s ∧ p.2.length ≤ 10 ∧ r.rlist = qb2 r.pos (12 - p.2.length) p.1 p.2) (fun p => 11 - p.2.length) ((r.to (r.pos + 1), [])) ?_ ?_ (fun p hi => ?_) <;> (try dsimp only) <;> (try dsimp only at hi))
 | (refine Wnx 4 ((p.1.blanks.valR.stop true, p.2 ++ [p.1.blanks.valV])) ?_ ?_ ?_ <;> (try dsimp only))
 | (refine q0t ?_; refine subQ ?_)
 | (subst hK)
 | exact trivial
 all_goals try (intros; assumption)
 all_goals try refine qbm ?_
 all_goals try replace hp := q0e hp
 all_goals try replace hi := q0e hi
 all_goals try (intros; first | trivial | omega)
 all_goals (try (rw [w64 (by omega) (by omega)]; first | done | omega))
 all_goals clear hC
 all_goals (try simp only [qwg, qwh] at *)
 all_goals first
 | (obtain ⟨c1, c2, c3, c4, c5⟩ := hi
    have hb : p.1.blanks.pos ≤ r.s.size := by
     have := qbk (r := p.1) (by rw [c1]; exact c2)
     rw [c1] at this; exact this.2
    have hs : p.1.s.size = r.s.size := by rw [c1]
    have hz := c3.1
    have c3' : qfc p.1.s := by rw [c1]; exact c3
    first
     | exact c1.symm
     | exact c3
     | exact c3'
     | exact (qf7 (r := p.1.blanks) c3').1
     | exact (qf7 (r := p.1.blanks) c3').2
     | (rw [q04, qbh, q0n]; exact c1)
     | (rw [qbp]; have := qff (r := p.1.blanks) (by rw [q0n, c1]; exact hb); rw [q0n, c1] at this; exact this.2)
     | (rw [List.length_append, List.length_singleton]; omega)
     | exact q00p c5 c4 (by assumption) (by assumption) (by assumption) (by assumption) (by assumption)
     | (intro d hd; subst hd; exact ⟨rfl, by simp [D.cells, D.one]⟩)
     | (have v := q3u (r := p.1.blanks) (by assumption) (by assumption)
        first
         | (rw [v.1]; first
             | (rw [qj4 (s := p.1.s) (qba (r := p.1.blanks)) (by assumption)]; first | done | rfl)
             | (rw [qlu (s := p.1.s) (qba (r := p.1.blanks)) (by assumption)]; first | done | rfl))
         | (rw [v.2]; exact q0b _)
         | (rw [v.2]; simp only [List.map_append, List.map_cons, List.map_nil]; exact q0b _))
     | (have v := q3v (r := p.1.blanks) (by assumption) (by assumption) (by assumption)
        first
         | (rw [v.1]; first
             | (rw [qj4 (s := p.1.s) (r := p.1.blanks.word.fail _ _) rfl (by assumption)]; first | done | rfl)
             | (rw [qlu (s := p.1.s) (r := p.1.blanks.word.fail _ _) rfl (by assumption)]; first | done | rfl))
         | (rw [v.2]; exact q0b _)
         | (rw [v.2]; simp only [List.map_append, List.map_cons, List.map_nil]; exact q0b _))
     | (have v := q3w (r := p.1.blanks) (by assumption) (by assumption) (by omega)
        first
         | (rw [v.1]; first
             | (rw [qj4 (s := p.1.s) (r := p.1.blanks.word) rfl (by assumption)]; first | done | rfl)
             | (rw [qlu (s := p.1.s) (r := p.1.blanks.word) rfl (by assumption)]; first | done | rfl))
         | (rw [v.2]; exact q0b _)
         | (rw [v.2]; simp only [List.map_append, List.map_cons, List.map_nil]; exact q0b _))
     | (have e := q2p c5 (by assumption); rw [e]; first | done | rfl | exact c1.symm | (rw [qby _ _ (by rw [List.length_map])]; exact q0b _))
     | (have e := q2q c5 c4 (by assumption) (by assumption); rw [e]; first | done | rfl | (rw [hs]; done) | (rw [qby _ _ (by rw [List.length_map])]; exact q0b _))
     | (have e := q2r c5 c4 (by assumption) (by assumption) (by assumption) (by assumption); rw [e]; first | done | rfl | (rw [w64 (by omega) (by omega)]; rfl) | (rw [qby _ _ (by rw [List.length_map])]; exact q0b _))
     | (have e := q3t c5 c4 (by assumption) (by assumption) (by assumption) (by assumption); rw [e]; first | done | rfl | (rw [w64 (by omega) (by omega)]; rfl) | (rw [qby _ _ (by rw [List.length_map])]; exact q0b _))
     | (have e := q00n c5 c4 (by assumption) (by assumption) (by assumption) (by assumption); rw [e]; first | done | rfl | (rw [qby _ _ (by rw [List.length_map])]; exact q0b _))
     | (have e := q00o c5 c4 (by assumption) (by assumption) (by assumption) (by assumption) (by assumption); rw [e]; first | done | rfl | (rw [qby _ _ (by rw [List.length_map])]; exact q0b _))
     | omega
     )
 | exact hp.2
 | exact hp.1
 | rfl
 | (have := hp.2.1; omega)
 | (simp only [List.length_nil]; omega)
 | (show ((r.pos + 1 : Nat) : Int) = _; rw [w64 (by have := hp.2.1; omega) (by have := hp.2.1; omega)]; omega)
end
def cfg60 : Cfg := ⟨Tryz.prog, 112, qry, mvs, [0], (fun _ => none)⟩
theorem q1t : cfg60.pins = [0] ∧ cfg60.P = Tryz.prog ∧ cfg60.N = 112 ∧ cfg60.T 48 = e48 ∧ cfg60.mv 48 = (fun _ => []) ∧ cfg60.T 57 = e57 ∧ cfg60.mv 57 = (fun _ => []) ∧ cfg60.T 58 = e58 ∧ cfg60.mv 58 = (fun j => if j = 0 then [(4242, 105, 0)] else []) ∧ cfg60.T 59 = e59 ∧ cfg60.mv 59 = (fun j => if j = 0 then [(4242, 105, 0)] else []) ∧ cfg60.T 101 = e101 ∧ cfg60.mv 101 = (fun j => if j = 0 then [(4242, 105, 0)] else []) ∧ cfg60.T 102 = e102 ∧ cfg60.mv 102 = (fun j => if j = 0 then [(4242, 105, 0)] else []) ∧ cfg60.ti = (fun _ => none) := by and_intros <;> exact rfl
section
attribute [local go_sem] q1t e48 e57 e58 e59 e101 e102
attribute [local go_sem] q0s qcc qei qe7 qcp qej qek q0v qdf qi3 qkp qi4 qi5 Int.toNat_natCast_add_one qel qdt qem List.length_map List.map_append List.map_cons List.map_nil List.length_append List.length_cons List.length_nil qhr qew q0n qba toN1 toN2 qen etaL quc qif q04 qbh etaB etaW etaS qex Int.toNat_natCast qct
theorem q4o (hC : COk cfg60) (r : Rd) (hp : r.pos < r.s.size ∧ qfc r.s) : Sem Tryz.prog 60 [.bx 105 [.d (.s r.s), .d (.i .i64 (r.pos : Int)), .d (.i .i64 r.place), .d (.i .i64 r.err)]] (.tup [.d (q0v r.rpart.2), .bx 105 [.d (.s r.rpart.1.s), .d (.i .i64 (r.rpart.1.pos : Int)), .d (.i .i64 r.rpart.1.place), .d (.i .i64 r.rpart.1.err)]]) := by
 refine q0i (C := cfg60) (rs := [.cell 2 70]) (fun j => if j = 1 then [(4242, 105, 0)] else []) Tryz.func60 rfl rfl rfl rfl rfl rfl ?_
 refine inQ ?_
 repeat' first
 | (with_reducible first | apply q0y | apply q0f | apply Wsq | apply Wbk | apply Wsk | apply Wex | apply Wrt | apply q0z | apply q00 | apply q0g | apply q0h | refine q0d rfl ?_ | apply q01 | apply q02 | apply And.intro)
 | (with_reducible first | (refine Wrn hC ?_; intro K hK) | (refine Wdr hC (by kernel_rfl) ?_; intro K hK))
 | ((with_reducible first | refine q08 ?_ | refine qcl ?_ | refine q0x ?_); refine siQ ?_; (try simp (disch := omega) only [w64, wu8]))
 | (with_reducible refine qb4 (by kernel_rfl) ?_)
 | ((first | refine Wcd rfl (fun h => ?_) fun h => ?_ | refine Wcu rfl (fun h => ?_) ?_ | refine Wcn rfl ?_ fun h => ?_) <;> (try replace h := q0e h) <;> try (exfalso; first | omega | exact absurd h (by decide)))
 | (refine q0t ?_; refine subQ ?_)
 | (subst hK)
 | exact trivial
 all_goals try (intros; assumption)
 all_goals try refine qbm ?_
 all_goals try replace hp := q0e hp
 all_goals try (intros; first | trivial | omega)
 all_goals (try (rw [w64 (by omega) (by omega)]; first | done | omega))
 all_goals first
 | omega
 | exact hp.2
 | exact hp.2.1
 | exact hp.1
 | exact (qf7 hp.2).1
 | exact (qf7 hp.2).2
 | (intro d hd; subst hd; exact ⟨rfl, by simp [D.cells, D.one]⟩)
 | (have w := qcz (r := r) (by omega); omega)
 | (rw [qsi (by assumption)]; first | done | rfl)
 | (rw [qud (by assumption)]; first | done | rfl | (rw [qgn (s := r.s) qen (by assumption)]; first | done | rfl) | (rw [qhd (s := r.s) qen (by assumption)]; first | done | rfl) | exact q0b _)
 | (rw [q00q (by assumption)]; first | done | rfl | (rw [qgn (s := r.s) qba (by assumption)]; first | done | rfl) | (rw [qhd (s := r.s) qba (by assumption)]; first | done | rfl) | exact q0b _)
 | (rw [qx4 (by assumption) (by assumption) (by assumption) (by assumption) (by assumption)]; first | done | rfl | (rw [qgn (s := r.s) (by rw [qen]; rfl) (by assumption)]; first | done | rfl) | (rw [qhd (s := r.s) (by rw [qen]; rfl) (by assumption)]; first | done | rfl) | exact q0b _)
 | (rw [qx5 (by assumption) (by assumption) (by assumption) (by assumption) (by assumption)]; first | done | rfl | exact q0b _)
 | (rw [q00r (by assumption) (by assumption) (by assumption) (by assumption) (by assumption)]; first | done | rfl | (rw [qgn (s := r.s) (r := r.word.fail _ _) rfl (by assumption)]; first | done | rfl) | (rw [qhd (s := r.s) (r := r.word.fail _ _) rfl (by assumption)]; first | done | rfl) | exact q0b _)
 | (rw [qx3 (by assumption) (by assumption) (by assumption) (by assumption) (by assumption)]; first | done | rfl | (rw [qgn (s := r.s) (r := r.word) rfl (by assumption)]; first | done | rfl) | (rw [qhd (s := r.s) (r := r.word) rfl (by assumption)]; first | done | rfl) | exact q0b _)
end
end
end Go.Ev
