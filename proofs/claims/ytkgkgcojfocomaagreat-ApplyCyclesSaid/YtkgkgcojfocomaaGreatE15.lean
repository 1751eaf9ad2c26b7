/- Tools and contracts under the laws of this seat: Dyc28 to Dyc173. -/
import Derived.Test.YtkgkgcojfocomaaGreatE05
import Derived.Test.YtkgkgcojfocomaaGreatE14
set_option linter.unusedVariables false
set_option linter.unusedSimpArgs false
namespace Go.Ev
open Go.Proofs Ty
set_option maxRecDepth 10000
set_option maxHeartbeats 4000000
noncomputable def cfg28 : Cfg := mkC 34 q6z
theorem qbny : cfg28.pins = [] ∧ cfg28.P = Tryz.prog ∧ cfg28.N = 34 ∧ cfg28.T 61 = e61 ∧ cfg28.mv 61 = (fun _ => []) ∧ cfg28.ti = fun _ => none := by and_intros <;> exact rfl
section
attribute [local go_sem] qbny e61
attribute [local go_sem] q0u q0r qd5 qeo qba qb4 qbh qcl q00 q0w qdr qcn qdu List.length_map Int.toNat_natCast Int.toNat_zero Nat.sub_zero List.length_take qch qbn qb2 qd0 qdm qdz qe6 qgg qig qkm qjq qbu qe8 qjp qly qkl
attribute [local go_sem ←] List.map_take List.map_drop
theorem qbx5 (hC : COk cfg28) (l : List Entry) (hp : l.length ≤ 1000000) : Sem Tryz.prog 28 [.d (.sl 8 (l.map q0r))] (.tup [.d (.sl 4 ((qen l).map qbu)), .d (.i .i64 (qbc l).2)]) := by
  refine q0f (C := cfg28) (rs := [.tmp 2, .tmp 3]) (fun _ => []) Tryz.func28 rfl rfl rfl rfl rfl rfl ?_
  refine inQ ?_
  repeat' first
    | (refine AW.rangeMap (kt := 3) (et := 99) (slI := fun d => [(7, V.row 112 4 0 ((qht (qen l) d).map qbu).length), (20, .ptr 320 0)]) (hpI := fun d => [(112, .live (.row 61 4 false ((qht (qen l) d).map qbu))), (320, .dead)]) (id := 320) rfl rfl rfl rfl rfl rfl rfl rfl rfl rfl rfl rfl rfl rfl rfl rfl rfl rfl rfl rfl rfl rfl (by refine ⟨⟨?_, ?_⟩, ?_, ?_, ?_, ?_, ?_⟩ <;> (show _ < 34; decide)) (by decide) (by show mapT Tryz.prog 65 = some (3, 99); kernel_rfl) rfl rfl rfl (fun d => ⟨rfl, rfl, rfl, rfl, rfl⟩) (fun d => rfl) ?_ (fun d j h1 h2 h3 h4 => ?_) (fun d hd => have hpl := q6j (us := qen l) (d := d) (by simpa using hd); ?_))
    | (refine AW.turnX q9n q9o ⟨_, Tryz.func62, rfl, rfl⟩ rfl rfl rfl rfl rfl rfl (by show _ < 34; decide) rfl rfl rfl rfl (q6i (by assumption) (by simpa using hd)) (qbat (by assumption) (by simpa using hd)) ?_ ?_)
    | (with_reducible first | apply q0l | apply q0c | apply AW.seq | apply AW.block | apply AW.skip | apply AW.exit | apply AW.ret | apply q0m | apply q0n | apply q0d | apply q0e | refine q0b rfl ?_ | apply q0o | apply q0p | apply And.intro)
    | (with_reducible refine AW.runK hC ?_; intro K hK)
    | ((with_reducible first | refine q0t ?_ | refine q0k ?_); (first | (simp (maxSteps := 1000000) only [go_sem, ↓reduceIte, reduceCtorEq, Nat.reduceEqDiff, Nat.reduceLT, Nat.reduceLeDiff, Nat.reduceMul, Nat.reduceAdd, Nat.reduceSub, reduceDIte, Nat.reduceBEq, Nat.reduceBNe, hpl]) | (refine siQ ?_)); (try simp (disch := omega) only [w64, wu8]))
    | ((first | refine AW.cond rfl (fun h => ?_) fun h => ?_ | refine AW.cond_ub rfl (fun h => ?_) ?_ | refine AW.cond_nb rfl ?_ fun h => ?_) <;> (try replace h := q0a h) <;> try (exfalso; first | omega | exact absurd h (by decide)))
    | (refine q0h ?_; refine subQ ?_)
    | (subst hK)
    | exact trivial
  all_goals try (intros; assumption)
  all_goals try refine q0v ?_
  all_goals try replace hp := q0a hp
  all_goals try (intros; first | trivial | omega)
  all_goals (try (rw [w64 (by omega) (by omega)]; first | done | omega))
  all_goals first
    | (rw [qi1 (by assumption)]; rfl)
    | (intro e
       have h5 := congrArg List.length e
       rw [List.length_map, hpl] at h5
       exact List.eq_nil_of_length_eq_zero (by rw [List.length_map]; exact h5))
    | skip
  · rw [qbrg h3]
    have hdl := qrf _ d h1 h2
    refine AW.runK (COk.pins hC) ?_
    intro K hK
    simp (maxSteps := 1000000) only [go_sem, ↓reduceIte, reduceCtorEq, Nat.reduceEqDiff, Nat.reduceLT, Nat.reduceLeDiff, Nat.reduceMul, Nat.reduceAdd, Nat.reduceSub, reduceDIte, Nat.reduceBEq, Nat.reduceBNe, q0u, q0r, qd5, qeo, qba, qb4, qbh, qcl, q00, q0w, qdr, qcn, qdu, List.length_map, Int.toNat_natCast, Int.toNat_zero, Nat.sub_zero, ← List.map_take, ← List.map_drop, List.length_take, qch, qbn, qb2, qd0, qdm, qdz, qe6, qgg, qig, qkm, qjq, qbu, qe8, qjp, qly, qkl]
    rw [List.length_map] at hdl
    have hcl := qp0 (l := l)
    refine ⟨?_, ?_, ?_⟩
    · intro d hd; subst hd; exact ⟨rfl, by simp [D.cells, D.one]⟩
    · rw [qbe1]; omega
    · subst hK
      refine ⟨rfl, ?_⟩
      refine q0h ?_
      simp (maxSteps := 1000000) only [forall_eq, V.ptr.injEq, V.row.injEq, V.rp.injEq, V.mref.injEq, exists_eq_left', and_assoc, rhoV, qj2, qy1, rhoO, qy2, qsb, rho1, HS.obj?, forall_eq', qi0, qpp, qq5, nfL, vs, vss, vds, vd1, os, aget, go_sem, qbau, List.map_append, List.map_cons, List.map_nil, List.length_append, List.length_map, List.length_cons, List.length_nil, qjp, qbu, ↓reduceIte, reduceCtorEq, Nat.reduceEqDiff, Nat.reduceLT, Nat.reduceLeDiff, Nat.reduceMul, Nat.reduceAdd, Nat.reduceSub, reduceDIte, Nat.reduceBEq, Nat.reduceBNe]
end
noncomputable def cfg30 : Cfg := mkC 26 q60
theorem qbnz : cfg30.pins = [] ∧ cfg30.P = Tryz.prog ∧ cfg30.N = 26 := ⟨rfl, rfl, rfl⟩
section
attribute [local go_sem] qbnz
attribute [local go_sem] q0u q0r qd5 qeo qba qb4 qbh qcl q00 q0w qdr qcn qdu List.length_map Int.toNat_natCast Int.toNat_zero Nat.sub_zero List.length_take qch qbn qb2 qd0 qdm qdz qe6 qgg qig qkm qjq qbu qe8 qjp qly qkl qmr qrg qrh qck
attribute [local go_sem ←] List.map_take List.map_drop
theorem qbx6 (hC : COk cfg30) (a : List AUnit) (b : List AUnit) (hp : a.length ≤ 1000000) : Sem Tryz.prog 30 [.d (.sl 4 (a.map qbu)), .d (.sl 4 (b.map qbu))] (.d (.b (decide (a = b)))) := by
  refine q0f (C := cfg30) (rs := [.tmp 4]) (fun _ => []) Tryz.func30 rfl rfl rfl rfl rfl rfl ?_
  refine inQ ?_
  repeat' first
  | (with_reducible first | apply q0l | apply q0c | apply AW.seq | apply AW.block | apply AW.skip | apply AW.exit | apply AW.ret | apply q0m | apply q0n | apply q0d | apply q0e | refine q0b rfl ?_ | apply q0o | apply q0p | apply And.intro)
  | (with_reducible first | (refine AW.runK hC ?_; intro K hK) | (refine AW.drawK hC (by kernel_rfl) ?_; intro K hK))
  | ((with_reducible first | refine q0t ?_ | refine qbz ?_ | refine q0k ?_); refine siQ ?_; (try simp (disch := omega) only [w64, wu8]))
  | (with_reducible refine qbj (by kernel_rfl) ?_)
  | ((first | refine AW.cond rfl (fun h => ?_) fun h => ?_ | refine AW.cond_ub rfl (fun h => ?_) ?_ | refine AW.cond_nb rfl ?_ fun h => ?_) <;> (try replace h := q0a h) <;> try (exfalso; first | omega | exact absurd h (by decide)))
  | (refine AW.loopN 4 rfl (ι := Nat) (fun i => mkS [(0, V.d (.sl 4 (a.map qbu))), (1, V.d (.sl 4 (b.map qbu))), (5, V.d (.i .i64 (i : Int)))] ([])) (fun i => i ≤ a.length ∧ a.length = b.length ∧ a.take i = b.take i) (fun i => a.length - i) (0) ?_ ?_ (fun i hi => ?_) <;> (try dsimp only) <;> (try dsimp only at hi))
  | (refine LoopNext.mk1 4 (i + 1) ?_ ?_ ?_ <;> (try dsimp only))
  | (refine q0h ?_; refine subQ ?_)
  | (subst hK)
  | exact trivial
  all_goals try (intros; assumption)
  all_goals try refine q0v ?_
  all_goals try replace hp := q0a hp
  all_goals try replace hi := q0a hi
  all_goals try (intros; first | trivial | omega)
  all_goals (try (rw [w64 (by omega) (by omega)]; first | done | omega))
  all_goals first
  | rfl
  | (intro e; subst e; exact h rfl)
  | exact qce hi.2.2 (by omega) (by omega)
  | exact qgw hi.2.2 (by omega) (by omega) (by assumption)
  | (simp only [decide_eq_true_eq]; exact qce hi.2.2 (by omega) (by omega))
  | (intro e; subst e; simp at h; done)
end
noncomputable def cfg31 : Cfg := mkC 26 q63
theorem qbn0 : cfg31.pins = [] ∧ cfg31.P = Tryz.prog ∧ cfg31.N = 26 := ⟨rfl, rfl, rfl⟩
section
attribute [local go_sem] qbn0
attribute [local go_sem] q0u q0r qd5 qeo qba qb4 qbh qcl q00 q0w qdr qcn qdu List.length_map Int.toNat_natCast Int.toNat_zero Nat.sub_zero List.length_take qch qbn qb2 qd0 qdm qdz qe6 qgg qig qkm qjq qbu qe8 qjp qly qkl qmr qrg qrh qck
attribute [local go_sem ←] List.map_take List.map_drop
theorem qbx7 (hC : COk cfg31) (a : List ByteArray) (b : List ByteArray) (hp : a.length ≤ 1000000) : Sem Tryz.prog 31 [.d (.sl 1 (a.map D.s)), .d (.sl 1 (b.map D.s))] (.d (.b (decide (a = b)))) := by
  refine q0f (C := cfg31) (rs := [.tmp 4]) (fun _ => []) Tryz.func31 rfl rfl rfl rfl rfl rfl ?_
  refine inQ ?_
  repeat' first
  | (with_reducible first | apply q0l | apply q0c | apply AW.seq | apply AW.block | apply AW.skip | apply AW.exit | apply AW.ret | apply q0m | apply q0n | apply q0d | apply q0e | refine q0b rfl ?_ | apply q0o | apply q0p | apply And.intro)
  | (with_reducible first | (refine AW.runK hC ?_; intro K hK) | (refine AW.drawK hC (by kernel_rfl) ?_; intro K hK))
  | ((with_reducible first | refine q0t ?_ | refine qbz ?_ | refine q0k ?_); refine siQ ?_; (try simp (disch := omega) only [w64, wu8]))
  | (with_reducible refine qbj (by kernel_rfl) ?_)
  | ((first | refine AW.cond rfl (fun h => ?_) fun h => ?_ | refine AW.cond_ub rfl (fun h => ?_) ?_ | refine AW.cond_nb rfl ?_ fun h => ?_) <;> (try replace h := q0a h) <;> try (exfalso; first | omega | exact absurd h (by decide)))
  | (refine AW.loopN 4 rfl (ι := Nat) (fun i => mkS [(0, V.d (.sl 1 (a.map D.s))), (1, V.d (.sl 1 (b.map D.s))), (5, V.d (.i .i64 (i : Int)))] ([])) (fun i => i ≤ a.length ∧ a.length = b.length ∧ a.take i = b.take i) (fun i => a.length - i) (0) ?_ ?_ (fun i hi => ?_) <;> (try dsimp only) <;> (try dsimp only at hi))
  | (refine LoopNext.mk1 4 (i + 1) ?_ ?_ ?_ <;> (try dsimp only))
  | (refine q0h ?_; refine subQ ?_)
  | (subst hK)
  | exact trivial
  all_goals try (intros; assumption)
  all_goals try refine q0v ?_
  all_goals try replace hp := q0a hp
  all_goals try replace hi := q0a hi
  all_goals try (intros; first | trivial | omega)
  all_goals (try (rw [w64 (by omega) (by omega)]; first | done | omega))
  all_goals first
  | rfl
  | (intro e; subst e; exact h rfl)
  | exact qce hi.2.2 (by omega) (by omega)
  | exact qgw hi.2.2 (by omega) (by omega) (by assumption)
  | (simp only [decide_eq_true_eq]; exact qce hi.2.2 (by omega) (by omega))
  | (intro e; subst e; simp at h; done)
end
noncomputable def cfg47 : Cfg := mkC 7 q64
theorem qbn1 : cfg47.pins = [] ∧ cfg47.P = Tryz.prog ∧ cfg47.N = 7 ∧ cfg47.ti 79 = none ∧ cfg47.T 79 = e79 ∧ cfg47.mv 79 = (fun _ => []) := by and_intros <;> exact rfl
section
attribute [local go_sem] qbn1 e79
attribute [local go_sem] q0u q0r qd5 qeo qba qb4 qbh qcl q00 q0w qdr qcn qdu List.length_map Int.toNat_natCast Int.toNat_zero Nat.sub_zero List.length_take qch qbn qb2 qd0 qdm qdz qe6 qgg qig qkm qjq qbu qe8 qjp qly qkl qmr qrg qrh qck
attribute [local go_sem ←] List.map_take List.map_drop
theorem qbx8 (hC : COk cfg47) (file : ByteArray) : Sem Tryz.prog 47 [.d (.s file)] (.d (.i .i64 (if qbb file = false then 7 else 0))) := by
  refine q0f (C := cfg47) (rs := [.tmp 2]) (fun _ => []) Tryz.func47 rfl rfl rfl rfl rfl rfl ?_
  refine inQ ?_
  repeat' first
  | (with_reducible first | apply q0l | apply q0c | apply AW.seq | apply AW.block | apply AW.skip | apply AW.exit | apply AW.ret | apply q0m | apply q0n | apply q0d | apply q0e | refine q0b rfl ?_ | apply q0o | apply q0p | apply And.intro)
  | (with_reducible refine AW.runK hC ?_; intro K hK)
  | ((with_reducible first | refine q0t ?_ | refine q0k ?_); refine siQ ?_; (try simp (disch := omega) only [w64, wu8]))
  | ((first | refine AW.cond rfl (fun h => ?_) fun h => ?_ | refine AW.cond_ub rfl (fun h => ?_) ?_ | refine AW.cond_nb rfl ?_ fun h => ?_) <;> (try replace h := q0a h) <;> try (exfalso; first | omega | exact absurd h (by decide)))
  | (refine q0h ?_; refine subQ ?_)
  | (subst hK)
  | exact trivial
  all_goals try (intros; assumption)
  all_goals try refine q0v ?_
  all_goals try (intros; first | trivial | omega)
  all_goals (try (rw [w64 (by omega) (by omega)]; first | done | omega))
  all_goals first
  | (simp [qc7, qlz, q09]; done)
end
noncomputable def cfg29 : Cfg := mkC 72 q65
theorem qbn2 : cfg29.pins = [] ∧ cfg29.P = Tryz.prog ∧ cfg29.N = 72 ∧ cfg29.T 46 = e46 ∧ cfg29.T 47 = e47 ∧ cfg29.ti = (fun _ => none) ∧ cfg29.mv = fun _ _ => [] := by and_intros <;> exact rfl
section
attribute [local go_sem] qbn2 e46 e47
attribute [local go_sem] q0u q0r qd5 qeo qba qb4 qbh qcl q00 q0w qdr qcn qdu List.length_map Int.toNat_natCast Int.toNat_zero Nat.sub_zero List.length_take qch qbn qb2 qd0 qdm qdz qe6 qgg qig qkm qjq qbu qe8 qjp qly qkl qmr qrg qrh qck
attribute [local go_sem ←] List.map_take List.map_drop
theorem qbx9 (hC : COk cfg29) (l : List Entry) (file : ByteArray) (rrn : Int) (hp : l.length ≤ 1000000) : Sem Tryz.prog 29 [.d (.sl 8 (l.map q0r)), .d (.s file), .d (.i .i64 rrn)] (.tup [.d (.sl 1 ((qhj l file rrn).1.map D.s)), .d (.i .i64 (qhj l file rrn).2)]) := by
  refine q0f (C := cfg29) (rs := [.tmp 6, .tmp 7]) (fun _ => []) Tryz.func29 rfl rfl rfl rfl rfl rfl ?_
  refine inQ ?_
  repeat' first
  | (with_reducible first | apply q0l | apply q0c | apply AW.seq | apply AW.block | apply AW.skip | apply AW.exit | apply AW.ret | apply q0m | apply q0n | apply q0d | apply q0e | refine q0b rfl ?_ | apply q0o | apply q0p | apply And.intro)
  | (with_reducible refine AW.runK hC ?_; intro K hK)
  | ((with_reducible first | refine q0t ?_ | refine q0k ?_); refine siQ ?_; (try simp (disch := omega) only [w64, wu8]))
  | ((first | refine AW.cond rfl (fun h => ?_) fun h => ?_ | refine AW.cond_ub rfl (fun h => ?_) ?_ | refine AW.cond_nb rfl ?_ fun h => ?_) <;> (try replace h := q0a h) <;> try (exfalso; first | omega | exact absurd h (by decide)))
  | (refine AW.loopN 11 rfl (ι := Nat) (fun i => mkS [(1, V.d (.s file)), (2, V.d (.i .i64 rrn)), (11, V.row 176 1 0 (imgs file rrn (l.take i)).length), (33, V.d (.sl 8 (l.map q0r))), (34, V.d (.i .i64 (l.length : Int))), (35, V.d (.i .i64 (i : Int)))] ([(176, .live (.row 9 1 true ((imgs file rrn (l.take i)).map D.s)))])) (fun i => i ≤ l.length ∧ (qbc l).2 = 0 ∧ qbb file = true ∧ ¬(rrn < 1 ∨ 60 < rrn)) (fun i => l.length - i) (0) ?_ ?_ (fun i hi => ?_) <;> (try dsimp only) <;> (try dsimp only at hi))
  | (refine LoopNext.mk1 11 (i + 1) ?_ ?_ ?_ <;> (try dsimp only))
  | (refine q0h ?_; refine subQ ?_)
  | (subst hK)
  | exact trivial
  all_goals try (intros; assumption)
  all_goals try refine q0v ?_
  all_goals try replace hp := q0a hp
  all_goals try replace hi := q0a hi
  all_goals try (intros; first | trivial | omega)
  all_goals (try (rw [w64 (by omega) (by omega)]; first | done | omega))
  all_goals (try have B := q61 l file rrn i)
  all_goals clear hC
  all_goals first
  | omega
  | assumption
  | (intro d hd; subst hd; exact ⟨rfl, by simp [D.cells, D.one]⟩)
  | (rw [q41 (by assumption)]; done)
  | (rw [q41 (by assumption)]; rfl)
  | exact qwc (by assumption)
  | exact hi.2.2.1
  | (rw [qtk (by assumption) (by first | assumption | exact qsd (by assumption))]; done)
  | (rw [qtk (by assumption) (by first | assumption | exact qsd (by assumption))]; rfl)
  | (rw [qtk (by assumption) (by first | assumption | exact qsd (by assumption)), if_pos (by first | assumption | exact qsd (by assumption))]; done)
  | (rw [q42 (by assumption) (by first | assumption | exact qwc (by assumption)) h]; done)
  | (rw [q42 (by assumption) (by first | assumption | exact qwc (by assumption)) h]; rfl)
  | (rw [qxm (by omega) (by rintro ⟨q1, q2, q3⟩; rcases h with (h | h) | h <;> first | exact h q1 | exact h q2 | exact h q3)]; done)
  | (rw [qxm (by omega) (by rintro ⟨q1, q2, q3⟩; rcases h with (h | h) | h <;> first | exact h q1 | exact h q2 | exact h q3)]; exact q0q _)
  | (rename_i hq; rw [qux (by omega) ⟨hq.1.1, hq.1.2, hq.2⟩ (by first | exact qbiv h | omega)]; simp; done)
  | (rename_i hq; rw [qux (by omega) ⟨hq.1.1, hq.1.2, hq.2⟩ (by first | exact qbiv h | omega), List.map_append, List.map_append]; exact q0q _)
  | (rename_i hq; rw [qxn (by omega) ⟨hq.1.1, hq.1.2, hq.2⟩ (by first | exact qbiw h | omega)]; simp; done)
  | (rename_i hq; rw [qxn (by omega) ⟨hq.1.1, hq.1.2, hq.2⟩ (by first | exact qbiw h | omega), List.map_append]; exact q0q _)
  | (rw [qbax hi.2.1 hi.2.2.1 hi.2.2.2, List.take_of_length_le (by omega)]; exact q0q _)
  | (rw [qbax hi.2.1 hi.2.2.1 hi.2.2.2]; done)
end
noncomputable def cfg8 : Cfg := mkC 38 q66
theorem qbse : cfg8.pins = [] ∧ cfg8.P = Tryz.prog ∧ cfg8.N = 38 ∧ cfg8.T 28 = e28 ∧ cfg8.T 29 = e29 ∧ cfg8.T 30 = e30 ∧ cfg8.T 31 = e31 ∧ cfg8.ti = (fun _ => none) ∧ cfg8.mv = fun _ _ => [] := by and_intros <;> exact rfl
section
attribute [local go_sem] qbse e28 e29 e30 e31
attribute [local go_sem] q0u q0r qd5 qeo qba qb4 qbh qcl q00 q0w qdr qcn qdu List.length_map Int.toNat_natCast Int.toNat_zero Nat.sub_zero List.length_take qch qbn qb2 qd0 qdm qdz qe6 qgg qig qkm qjq qbu qe8 qjp qly qkl qmr qrg qrh qck nc0 nc1 nc2 eqB List.getD_cons_zero q62 q3z q30 List.map_cons List.map_nil qber
attribute [local go_sem ←] List.map_take List.map_drop
theorem con8 (hC : COk cfg8)  : Sem Tryz.prog 8 [] (.d (.b true)) := by
  refine q0f (C := cfg8) (rs := [.tmp 0]) (fun _ => []) Tryz.func8 rfl rfl rfl rfl rfl rfl ?_
  refine inQ ?_
  repeat' first
  | (with_reducible first | apply q0l | apply q0c | apply AW.seq | apply AW.block | apply AW.skip | apply AW.exit | apply AW.ret | apply q0m | apply q0n | apply q0d | apply q0e | refine q0b rfl ?_ | apply q0o | apply q0p | apply And.intro)
  | (with_reducible refine AW.runK hC ?_; intro K hK)
  | ((with_reducible first | refine q0t ?_ | refine q0k ?_); refine siQ ?_; (try simp (disch := omega) only [w64, wu8]))
  | ((first | refine AW.cond rfl (fun h => ?_) fun h => ?_ | refine AW.cond_ub rfl (fun h => ?_) ?_ | refine AW.cond_nb rfl ?_ fun h => ?_) <;> (try replace h := q0a h) <;> try (exfalso; first | omega | exact absurd h (by decide)))
  | (refine q0h ?_; refine subQ ?_)
  | (subst hK)
  | exact trivial
  all_goals try (intros; assumption)
  all_goals try refine q0v ?_
  all_goals try (intros; first | trivial | omega)
  all_goals (try (rw [w64 (by omega) (by omega)]; first | done | omega))
  all_goals first
  | (intro d hd; rcases hd with rfl | rfl | rfl <;> exact ⟨rfl, by simp [D.cells, D.one]⟩)
end
noncomputable def cfg185 : Cfg := mkC 15 tab8
theorem qbgq : cfg185.pins = [] ∧ cfg185.P = Tryz.prog ∧ cfg185.N = 15 := ⟨rfl, rfl, rfl⟩
section
attribute [local go_sem] qbgq
theorem qbsf (hC : COk cfg185) (n : Int) (lo : Int) (hi : Int) : Sem Tryz.prog 185 [.d (.i .i64 n), .d (.i .i64 lo), .d (.i .i64 hi)] (.d (.b (decide (lo ≤ n) && decide (n ≤ hi)))) := by
  refine q0f (C := cfg185) (rs := [.tmp 6]) (fun _ => []) Tryz.func185 rfl rfl rfl rfl rfl rfl ?_
  refine inQ ?_
  repeat' first
  | (with_reducible first | apply q0l | apply q0c | apply AW.seq | apply AW.block | apply AW.skip | apply AW.exit | apply AW.ret | apply q0m | apply q0n | apply q0d | apply q0e | refine q0b rfl ?_ | apply q0o | apply q0p | apply And.intro)
  | (with_reducible refine AW.runK hC ?_; intro K hK)
  | ((with_reducible first | refine q0t ?_ | refine q0k ?_); refine siQ ?_; (try simp (disch := omega) only [w64, wu8]))
  | ((first | refine AW.cond rfl (fun h => ?_) fun h => ?_ | refine AW.cond_ub rfl (fun h => ?_) ?_ | refine AW.cond_nb rfl ?_ fun h => ?_) <;> (try replace h := q0a h) <;> try (exfalso; first | omega | exact absurd h (by decide)))
  | (refine q0h ?_; refine subQ ?_)
  | (subst hK)
  | exact trivial
  all_goals try (intros; assumption)
  all_goals try refine q0v ?_
  all_goals try replace hi := q0a hi
  all_goals try (intros; first | trivial | omega)
  all_goals (try (rw [w64 (by omega) (by omega)]; first | done | omega))
 
end
noncomputable def cfg187 : Cfg := mkC 7 q00i
theorem qbgr : cfg187.pins = [] ∧ cfg187.P = Tryz.prog ∧ cfg187.N = 7 := ⟨rfl, rfl, rfl⟩
section
attribute [local go_sem] qbgr
theorem qbsg (hC : COk cfg187) (b : Bool) (e : Int) : Sem Tryz.prog 187 [.d (.b b), .d (.i .i64 e)] (.d (.i .i64 (if b = true then e else 0))) := by
  refine q0f (C := cfg187) (rs := [.tmp 4]) (fun _ => []) Tryz.func187 rfl rfl rfl rfl rfl rfl ?_
  refine inQ ?_
  repeat' first
  | (with_reducible first | apply q0l | apply q0c | apply AW.seq | apply AW.block | apply AW.skip | apply AW.exit | apply AW.ret | apply q0m | apply q0n | apply q0d | apply q0e | refine q0b rfl ?_ | apply q0o | apply q0p | apply And.intro)
  | (with_reducible refine AW.runK hC ?_; intro K hK)
  | ((with_reducible first | refine q0t ?_ | refine q0k ?_); refine siQ ?_; (try simp (disch := omega) only [w64, wu8]))
  | ((first | refine AW.cond rfl (fun h => ?_) fun h => ?_ | refine AW.cond_ub rfl (fun h => ?_) ?_ | refine AW.cond_nb rfl ?_ fun h => ?_) <;> (try replace h := q0a h) <;> try (exfalso; first | omega | exact absurd h (by decide)))
  | (refine q0h ?_; refine subQ ?_)
  | (subst hK)
  | exact trivial
  all_goals try (intros; assumption)
  all_goals try refine q0v ?_
  all_goals try (intros; first | trivial | omega)
  all_goals (try (rw [w64 (by omega) (by omega)]; first | done | omega))
  all_goals simp [*]
end
noncomputable def cfg186 : Cfg := mkC 15 q00j
theorem qbgs : cfg186.pins = [] ∧ cfg186.P = Tryz.prog ∧ cfg186.N = 15 := ⟨rfl, rfl, rfl⟩
section
attribute [local go_sem] qbgs
attribute [local go_sem] qcv List.length_map Int.toNat_natCast
theorem qbsh (hC : COk cfg186) (l : List Int) (hp : l.length ≤ 1000000) : Sem Tryz.prog 186 [.d (.sl 1 (l.map (D.i .i64)))] (.d (.i .i64 (qbs l))) := by
  refine q0f (C := cfg186) (rs := [.tmp 2]) (fun _ => []) Tryz.func186 rfl rfl rfl rfl rfl rfl ?_
  refine inQ ?_
  repeat' first
  | (with_reducible first | apply q0l | apply q0c | apply AW.seq | apply AW.block | apply AW.skip | apply AW.exit | apply AW.ret | apply q0m | apply q0n | apply q0d | apply q0e | refine q0b rfl ?_ | apply q0o | apply q0p | apply And.intro)
  | (with_reducible refine AW.runK hC ?_; intro K hK)
  | ((with_reducible first | refine q0t ?_ | refine q0k ?_); refine siQ ?_; (try simp (disch := omega) only [w64, wu8]))
  | ((first | refine AW.cond rfl (fun h => ?_) fun h => ?_ | refine AW.cond_ub rfl (fun h => ?_) ?_ | refine AW.cond_nb rfl ?_ fun h => ?_) <;> (try replace h := q0a h) <;> try (exfalso; first | omega | exact absurd h (by decide)))
  | (refine AW.loopN 2 rfl (ι := Nat) (fun i => mkS [(5, V.d (.sl 1 (l.map (D.i .i64)))), (6, V.d (.i .i64 (l.length : Int))), (7, V.d (.i .i64 (i : Int)))] ([])) (fun i => i ≤ l.length ∧ qbs (l.drop i) = qbs l) (fun i => l.length - i) (0) ?_ ?_ (fun i hi => ?_) <;> (try dsimp only) <;> (try dsimp only at hi))
  | (refine LoopNext.mk1 2 (i + 1) ?_ ?_ ?_ <;> (try dsimp only))
  | (refine q0h ?_; refine subQ ?_)
  | (subst hK)
  | exact trivial
  all_goals try (intros; assumption)
  all_goals try refine q0v ?_
  all_goals try replace hp := q0a hp
  all_goals try replace hi := q0a hi
  all_goals try (intros; first | trivial | omega)
  all_goals (try (rw [w64 (by omega) (by omega)]; first | done | omega))
  all_goals first
  | rfl
  | (rw [quy hi.2 (by omega) (by assumption)]; done)
  | exact qxp hi.2 (by omega) (by assumption)
  | (rw [quz hi.2 (by omega)]; done)
end
noncomputable def cfg119 : Cfg := mkC 7 q00k
theorem qbgt : cfg119.pins = [] ∧ cfg119.P = Tryz.prog ∧ cfg119.N = 7 := ⟨rfl, rfl, rfl⟩
section
attribute [local go_sem] qbgt
theorem qbsi (hC : COk cfg119) (b : Bool) (e : Int) : Sem Tryz.prog 119 [.d (.b b), .d (.i .i64 e)] (.d (.i .i64 (if b = true then e else 0))) := by
  refine q0f (C := cfg119) (rs := [.tmp 4]) (fun _ => []) Tryz.func119 rfl rfl rfl rfl rfl rfl ?_
  refine inQ ?_
  repeat' first
  | (with_reducible first | apply q0l | apply q0c | apply AW.seq | apply AW.block | apply AW.skip | apply AW.exit | apply AW.ret | apply q0m | apply q0n | apply q0d | apply q0e | refine q0b rfl ?_ | apply q0o | apply q0p | apply And.intro)
  | (with_reducible refine AW.runK hC ?_; intro K hK)
  | ((with_reducible first | refine q0t ?_ | refine q0k ?_); refine siQ ?_; (try simp (disch := omega) only [w64, wu8]))
  | ((first | refine AW.cond rfl (fun h => ?_) fun h => ?_ | refine AW.cond_ub rfl (fun h => ?_) ?_ | refine AW.cond_nb rfl ?_ fun h => ?_) <;> (try replace h := q0a h) <;> try (exfalso; first | omega | exact absurd h (by decide)))
  | (refine q0h ?_; refine subQ ?_)
  | (subst hK)
  | exact trivial
  all_goals try (intros; assumption)
  all_goals try refine q0v ?_
  all_goals try (intros; first | trivial | omega)
  all_goals (try (rw [w64 (by omega) (by omega)]; first | done | omega))
  all_goals simp [*]
end
noncomputable def cfg117 : Cfg := mkC 15 q00l
theorem qbgu : cfg117.pins = [] ∧ cfg117.P = Tryz.prog ∧ cfg117.N = 15 := ⟨rfl, rfl, rfl⟩
section
attribute [local go_sem] qbgu
attribute [local go_sem] qcv List.length_map Int.toNat_natCast
theorem qbsj (hC : COk cfg117) (l : List Int) (hp : l.length ≤ 1000000) : Sem Tryz.prog 117 [.d (.sl 1 (l.map (D.i .i64)))] (.d (.i .i64 (qbs l))) := by
  refine q0f (C := cfg117) (rs := [.tmp 2]) (fun _ => []) Tryz.func117 rfl rfl rfl rfl rfl rfl ?_
  refine inQ ?_
  repeat' first
  | (with_reducible first | apply q0l | apply q0c | apply AW.seq | apply AW.block | apply AW.skip | apply AW.exit | apply AW.ret | apply q0m | apply q0n | apply q0d | apply q0e | refine q0b rfl ?_ | apply q0o | apply q0p | apply And.intro)
  | (with_reducible refine AW.runK hC ?_; intro K hK)
  | ((with_reducible first | refine q0t ?_ | refine q0k ?_); refine siQ ?_; (try simp (disch := omega) only [w64, wu8]))
  | ((first | refine AW.cond rfl (fun h => ?_) fun h => ?_ | refine AW.cond_ub rfl (fun h => ?_) ?_ | refine AW.cond_nb rfl ?_ fun h => ?_) <;> (try replace h := q0a h) <;> try (exfalso; first | omega | exact absurd h (by decide)))
  | (refine AW.loopN 2 rfl (ι := Nat) (fun i => mkS [(5, V.d (.sl 1 (l.map (D.i .i64)))), (6, V.d (.i .i64 (l.length : Int))), (7, V.d (.i .i64 (i : Int)))] ([])) (fun i => i ≤ l.length ∧ qbs (l.drop i) = qbs l) (fun i => l.length - i) (0) ?_ ?_ (fun i hi => ?_) <;> (try dsimp only) <;> (try dsimp only at hi))
  | (refine LoopNext.mk1 2 (i + 1) ?_ ?_ ?_ <;> (try dsimp only))
  | (refine q0h ?_; refine subQ ?_)
  | (subst hK)
  | exact trivial
  all_goals try (intros; assumption)
  all_goals try refine q0v ?_
  all_goals try replace hp := q0a hp
  all_goals try replace hi := q0a hi
  all_goals try (intros; first | trivial | omega)
  all_goals (try (rw [w64 (by omega) (by omega)]; first | done | omega))
  all_goals first
  | rfl
  | (rw [quy hi.2 (by omega) (by assumption)]; done)
  | exact qxp hi.2 (by omega) (by assumption)
  | (rw [quz hi.2 (by omega)]; done)
end
noncomputable def cfg152 : Cfg := mkC 65 q00m
theorem qbgv : cfg152.pins = [] ∧ cfg152.P = Tryz.prog ∧ cfg152.N = 65 := ⟨rfl, rfl, rfl⟩
section
attribute [local go_sem] qbgv
attribute [local go_sem] Int.toNat_natCast qdd qbf qbm
theorem qbsk (hC : COk cfg152) (s : ByteArray) : Sem Tryz.prog 152 [.d (.s s)] (.d (.b (qbb s))) := by
  refine q0f (C := cfg152) (rs := [.tmp 2]) (fun _ => []) Tryz.func152 rfl rfl rfl rfl rfl rfl ?_
  refine inQ ?_
  repeat' first
  | (with_reducible first | apply q0l | apply q0c | apply AW.seq | apply AW.block | apply AW.skip | apply AW.exit | apply AW.ret | apply q0m | apply q0n | apply q0d | apply q0e | refine q0b rfl ?_ | apply q0o | apply q0p | apply And.intro)
  | (with_reducible refine AW.runK hC ?_; intro K hK)
  | ((with_reducible first | refine q0t ?_ | refine q0k ?_); refine siQ ?_; (try simp (disch := omega) only [w64, wu8]))
  | ((first | refine AW.cond rfl (fun h => ?_) fun h => ?_ | refine AW.cond_ub rfl (fun h => ?_) ?_ | refine AW.cond_nb rfl ?_ fun h => ?_) <;> (try replace h := q0a h) <;> try (exfalso; first | omega | exact absurd h (by decide)))
  | (refine AW.loopN 4 rfl (ι := Nat) (fun i => mkS [(15, V.d (.sl 1 (qhl s))), (16, V.d (.i .i64 (s.size : Int))), (17, V.d (.i .i64 (i : Int)))] ([])) (fun i => i ≤ s.size ∧ 1 ≤ s.size ∧ s.size ≤ 10 ∧ ∀ j, j < i → qog (j == 0) (chr s j) = true) (fun i => s.size - i) (0) ?_ ?_ (fun i hi => ?_) <;> (try dsimp only) <;> (try dsimp only at hi))
  | (refine LoopNext.mk1 4 (i + 1) ?_ ?_ ?_ <;> (try dsimp only))
  | (refine q0h ?_; refine subQ ?_)
  | (subst hK)
  | exact trivial
  all_goals try (intros; assumption)
  all_goals try refine q0v ?_
  all_goals try replace hi := q0a hi
  all_goals try replace hj := q0a hj
  all_goals try (intros; first | trivial | omega)
  all_goals (try (rw [w64 (by omega) (by omega)]; first | done | omega))
  all_goals (try simp only [qtj] at *)
  all_goals first
  | omega
  | exact qpt (by omega)
  | exact qq9 (i := i) (by omega) (by rw [← Bool.not_eq_true, qk0]; omega)
  | exact fun j hj => if e : j < i then hi.2.2.2 j e else by
      have : j = i := by omega
      subst this
      rw [qk0]
      omega
  | exact qps (by omega) (by omega) fun j hj => hi.2.2.2 j (by omega)
end
noncomputable def cfg172 : Cfg := mkC 54 q00n
theorem qbgw : cfg172.pins = [] ∧ cfg172.P = Tryz.prog ∧ cfg172.N = 54 ∧ cfg172.T 185 = e185 ∧ cfg172.T 186 = e186 ∧ cfg172.T 187 = e187 ∧ cfg172.ti = (fun _ => none) ∧ cfg172.mv = fun _ _ => [] := by and_intros <;> exact rfl
section
attribute [local go_sem] qbgw e185 e186 e187
attribute [local go_sem] qbe qbg qcg qc2 qb7 qde qdo qei qbs Int.toNat_natCast qdd qd7 qer qcv qch qbn qb2 decI List.length_map nc0 qbf qbm
theorem qbsl (hC : COk cfg172) (t : DType) : Sem Tryz.prog 172 [.d (qbe t)] (.d (.i .i64 (qbi t))) := by
  refine q0f (C := cfg172) (rs := [.tmp 2]) (fun _ => []) Tryz.func172 rfl rfl rfl rfl rfl rfl ?_
  refine inQ ?_
  repeat' first
  | (with_reducible first | apply q0l | apply q0c | apply AW.seq | apply AW.block | apply AW.skip | apply AW.exit | apply AW.ret | apply q0m | apply q0n | apply q0d | apply q0e | refine q0b rfl ?_ | apply q0o | apply q0p | apply And.intro)
  | (with_reducible first | (refine AW.runK hC ?_; intro K hK) | (refine AW.drawK hC (by kernel_rfl) ?_; intro K hK))
  | ((with_reducible first | refine q0t ?_ | refine qbz ?_ | refine q0k ?_); refine siQ ?_; (try simp (disch := omega) only [w64, wu8]))
  | (with_reducible refine qbj (by kernel_rfl) ?_)
  | ((first | refine AW.cond rfl (fun h => ?_) fun h => ?_ | refine AW.cond_ub rfl (fun h => ?_) ?_ | refine AW.cond_nb rfl ?_ fun h => ?_) <;> (try replace h := q0a h) <;> try (exfalso; first | omega | exact absurd h (by decide)))
  | (refine q0h ?_; refine subQ ?_)
  | (subst hK)
  | exact trivial
  all_goals try (intros; assumption)
  all_goals try refine q0v ?_
  all_goals try (intros; first | trivial | omega)
  all_goals (try (rw [w64 (by omega) (by omega)]; first | done | omega))
  all_goals clear hC
  all_goals (try simp only [qbi])
  all_goals first
  | grind
  | ((repeat' split) <;> first | rfl | omega | (exfalso; omega) | (simp_all; done) | grind)
  | (intro d hd; first | (subst hd; exact ⟨rfl, by simp [D.cells, D.one]⟩) | (rcases hd with rfl | rfl <;> exact ⟨rfl, by simp [D.cells, D.one]⟩) | (rcases hd with rfl | rfl | rfl <;> exact ⟨rfl, by simp [D.cells, D.one]⟩) | (rcases hd with rfl | rfl | rfl | rfl <;> exact ⟨rfl, by simp [D.cells, D.one]⟩))
end
noncomputable def cfg188 : Cfg := mkC 22 q00o
theorem qbgx : cfg188.pins = [] ∧ cfg188.P = Tryz.prog ∧ cfg188.N = 22 := ⟨rfl, rfl, rfl⟩
section
attribute [local go_sem] qbgx
attribute [local go_sem] qbe qbg qcg qc2 qb7 qde qdo qei qbs Int.toNat_natCast qdd qd7 qer qcv qch qbn qb2 decI List.length_map nc0 qbf qbm
theorem qbsm (hC : COk cfg188) (t : DType) (hp : qbi t = 0) : Sem Tryz.prog 188 [.d (qbe t)] (.d (.i .i64 (qex t))) := by
  have ht := qj4 hp
  refine q0f (C := cfg188) (rs := [.tmp 2]) (fun _ => []) Tryz.func188 rfl rfl rfl rfl rfl rfl ?_
  refine inQ ?_
  repeat' first
  | (with_reducible first | apply q0l | apply q0c | apply AW.seq | apply AW.block | apply AW.skip | apply AW.exit | apply AW.ret | apply q0m | apply q0n | apply q0d | apply q0e | refine q0b rfl ?_ | apply q0o | apply q0p | apply And.intro)
  | (with_reducible refine AW.runK hC ?_; intro K hK)
  | ((with_reducible first | refine q0t ?_ | refine q0k ?_); refine siQ ?_; (try simp (disch := omega) only [w64, wu8]))
  | ((first | refine AW.cond rfl (fun h => ?_) fun h => ?_ | refine AW.cond_ub rfl (fun h => ?_) ?_ | refine AW.cond_nb rfl ?_ fun h => ?_) <;> (try replace h := q0a h) <;> try (exfalso; first | omega | exact absurd h (by decide)))
  | (refine q0h ?_; refine subQ ?_)
  | (subst hK)
  | exact trivial
  all_goals try (intros; assumption)
  all_goals try refine q0v ?_
  all_goals try replace hp := q0a hp
  all_goals try (intros; first | trivial | omega)
  all_goals (try (rw [w64 (by omega) (by omega)]; first | done | omega))
  all_goals clear hC
  all_goals (try simp only [qex])
  all_goals first
  | omega
  | (rw [qs7 (by omega) (by omega), if_pos (by omega)]; done)
  | (rw [q31 (by omega) (by omega), if_neg (by omega), if_pos (by omega)]; done)
  | grind
  | (intro d hd; first | (subst hd; exact ⟨rfl, by simp [D.cells, D.one]⟩) | (rcases hd with rfl | rfl <;> exact ⟨rfl, by simp [D.cells, D.one]⟩) | (rcases hd with rfl | rfl | rfl <;> exact ⟨rfl, by simp [D.cells, D.one]⟩) | (rcases hd with rfl | rfl | rfl | rfl <;> exact ⟨rfl, by simp [D.cells, D.one]⟩))
end
noncomputable def cfg173 : Cfg := mkC 12 q00p
theorem qbgy : cfg173.pins = [] ∧ cfg173.P = Tryz.prog ∧ cfg173.N = 12 ∧ cfg173.T 172 = e172 ∧ cfg173.T 188 = e188 ∧ cfg173.ti = (fun _ => none) ∧ cfg173.mv = fun _ _ => [] := by and_intros <;> exact rfl
section
attribute [local go_sem] qbgy e172 e188
attribute [local go_sem] qbe qbg qcg qc2 qb7 qde qdo qei qbs Int.toNat_natCast qdd qd7 qer qcv qch qbn qb2 decI List.length_map nc0 qbf qbm
theorem qbsn (hC : COk cfg173) (t : DType) : Sem Tryz.prog 173 [.d (qbe t)] (.tup [.d (.i .i64 (if qbi t = 0 then qex t else 0)), .d (.i .i64 (qbi t))]) := by
  refine q0f (C := cfg173) (rs := [.tmp 2, .tmp 3]) (fun _ => []) Tryz.func173 rfl rfl rfl rfl rfl rfl ?_
  refine inQ ?_
  repeat' first
  | (with_reducible first | apply q0l | apply q0c | apply AW.seq | apply AW.block | apply AW.skip | apply AW.exit | apply AW.ret | apply q0m | apply q0n | apply q0d | apply q0e | refine q0b rfl ?_ | apply q0o | apply q0p | apply And.intro)
  | (with_reducible refine AW.runK hC ?_; intro K hK)
  | ((with_reducible first | refine q0t ?_ | refine q0k ?_); refine siQ ?_; (try simp (disch := omega) only [w64, wu8]))
  | ((first | refine AW.cond rfl (fun h => ?_) fun h => ?_ | refine AW.cond_ub rfl (fun h => ?_) ?_ | refine AW.cond_nb rfl ?_ fun h => ?_) <;> (try replace h := q0a h) <;> try (exfalso; first | omega | exact absurd h (by decide)))
  | (refine q0h ?_; refine subQ ?_)
  | (subst hK)
  | exact trivial
  all_goals try (intros; assumption)
  all_goals try refine q0v ?_
  all_goals try (intros; first | trivial | omega)
  all_goals (try (rw [w64 (by omega) (by omega)]; first | done | omega))
  all_goals clear hC
  all_goals first
  | omega
  | grind
  | (intro d hd; first | (subst hd; exact ⟨rfl, by simp [D.cells, D.one]⟩) | (rcases hd with rfl | rfl <;> exact ⟨rfl, by simp [D.cells, D.one]⟩) | (rcases hd with rfl | rfl | rfl <;> exact ⟨rfl, by simp [D.cells, D.one]⟩) | (rcases hd with rfl | rfl | rfl | rfl <;> exact ⟨rfl, by simp [D.cells, D.one]⟩))
end
end Go.Ev
