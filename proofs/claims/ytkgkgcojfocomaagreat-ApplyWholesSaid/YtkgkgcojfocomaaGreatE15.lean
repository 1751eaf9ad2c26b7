/- Tools and contracts under the laws of this seat: Dyc28 to Dyc173. -/
import Derived.Test.YtkgkgcojfocomaaGreatE05
import Derived.Test.YtkgkgcojfocomaaGreatE14
set_option linter.unusedVariables false
set_option linter.unusedSimpArgs false
namespace Go.Ev
open Go.Proofs Ty
set_option maxRecDepth 10000
set_option maxHeartbeats 4000000
set_option linter.unusedSimpArgs false
set_option linter.unusedVariables false
noncomputable def cfg28 : Cfg := ⟨Tryz.prog, 34, q5d, (fun _ _ => []), [], (fun _ => none)⟩
theorem qblv : cfg28.pins = [] ∧ cfg28.P = Tryz.prog ∧ cfg28.N = 34 ∧ cfg28.ti 61 = none ∧ cfg28.T 61 = e61 ∧ cfg28.mv 61 = (fun _ => []) ∧ cfg28.ti 62 = none ∧ cfg28.ti 63 = none := ⟨rfl, rfl, rfl, rfl, rfl, rfl, rfl, rfl⟩
section
attribute [local go_sem] qblv e61
attribute [local go_sem] q0u q0r qd3 qem q08 qb3 qbh qcf q0z q0w qdq qci qdt List.length_map Int.toNat_natCast Int.toNat_zero Nat.sub_zero List.length_take qcc qbm qb0 qdz qdk qdx qe1 qga qh7 qkb qjg qbr qe2 qjf qlf qka
attribute [local go_sem ←] List.map_take List.map_drop
theorem qbvx (hC : COk cfg28) (l : List Entry) (hp : l.length ≤ 1000000) : Sem Tryz.prog 28 [.d (.sl 8 (l.map q0r))] (.tup [.d (.sl 4 ((qek l).map qbr)), .d (.i .i64 (qbc l).2)]) := by
  refine q0f (C := cfg28) (rs := [.tmp 2, .tmp 3]) (fun _ => []) Tryz.func28 rfl rfl rfl rfl rfl rfl ?_
  refine inQ ?_
  repeat' first
    | (refine AW.rangeMap (kt := 3) (et := 99) (slI := fun d => [(7, V.row 112 4 0 ((qhj (qek l) d).map qbr).length), (20, .ptr 320 0)]) (hpI := fun d => [(112, .live (.row 61 4 false ((qhj (qek l) d).map qbr))), (320, .dead)]) (id := 320) rfl rfl rfl rfl rfl rfl rfl rfl rfl rfl rfl rfl rfl rfl rfl rfl rfl rfl rfl rfl rfl rfl (by refine ⟨⟨?_, ?_⟩, ?_, ?_, ?_, ?_, ?_⟩ <;> (show _ < 34; decide)) (by decide) (by show mapT Tryz.prog 65 = some (3, 99); kernel_rfl) rfl rfl rfl (fun d => ⟨rfl, rfl, rfl, rfl, rfl⟩) (fun d => rfl) ?_ (fun d j h1 h2 h3 h4 => ?_) (fun d hd => have hpl := q4x (us := qek l) (d := d) (by simpa using hd); ?_))
    | (refine AW.turnX q7u q7v ⟨_, Tryz.func62, rfl, rfl⟩ rfl rfl rfl rfl rfl rfl (by show _ < 34; decide) rfl rfl rfl rfl (q4w (by assumption) (by simpa using hd)) (q81 (by assumption) (by simpa using hd)) ?_ ?_)
    | (with_reducible first | apply q0j | apply q0c | apply AW.seq | apply AW.block)
    | (with_reducible refine AW.runK hC ?_; intro K hK)
    | ((with_reducible first | refine q0t ?_ | refine q0i ?_); (first | (simp (maxSteps := 1000000) only [go_sem, ↓reduceIte, reduceCtorEq, Nat.reduceEqDiff, Nat.reduceLT, Nat.reduceLeDiff, Nat.reduceMul, Nat.reduceAdd, Nat.reduceSub, reduceDIte, Nat.reduceBEq, Nat.reduceBNe, hpl]) | (refine siQ ?_)); (try simp (disch := omega) only [w64, wu8]))
    | ((first | (refine AW.cond rfl (fun h => ?_) (fun h => ?_)) | (refine AW.cond_ub rfl (fun h => ?_) ?_) | (refine AW.cond_nb rfl ?_ (fun h => ?_))) <;> (try replace h := q0a h) <;> (try (exfalso; first | omega | exact absurd h (by decide))))
    | (with_reducible first | apply AW.skip | apply AW.exit | apply AW.ret | apply q0k | apply q0l | apply q0d | apply q0e | refine q0b rfl ?_ | apply q0m | apply q0n)
    | (refine q0h ?_; refine subQ ?_)
    | (with_reducible refine And.intro ?_ ?_)
    | (subst hK)
    | exact trivial
  all_goals (try (intros; assumption))
  all_goals (try refine q0v ?_)
  all_goals (try replace hp := q0a hp)
  all_goals (try (intros; trivial))
  all_goals (try (intros; omega))
  all_goals (try (rw [w64 (by omega) (by omega)]; first | done | omega))
  all_goals first
    | (rw [qip (by assumption)]; rfl)
    | (intro e
       have h5 := congrArg List.length e
       rw [List.length_map, hpl] at h5
       exact List.eq_nil_of_length_eq_zero (by rw [List.length_map]; exact h5))
    | skip
  · rw [qbpb h3]
    have hdl := qqp _ d h1 h2
    refine AW.runK (COk.pins hC) ?_
    intro K hK
    simp (maxSteps := 1000000) only [go_sem, ↓reduceIte, reduceCtorEq, Nat.reduceEqDiff, Nat.reduceLT, Nat.reduceLeDiff, Nat.reduceMul, Nat.reduceAdd, Nat.reduceSub, reduceDIte, Nat.reduceBEq, Nat.reduceBNe, q0u, q0r, qd3, qem, q08, qb3, qbh, qcf, q0z, q0w, qdq, qci, qdt, List.length_map, Int.toNat_natCast, Int.toNat_zero, Nat.sub_zero, ← List.map_take, ← List.map_drop, List.length_take, qcc, qbm, qb0, qdz, qdk, qdx, qe1, qga, qh7, qkb, qjg, qbr, qe2, qjf, qlf, qka]
    rw [List.length_map] at hdl
    have hcl := qph (l := l)
    refine ⟨?_, ?_, ?_⟩
    · intro d hd; subst hd; exact ⟨rfl, by simp [D.cells, D.one]⟩
    · rw [qbdb]; omega
    · subst hK
      refine ⟨rfl, ?_⟩
      refine q0h ?_
      simp (maxSteps := 1000000) only [forall_eq, V.ptr.injEq, V.row.injEq, V.rp.injEq, V.mref.injEq, exists_eq_left', and_assoc, rhoV, qjs, qxo, rhoO, qxp, qrh, rho1, HS.obj?, forall_eq', qio, qo6, qqf, nfL, vs, vss, vds, vd1, os, aget, go_sem, q82, List.map_append, List.map_cons, List.map_nil, List.length_append, List.length_map, List.length_cons, List.length_nil, qjf, qbr, ↓reduceIte, reduceCtorEq, Nat.reduceEqDiff, Nat.reduceLT, Nat.reduceLeDiff, Nat.reduceMul, Nat.reduceAdd, Nat.reduceSub, reduceDIte, Nat.reduceBEq, Nat.reduceBNe]
end
noncomputable def cfg30 : Cfg := ⟨Tryz.prog, 26, q5e, (fun _ _ => []), [], (fun _ => none)⟩
theorem qblw : cfg30.pins = [] ∧ cfg30.P = Tryz.prog ∧ cfg30.N = 26 := ⟨rfl, rfl, rfl⟩
section
attribute [local go_sem] qblw
attribute [local go_sem] q0u q0r qd3 qem q08 qb3 qbh qcf q0z q0w qdq qci qdt List.length_map Int.toNat_natCast Int.toNat_zero Nat.sub_zero List.length_take qcc qbm qb0 qdz qdk qdx qe1 qga qh7 qkb qjg qbr qe2 qjf qlf qka qma qqq qqr qce
attribute [local go_sem ←] List.map_take List.map_drop
theorem qbvy (hC : COk cfg30) (a : List AUnit) (b : List AUnit) (hp : a.length ≤ 1000000) : Sem Tryz.prog 30 [.d (.sl 4 (a.map qbr)), .d (.sl 4 (b.map qbr))] (.d (.b (decide (a = b)))) := by
  refine q0f (C := cfg30) (rs := [.tmp 4]) (fun _ => []) Tryz.func30 rfl rfl rfl rfl rfl rfl ?_
  refine inQ ?_
  repeat' first
    | (with_reducible first | apply q0j | apply q0c | apply AW.seq | apply AW.block)
    | (with_reducible first | (refine AW.runK hC ?_; intro K hK) | (refine AW.drawK hC (by kernel_rfl) ?_; intro K hK))
    | ((with_reducible first | refine q0t ?_ | refine qb2 ?_ | refine q0i ?_); refine siQ ?_; (try simp (disch := omega) only [w64, wu8]))
    | (with_reducible refine qbn (by kernel_rfl) ?_)
    | ((first | (refine AW.cond rfl (fun h => ?_) (fun h => ?_)) | (refine AW.cond_ub rfl (fun h => ?_) ?_) | (refine AW.cond_nb rfl ?_ (fun h => ?_))) <;> (try replace h := q0a h) <;> (try (exfalso; first | omega | exact absurd h (by decide))))
    | (with_reducible first | apply AW.skip | apply AW.exit | apply AW.ret | apply q0k | apply q0l | apply q0d | apply q0e | refine q0b rfl ?_ | apply q0m | apply q0n)
    | (refine AW.loopN 4 rfl (ι := Nat) (fun i => mkS [(0, V.d (.sl 4 (a.map qbr))), (1, V.d (.sl 4 (b.map qbr))), (5, V.d (.i .i64 (i : Int)))] ([])) (fun i => i ≤ a.length ∧ a.length = b.length ∧ a.take i = b.take i) (fun i => a.length - i) (0) ?_ ?_ (fun i hi => ?_) <;> (try dsimp only) <;> (try dsimp only at hi))
    | (refine LoopNext.mk1 4 (i + 1) ?_ ?_ ?_ <;> (try dsimp only))
    | (refine q0h ?_; refine subQ ?_)
    | (with_reducible refine And.intro ?_ ?_)
    | (subst hK)
    | exact trivial
  all_goals (try (intros; assumption))
  all_goals (try refine q0v ?_)
  all_goals (try replace hp := q0a hp)
  all_goals (try replace hi := q0a hi)
  all_goals (try (intros; trivial))
  all_goals (try (intros; omega))
  all_goals (try (rw [w64 (by omega) (by omega)]; first | done | omega))
  all_goals first
    | rfl
    | (intro e; subst e; exact h rfl)
    | exact qb9 hi.2.2 (by omega) (by omega)
    | exact qgp hi.2.2 (by omega) (by omega) (by assumption)
    | (simp only [decide_eq_true_eq]; exact qb9 hi.2.2 (by omega) (by omega))
    | (intro e; subst e; simp at h; done)
end
noncomputable def cfg31 : Cfg := ⟨Tryz.prog, 26, q5h, (fun _ _ => []), [], (fun _ => none)⟩
theorem qblx : cfg31.pins = [] ∧ cfg31.P = Tryz.prog ∧ cfg31.N = 26 := ⟨rfl, rfl, rfl⟩
section
attribute [local go_sem] qblx
attribute [local go_sem] q0u q0r qd3 qem q08 qb3 qbh qcf q0z q0w qdq qci qdt List.length_map Int.toNat_natCast Int.toNat_zero Nat.sub_zero List.length_take qcc qbm qb0 qdz qdk qdx qe1 qga qh7 qkb qjg qbr qe2 qjf qlf qka qma qqq qqr qce
attribute [local go_sem ←] List.map_take List.map_drop
theorem qbvz (hC : COk cfg31) (a : List ByteArray) (b : List ByteArray) (hp : a.length ≤ 1000000) : Sem Tryz.prog 31 [.d (.sl 1 (a.map D.s)), .d (.sl 1 (b.map D.s))] (.d (.b (decide (a = b)))) := by
  refine q0f (C := cfg31) (rs := [.tmp 4]) (fun _ => []) Tryz.func31 rfl rfl rfl rfl rfl rfl ?_
  refine inQ ?_
  repeat' first
    | (with_reducible first | apply q0j | apply q0c | apply AW.seq | apply AW.block)
    | (with_reducible first | (refine AW.runK hC ?_; intro K hK) | (refine AW.drawK hC (by kernel_rfl) ?_; intro K hK))
    | ((with_reducible first | refine q0t ?_ | refine qb2 ?_ | refine q0i ?_); refine siQ ?_; (try simp (disch := omega) only [w64, wu8]))
    | (with_reducible refine qbn (by kernel_rfl) ?_)
    | ((first | (refine AW.cond rfl (fun h => ?_) (fun h => ?_)) | (refine AW.cond_ub rfl (fun h => ?_) ?_) | (refine AW.cond_nb rfl ?_ (fun h => ?_))) <;> (try replace h := q0a h) <;> (try (exfalso; first | omega | exact absurd h (by decide))))
    | (with_reducible first | apply AW.skip | apply AW.exit | apply AW.ret | apply q0k | apply q0l | apply q0d | apply q0e | refine q0b rfl ?_ | apply q0m | apply q0n)
    | (refine AW.loopN 4 rfl (ι := Nat) (fun i => mkS [(0, V.d (.sl 1 (a.map D.s))), (1, V.d (.sl 1 (b.map D.s))), (5, V.d (.i .i64 (i : Int)))] ([])) (fun i => i ≤ a.length ∧ a.length = b.length ∧ a.take i = b.take i) (fun i => a.length - i) (0) ?_ ?_ (fun i hi => ?_) <;> (try dsimp only) <;> (try dsimp only at hi))
    | (refine LoopNext.mk1 4 (i + 1) ?_ ?_ ?_ <;> (try dsimp only))
    | (refine q0h ?_; refine subQ ?_)
    | (with_reducible refine And.intro ?_ ?_)
    | (subst hK)
    | exact trivial
  all_goals (try (intros; assumption))
  all_goals (try refine q0v ?_)
  all_goals (try replace hp := q0a hp)
  all_goals (try replace hi := q0a hi)
  all_goals (try (intros; trivial))
  all_goals (try (intros; omega))
  all_goals (try (rw [w64 (by omega) (by omega)]; first | done | omega))
  all_goals first
    | rfl
    | (intro e; subst e; exact h rfl)
    | exact qb9 hi.2.2 (by omega) (by omega)
    | exact qgp hi.2.2 (by omega) (by omega) (by assumption)
    | (simp only [decide_eq_true_eq]; exact qb9 hi.2.2 (by omega) (by omega))
    | (intro e; subst e; simp at h; done)
end
noncomputable def cfg47 : Cfg := ⟨Tryz.prog, 7, q5i, (fun _ _ => []), [], (fun _ => none)⟩
theorem qbly : cfg47.pins = [] ∧ cfg47.P = Tryz.prog ∧ cfg47.N = 7 ∧ cfg47.ti 79 = none ∧ cfg47.T 79 = e79 ∧ cfg47.mv 79 = (fun _ => []) := ⟨rfl, rfl, rfl, rfl, rfl, rfl⟩
section
attribute [local go_sem] qbly e79
attribute [local go_sem] q0u q0r qd3 qem q08 qb3 qbh qcf q0z q0w qdq qci qdt List.length_map Int.toNat_natCast Int.toNat_zero Nat.sub_zero List.length_take qcc qbm qb0 qdz qdk qdx qe1 qga qh7 qkb qjg qbr qe2 qjf qlf qka qma qqq qqr qce
attribute [local go_sem ←] List.map_take List.map_drop
theorem qbv0 (hC : COk cfg47) (file : ByteArray) : Sem Tryz.prog 47 [.d (.s file)] (.d (.i .i64 (if qbb file = false then 7 else 0))) := by
  refine q0f (C := cfg47) (rs := [.tmp 2]) (fun _ => []) Tryz.func47 rfl rfl rfl rfl rfl rfl ?_
  refine inQ ?_
  repeat' first
    | (with_reducible first | apply q0j | apply q0c | apply AW.seq | apply AW.block)
    | (with_reducible refine AW.runK hC ?_; intro K hK)
    | ((with_reducible first | refine q0t ?_ | refine q0i ?_); refine siQ ?_; (try simp (disch := omega) only [w64, wu8]))
    | ((first | (refine AW.cond rfl (fun h => ?_) (fun h => ?_)) | (refine AW.cond_ub rfl (fun h => ?_) ?_) | (refine AW.cond_nb rfl ?_ (fun h => ?_))) <;> (try replace h := q0a h) <;> (try (exfalso; first | omega | exact absurd h (by decide))))
    | (with_reducible first | apply AW.skip | apply AW.exit | apply AW.ret | apply q0k | apply q0l | apply q0d | apply q0e | refine q0b rfl ?_ | apply q0m | apply q0n)
    | (refine q0h ?_; refine subQ ?_)
    | (with_reducible refine And.intro ?_ ?_)
    | (subst hK)
    | exact trivial
  all_goals (try (intros; assumption))
  all_goals (try refine q0v ?_)
  all_goals (try (intros; trivial))
  all_goals (try (intros; omega))
  all_goals (try (rw [w64 (by omega) (by omega)]; first | done | omega))
  all_goals first
    | (simp [qc3, qlg, qba]; done)
end
noncomputable def cfg29 : Cfg := ⟨Tryz.prog, 72, q5j, (fun _ _ => []), [], (fun _ => none)⟩
theorem qblz : cfg29.pins = [] ∧ cfg29.P = Tryz.prog ∧ cfg29.N = 72 ∧ cfg29.ti 46 = none ∧ cfg29.T 46 = e46 ∧ cfg29.mv 46 = (fun _ => []) ∧ cfg29.ti 47 = none ∧ cfg29.T 47 = e47 ∧ cfg29.mv 47 = (fun _ => []) := ⟨rfl, rfl, rfl, rfl, rfl, rfl, rfl, rfl, rfl⟩
section
attribute [local go_sem] qblz e46 e47
attribute [local go_sem] q0u q0r qd3 qem q08 qb3 qbh qcf q0z q0w qdq qci qdt List.length_map Int.toNat_natCast Int.toNat_zero Nat.sub_zero List.length_take qcc qbm qb0 qdz qdk qdx qe1 qga qh7 qkb qjg qbr qe2 qjf qlf qka qma qqq qqr qce
attribute [local go_sem ←] List.map_take List.map_drop
theorem qbv1 (hC : COk cfg29) (l : List Entry) (file : ByteArray) (rrn : Int) (hp : l.length ≤ 1000000) : Sem Tryz.prog 29 [.d (.sl 8 (l.map q0r)), .d (.s file), .d (.i .i64 rrn)] (.tup [.d (.sl 1 ((qg9 l file rrn).1.map D.s)), .d (.i .i64 (qg9 l file rrn).2)]) := by
  refine q0f (C := cfg29) (rs := [.tmp 6, .tmp 7]) (fun _ => []) Tryz.func29 rfl rfl rfl rfl rfl rfl ?_
  refine inQ ?_
  repeat' first
    | (with_reducible first | apply q0j | apply q0c | apply AW.seq | apply AW.block)
    | (with_reducible refine AW.runK hC ?_; intro K hK)
    | ((with_reducible first | refine q0t ?_ | refine q0i ?_); refine siQ ?_; (try simp (disch := omega) only [w64, wu8]))
    | ((first | (refine AW.cond rfl (fun h => ?_) (fun h => ?_)) | (refine AW.cond_ub rfl (fun h => ?_) ?_) | (refine AW.cond_nb rfl ?_ (fun h => ?_))) <;> (try replace h := q0a h) <;> (try (exfalso; first | omega | exact absurd h (by decide))))
    | (with_reducible first | apply AW.skip | apply AW.exit | apply AW.ret | apply q0k | apply q0l | apply q0d | apply q0e | refine q0b rfl ?_ | apply q0m | apply q0n)
    | (refine AW.loopN 11 rfl (ι := Nat) (fun i => mkS [(1, V.d (.s file)), (2, V.d (.i .i64 rrn)), (11, V.row 176 1 0 (imgs file rrn (l.take i)).length), (33, V.d (.sl 8 (l.map q0r))), (34, V.d (.i .i64 (l.length : Int))), (35, V.d (.i .i64 (i : Int)))] ([(176, .live (.row 9 1 true ((imgs file rrn (l.take i)).map D.s)))])) (fun i => i ≤ l.length ∧ (qbc l).2 = 0 ∧ qbb file = true ∧ ¬(rrn < 1 ∨ 60 < rrn)) (fun i => l.length - i) (0) ?_ ?_ (fun i hi => ?_) <;> (try dsimp only) <;> (try dsimp only at hi))
    | (refine LoopNext.mk1 11 (i + 1) ?_ ?_ ?_ <;> (try dsimp only))
    | (refine q0h ?_; refine subQ ?_)
    | (with_reducible refine And.intro ?_ ?_)
    | (subst hK)
    | exact trivial
  all_goals (try (intros; assumption))
  all_goals (try refine q0v ?_)
  all_goals (try replace hp := q0a hp)
  all_goals (try replace hi := q0a hi)
  all_goals (try (intros; trivial))
  all_goals (try (intros; omega))
  all_goals (try (rw [w64 (by omega) (by omega)]; first | done | omega))
  all_goals (try have B := q5f l file rrn i)
  all_goals clear hC
  all_goals first
    | omega
    | assumption
    | (intro d hd; subst hd; exact ⟨rfl, by simp [D.cells, D.one]⟩)
    | (rw [q3g (by assumption)]; done)
    | (rw [q3g (by assumption)]; rfl)
    | exact qu5 (by assumption)
    | exact hi.2.2.1
    | (rw [qso (by assumption) (by first | assumption | exact qrj (by assumption))]; done)
    | (rw [qso (by assumption) (by first | assumption | exact qrj (by assumption))]; rfl)
    | (rw [qso (by assumption) (by first | assumption | exact qrj (by assumption)), if_pos (by first | assumption | exact qrj (by assumption))]; done)
    | (rw [q3h (by assumption) (by first | assumption | exact qu5 (by assumption)) h]; done)
    | (rw [q3h (by assumption) (by first | assumption | exact qu5 (by assumption)) h]; rfl)
    | (rw [qwd (by omega) (by rintro ⟨q1, q2, q3⟩; rcases h with (h | h) | h <;> first | exact h q1 | exact h q2 | exact h q3)]; done)
    | (rw [qwd (by omega) (by rintro ⟨q1, q2, q3⟩; rcases h with (h | h) | h <;> first | exact h q1 | exact h q2 | exact h q3)]; exact q0p _)
    | (rename_i hq; rw [qtw (by omega) ⟨hq.1.1, hq.1.2, hq.2⟩ (by first | exact qbgw h | omega)]; simp; done)
    | (rename_i hq; rw [qtw (by omega) ⟨hq.1.1, hq.1.2, hq.2⟩ (by first | exact qbgw h | omega), List.map_append, List.map_append]; exact q0p _)
    | (rename_i hq; rw [qwe (by omega) ⟨hq.1.1, hq.1.2, hq.2⟩ (by first | exact qbgx h | omega)]; simp; done)
    | (rename_i hq; rw [qwe (by omega) ⟨hq.1.1, hq.1.2, hq.2⟩ (by first | exact qbgx h | omega), List.map_append]; exact q0p _)
    | (rw [q85 hi.2.1 hi.2.2.1 hi.2.2.2, List.take_of_length_le (by omega)]; exact q0p _)
    | (rw [q85 hi.2.1 hi.2.2.1 hi.2.2.2]; done)
end
noncomputable def cfg8 : Cfg := ⟨Tryz.prog, 38, q5k, (fun _ _ => []), [], (fun _ => none)⟩
theorem qbp7 : cfg8.pins = [] ∧ cfg8.P = Tryz.prog ∧ cfg8.N = 38 ∧ cfg8.ti 28 = none ∧ cfg8.T 28 = e28 ∧ cfg8.mv 28 = (fun _ => []) ∧ cfg8.ti 29 = none ∧ cfg8.T 29 = e29 ∧ cfg8.mv 29 = (fun _ => []) ∧ cfg8.ti 30 = none ∧ cfg8.T 30 = e30 ∧ cfg8.mv 30 = (fun _ => []) ∧ cfg8.ti 31 = none ∧ cfg8.T 31 = e31 ∧ cfg8.mv 31 = (fun _ => []) := ⟨rfl, rfl, rfl, rfl, rfl, rfl, rfl, rfl, rfl, rfl, rfl, rfl, rfl, rfl, rfl⟩
section
attribute [local go_sem] qbp7 e28 e29 e30 e31
attribute [local go_sem] q0u q0r qd3 qem q08 qb3 qbh qcf q0z q0w qdq qci qdt List.length_map Int.toNat_natCast Int.toNat_zero Nat.sub_zero List.length_take qcc qbm qb0 qdz qdk qdx qe1 qga qh7 qkb qjg qbr qe2 qjf qlf qka qma qqq qqr qce eqB List.getD_cons_zero q5g q2f q2g List.map_cons List.map_nil qbc1
attribute [local go_sem ←] List.map_take List.map_drop
theorem con8 (hC : COk cfg8)  : Sem Tryz.prog 8 [] (.d (.b true)) := by
  refine q0f (C := cfg8) (rs := [.tmp 0]) (fun _ => []) Tryz.func8 rfl rfl rfl rfl rfl rfl ?_
  refine inQ ?_
  repeat' first
    | (with_reducible first | apply q0j | apply q0c | apply AW.seq | apply AW.block)
    | (with_reducible refine AW.runK hC ?_; intro K hK)
    | ((with_reducible first | refine q0t ?_ | refine q0i ?_); refine siQ ?_; (try simp (disch := omega) only [w64, wu8]))
    | ((first | (refine AW.cond rfl (fun h => ?_) (fun h => ?_)) | (refine AW.cond_ub rfl (fun h => ?_) ?_) | (refine AW.cond_nb rfl ?_ (fun h => ?_))) <;> (try replace h := q0a h) <;> (try (exfalso; first | omega | exact absurd h (by decide))))
    | (with_reducible first | apply AW.skip | apply AW.exit | apply AW.ret | apply q0k | apply q0l | apply q0d | apply q0e | refine q0b rfl ?_ | apply q0m | apply q0n)
    | (refine q0h ?_; refine subQ ?_)
    | (with_reducible refine And.intro ?_ ?_)
    | (subst hK)
    | exact trivial
  all_goals (try (intros; assumption))
  all_goals (try refine q0v ?_)
  all_goals (try (intros; trivial))
  all_goals (try (intros; omega))
  all_goals (try (rw [w64 (by omega) (by omega)]; first | done | omega))
  all_goals first
    | (intro d hd; rcases hd with rfl | rfl | rfl <;> exact ⟨rfl, by simp [D.cells, D.one]⟩)
end
noncomputable def cfg185 : Cfg := ⟨Tryz.prog, 15, tab8, (fun _ _ => []), [], (fun _ => none)⟩
theorem qbes : cfg185.pins = [] ∧ cfg185.P = Tryz.prog ∧ cfg185.N = 15 := ⟨rfl, rfl, rfl⟩
section
attribute [local go_sem] qbes
theorem qbp8 (hC : COk cfg185) (n : Int) (lo : Int) (hi : Int) : Sem Tryz.prog 185 [.d (.i .i64 n), .d (.i .i64 lo), .d (.i .i64 hi)] (.d (.b (decide (lo ≤ n) && decide (n ≤ hi)))) := by
  refine q0f (C := cfg185) (rs := [.tmp 6]) (fun _ => []) Tryz.func185 rfl rfl rfl rfl rfl rfl ?_
  refine inQ ?_
  repeat' first
    | (with_reducible first | apply q0j | apply q0c | apply AW.seq | apply AW.block)
    | (with_reducible refine AW.runK hC ?_; intro K hK)
    | ((with_reducible first | refine q0t ?_ | refine q0i ?_); refine siQ ?_; (try simp (disch := omega) only [w64, wu8]))
    | ((first | (refine AW.cond rfl (fun h => ?_) (fun h => ?_)) | (refine AW.cond_ub rfl (fun h => ?_) ?_) | (refine AW.cond_nb rfl ?_ (fun h => ?_))) <;> (try replace h := q0a h) <;> (try (exfalso; first | omega | exact absurd h (by decide))))
    | (with_reducible first | apply AW.skip | apply AW.exit | apply AW.ret | apply q0k | apply q0l | apply q0d | apply q0e | refine q0b rfl ?_ | apply q0m | apply q0n)
    | (refine q0h ?_; refine subQ ?_)
    | (with_reducible refine And.intro ?_ ?_)
    | (subst hK)
    | exact trivial
  all_goals (try (intros; assumption))
  all_goals (try refine q0v ?_)
  all_goals (try replace hi := q0a hi)
  all_goals (try (intros; trivial))
  all_goals (try (intros; omega))
  all_goals (try (rw [w64 (by omega) (by omega)]; first | done | omega))
 
end
noncomputable def cfg187 : Cfg := ⟨Tryz.prog, 7, qy6, (fun _ _ => []), [], (fun _ => none)⟩
theorem qbet : cfg187.pins = [] ∧ cfg187.P = Tryz.prog ∧ cfg187.N = 7 := ⟨rfl, rfl, rfl⟩
section
attribute [local go_sem] qbet
theorem qbp9 (hC : COk cfg187) (b : Bool) (e : Int) : Sem Tryz.prog 187 [.d (.b b), .d (.i .i64 e)] (.d (.i .i64 (if b = true then e else 0))) := by
  refine q0f (C := cfg187) (rs := [.tmp 4]) (fun _ => []) Tryz.func187 rfl rfl rfl rfl rfl rfl ?_
  refine inQ ?_
  repeat' first
    | (with_reducible first | apply q0j | apply q0c | apply AW.seq | apply AW.block)
    | (with_reducible refine AW.runK hC ?_; intro K hK)
    | ((with_reducible first | refine q0t ?_ | refine q0i ?_); refine siQ ?_; (try simp (disch := omega) only [w64, wu8]))
    | ((first | (refine AW.cond rfl (fun h => ?_) (fun h => ?_)) | (refine AW.cond_ub rfl (fun h => ?_) ?_) | (refine AW.cond_nb rfl ?_ (fun h => ?_))) <;> (try replace h := q0a h) <;> (try (exfalso; first | omega | exact absurd h (by decide))))
    | (with_reducible first | apply AW.skip | apply AW.exit | apply AW.ret | apply q0k | apply q0l | apply q0d | apply q0e | refine q0b rfl ?_ | apply q0m | apply q0n)
    | (refine q0h ?_; refine subQ ?_)
    | (with_reducible refine And.intro ?_ ?_)
    | (subst hK)
    | exact trivial
  all_goals (try (intros; assumption))
  all_goals (try refine q0v ?_)
  all_goals (try (intros; trivial))
  all_goals (try (intros; omega))
  all_goals (try (rw [w64 (by omega) (by omega)]; first | done | omega))
  all_goals simp [*]
end
noncomputable def cfg186 : Cfg := ⟨Tryz.prog, 15, qy7, (fun _ _ => []), [], (fun _ => none)⟩
theorem qbeu : cfg186.pins = [] ∧ cfg186.P = Tryz.prog ∧ cfg186.N = 15 := ⟨rfl, rfl, rfl⟩
section
attribute [local go_sem] qbeu
attribute [local go_sem] qcq List.length_map Int.toNat_natCast
theorem qbqa (hC : COk cfg186) (l : List Int) (hp : l.length ≤ 1000000) : Sem Tryz.prog 186 [.d (.sl 1 (l.map (D.i .i64)))] (.d (.i .i64 (qbu l))) := by
  refine q0f (C := cfg186) (rs := [.tmp 2]) (fun _ => []) Tryz.func186 rfl rfl rfl rfl rfl rfl ?_
  refine inQ ?_
  repeat' first
    | (with_reducible first | apply q0j | apply q0c | apply AW.seq | apply AW.block)
    | (with_reducible refine AW.runK hC ?_; intro K hK)
    | ((with_reducible first | refine q0t ?_ | refine q0i ?_); refine siQ ?_; (try simp (disch := omega) only [w64, wu8]))
    | ((first | (refine AW.cond rfl (fun h => ?_) (fun h => ?_)) | (refine AW.cond_ub rfl (fun h => ?_) ?_) | (refine AW.cond_nb rfl ?_ (fun h => ?_))) <;> (try replace h := q0a h) <;> (try (exfalso; first | omega | exact absurd h (by decide))))
    | (with_reducible first | apply AW.skip | apply AW.exit | apply AW.ret | apply q0k | apply q0l | apply q0d | apply q0e | refine q0b rfl ?_ | apply q0m | apply q0n)
    | (refine AW.loopN 2 rfl (ι := Nat) (fun i => mkS [(5, V.d (.sl 1 (l.map (D.i .i64)))), (6, V.d (.i .i64 (l.length : Int))), (7, V.d (.i .i64 (i : Int)))] ([])) (fun i => i ≤ l.length ∧ qbu (l.drop i) = qbu l) (fun i => l.length - i) (0) ?_ ?_ (fun i hi => ?_) <;> (try dsimp only) <;> (try dsimp only at hi))
    | (refine LoopNext.mk1 2 (i + 1) ?_ ?_ ?_ <;> (try dsimp only))
    | (refine q0h ?_; refine subQ ?_)
    | (with_reducible refine And.intro ?_ ?_)
    | (subst hK)
    | exact trivial
  all_goals (try (intros; assumption))
  all_goals (try refine q0v ?_)
  all_goals (try replace hp := q0a hp)
  all_goals (try replace hi := q0a hi)
  all_goals (try (intros; trivial))
  all_goals (try (intros; omega))
  all_goals (try (rw [w64 (by omega) (by omega)]; first | done | omega))
  all_goals first
    | rfl
    | (rw [qtx hi.2 (by omega) (by assumption)]; done)
    | exact qwg hi.2 (by omega) (by assumption)
    | (rw [qty hi.2 (by omega)]; done)
end
noncomputable def cfg119 : Cfg := ⟨Tryz.prog, 7, qy8, (fun _ _ => []), [], (fun _ => none)⟩
theorem qbev : cfg119.pins = [] ∧ cfg119.P = Tryz.prog ∧ cfg119.N = 7 := ⟨rfl, rfl, rfl⟩
section
attribute [local go_sem] qbev
theorem qbqb (hC : COk cfg119) (b : Bool) (e : Int) : Sem Tryz.prog 119 [.d (.b b), .d (.i .i64 e)] (.d (.i .i64 (if b = true then e else 0))) := by
  refine q0f (C := cfg119) (rs := [.tmp 4]) (fun _ => []) Tryz.func119 rfl rfl rfl rfl rfl rfl ?_
  refine inQ ?_
  repeat' first
    | (with_reducible first | apply q0j | apply q0c | apply AW.seq | apply AW.block)
    | (with_reducible refine AW.runK hC ?_; intro K hK)
    | ((with_reducible first | refine q0t ?_ | refine q0i ?_); refine siQ ?_; (try simp (disch := omega) only [w64, wu8]))
    | ((first | (refine AW.cond rfl (fun h => ?_) (fun h => ?_)) | (refine AW.cond_ub rfl (fun h => ?_) ?_) | (refine AW.cond_nb rfl ?_ (fun h => ?_))) <;> (try replace h := q0a h) <;> (try (exfalso; first | omega | exact absurd h (by decide))))
    | (with_reducible first | apply AW.skip | apply AW.exit | apply AW.ret | apply q0k | apply q0l | apply q0d | apply q0e | refine q0b rfl ?_ | apply q0m | apply q0n)
    | (refine q0h ?_; refine subQ ?_)
    | (with_reducible refine And.intro ?_ ?_)
    | (subst hK)
    | exact trivial
  all_goals (try (intros; assumption))
  all_goals (try refine q0v ?_)
  all_goals (try (intros; trivial))
  all_goals (try (intros; omega))
  all_goals (try (rw [w64 (by omega) (by omega)]; first | done | omega))
  all_goals simp [*]
end
noncomputable def cfg117 : Cfg := ⟨Tryz.prog, 15, qy9, (fun _ _ => []), [], (fun _ => none)⟩
theorem qbew : cfg117.pins = [] ∧ cfg117.P = Tryz.prog ∧ cfg117.N = 15 := ⟨rfl, rfl, rfl⟩
section
attribute [local go_sem] qbew
attribute [local go_sem] qcq List.length_map Int.toNat_natCast
theorem qbqc (hC : COk cfg117) (l : List Int) (hp : l.length ≤ 1000000) : Sem Tryz.prog 117 [.d (.sl 1 (l.map (D.i .i64)))] (.d (.i .i64 (qbu l))) := by
  refine q0f (C := cfg117) (rs := [.tmp 2]) (fun _ => []) Tryz.func117 rfl rfl rfl rfl rfl rfl ?_
  refine inQ ?_
  repeat' first
    | (with_reducible first | apply q0j | apply q0c | apply AW.seq | apply AW.block)
    | (with_reducible refine AW.runK hC ?_; intro K hK)
    | ((with_reducible first | refine q0t ?_ | refine q0i ?_); refine siQ ?_; (try simp (disch := omega) only [w64, wu8]))
    | ((first | (refine AW.cond rfl (fun h => ?_) (fun h => ?_)) | (refine AW.cond_ub rfl (fun h => ?_) ?_) | (refine AW.cond_nb rfl ?_ (fun h => ?_))) <;> (try replace h := q0a h) <;> (try (exfalso; first | omega | exact absurd h (by decide))))
    | (with_reducible first | apply AW.skip | apply AW.exit | apply AW.ret | apply q0k | apply q0l | apply q0d | apply q0e | refine q0b rfl ?_ | apply q0m | apply q0n)
    | (refine AW.loopN 2 rfl (ι := Nat) (fun i => mkS [(5, V.d (.sl 1 (l.map (D.i .i64)))), (6, V.d (.i .i64 (l.length : Int))), (7, V.d (.i .i64 (i : Int)))] ([])) (fun i => i ≤ l.length ∧ qbu (l.drop i) = qbu l) (fun i => l.length - i) (0) ?_ ?_ (fun i hi => ?_) <;> (try dsimp only) <;> (try dsimp only at hi))
    | (refine LoopNext.mk1 2 (i + 1) ?_ ?_ ?_ <;> (try dsimp only))
    | (refine q0h ?_; refine subQ ?_)
    | (with_reducible refine And.intro ?_ ?_)
    | (subst hK)
    | exact trivial
  all_goals (try (intros; assumption))
  all_goals (try refine q0v ?_)
  all_goals (try replace hp := q0a hp)
  all_goals (try replace hi := q0a hi)
  all_goals (try (intros; trivial))
  all_goals (try (intros; omega))
  all_goals (try (rw [w64 (by omega) (by omega)]; first | done | omega))
  all_goals first
    | rfl
    | (rw [qtx hi.2 (by omega) (by assumption)]; done)
    | exact qwg hi.2 (by omega) (by assumption)
    | (rw [qty hi.2 (by omega)]; done)
end
noncomputable def cfg152 : Cfg := ⟨Tryz.prog, 65, qza, (fun _ _ => []), [], (fun _ => none)⟩
theorem qbex : cfg152.pins = [] ∧ cfg152.P = Tryz.prog ∧ cfg152.N = 65 := ⟨rfl, rfl, rfl⟩
section
attribute [local go_sem] qbex
attribute [local go_sem] Int.toNat_natCast qc9 qbf qbl
theorem qbqd (hC : COk cfg152) (s : ByteArray) : Sem Tryz.prog 152 [.d (.s s)] (.d (.b (qbb s))) := by
  refine q0f (C := cfg152) (rs := [.tmp 2]) (fun _ => []) Tryz.func152 rfl rfl rfl rfl rfl rfl ?_
  refine inQ ?_
  repeat' first
    | (with_reducible first | apply q0j | apply q0c | apply AW.seq | apply AW.block)
    | (with_reducible refine AW.runK hC ?_; intro K hK)
    | ((with_reducible first | refine q0t ?_ | refine q0i ?_); refine siQ ?_; (try simp (disch := omega) only [w64, wu8]))
    | ((first | (refine AW.cond rfl (fun h => ?_) (fun h => ?_)) | (refine AW.cond_ub rfl (fun h => ?_) ?_) | (refine AW.cond_nb rfl ?_ (fun h => ?_))) <;> (try replace h := q0a h) <;> (try (exfalso; first | omega | exact absurd h (by decide))))
    | (with_reducible first | apply AW.skip | apply AW.exit | apply AW.ret | apply q0k | apply q0l | apply q0d | apply q0e | refine q0b rfl ?_ | apply q0m | apply q0n)
    | (refine AW.loopN 4 rfl (ι := Nat) (fun i => mkS [(15, V.d (.sl 1 (qhb s))), (16, V.d (.i .i64 (s.size : Int))), (17, V.d (.i .i64 (i : Int)))] ([])) (fun i => i ≤ s.size ∧ 1 ≤ s.size ∧ s.size ≤ 10 ∧ ∀ j, j < i → qnv (j == 0) (chr s j) = true) (fun i => s.size - i) (0) ?_ ?_ (fun i hi => ?_) <;> (try dsimp only) <;> (try dsimp only at hi))
    | (refine LoopNext.mk1 4 (i + 1) ?_ ?_ ?_ <;> (try dsimp only))
    | (refine q0h ?_; refine subQ ?_)
    | (with_reducible refine And.intro ?_ ?_)
    | (subst hK)
    | exact trivial
  all_goals (try (intros; assumption))
  all_goals (try refine q0v ?_)
  all_goals (try replace hi := q0a hi)
  all_goals (try replace hj := q0a hj)
  all_goals (try (intros; trivial))
  all_goals (try (intros; omega))
  all_goals (try (rw [w64 (by omega) (by omega)]; first | done | omega))
  all_goals (try simp only [qsn] at *)
  all_goals first
    | omega
    | exact qpa (by omega)
    | exact qqj (i := i) (by omega) (by rw [← Bool.not_eq_true, qkm]; omega)
    | exact fun j hj => if e : j < i then hi.2.2.2 j e else by
        have : j = i := by omega
        subst this
        rw [qkm]
        omega
    | exact qo9 (by omega) (by omega) fun j hj => hi.2.2.2 j (by omega)
end
noncomputable def cfg172 : Cfg := ⟨Tryz.prog, 54, qzb, (fun _ _ => []), [], (fun _ => none)⟩
theorem qbey : cfg172.pins = [] ∧ cfg172.P = Tryz.prog ∧ cfg172.N = 54 ∧ cfg172.ti 185 = none ∧ cfg172.T 185 = e185 ∧ cfg172.mv 185 = (fun _ => []) ∧ cfg172.ti 186 = none ∧ cfg172.T 186 = e186 ∧ cfg172.mv 186 = (fun _ => []) ∧ cfg172.ti 187 = none ∧ cfg172.T 187 = e187 ∧ cfg172.mv 187 = (fun _ => []) := ⟨rfl, rfl, rfl, rfl, rfl, rfl, rfl, rfl, rfl, rfl, rfl, rfl⟩
section
attribute [local go_sem] qbey e185 e186 e187
attribute [local go_sem] qbe qbg qcb qcy qb6 qda qdn qef qbu Int.toNat_natCast qc9 qd4 qep qcq qcc qbm qb0 decI List.length_map qbf qbl
theorem qbqe (hC : COk cfg172) (t : DType) : Sem Tryz.prog 172 [.d (qbe t)] (.d (.i .i64 (qbi t))) := by
  refine q0f (C := cfg172) (rs := [.tmp 2]) (fun _ => []) Tryz.func172 rfl rfl rfl rfl rfl rfl ?_
  refine inQ ?_
  repeat' first
    | (with_reducible first | apply q0j | apply q0c | apply AW.seq | apply AW.block)
    | (with_reducible first | (refine AW.runK hC ?_; intro K hK) | (refine AW.drawK hC (by kernel_rfl) ?_; intro K hK))
    | ((with_reducible first | refine q0t ?_ | refine qb2 ?_ | refine q0i ?_); refine siQ ?_; (try simp (disch := omega) only [w64, wu8]))
    | (with_reducible refine qbn (by kernel_rfl) ?_)
    | ((first | (refine AW.cond rfl (fun h => ?_) (fun h => ?_)) | (refine AW.cond_ub rfl (fun h => ?_) ?_) | (refine AW.cond_nb rfl ?_ (fun h => ?_))) <;> (try replace h := q0a h) <;> (try (exfalso; first | omega | exact absurd h (by decide))))
    | (with_reducible first | apply AW.skip | apply AW.exit | apply AW.ret | apply q0k | apply q0l | apply q0d | apply q0e | refine q0b rfl ?_ | apply q0m | apply q0n)
    | (refine q0h ?_; refine subQ ?_)
    | (with_reducible refine And.intro ?_ ?_)
    | (subst hK)
    | exact trivial
  all_goals (try (intros; assumption))
  all_goals (try refine q0v ?_)
  all_goals (try (intros; trivial))
  all_goals (try (intros; omega))
  all_goals (try (rw [w64 (by omega) (by omega)]; first | done | omega))
  all_goals clear hC
  all_goals (try simp only [qbi])
  all_goals first
    | grind
    | ((repeat' split) <;> first | rfl | omega | (exfalso; omega) | (simp_all; done) | grind)
    | (intro d hd; first | (subst hd; exact ⟨rfl, by simp [D.cells, D.one]⟩) | (rcases hd with rfl | rfl <;> exact ⟨rfl, by simp [D.cells, D.one]⟩) | (rcases hd with rfl | rfl | rfl <;> exact ⟨rfl, by simp [D.cells, D.one]⟩) | (rcases hd with rfl | rfl | rfl | rfl <;> exact ⟨rfl, by simp [D.cells, D.one]⟩))
end
noncomputable def cfg188 : Cfg := ⟨Tryz.prog, 22, qzc, (fun _ _ => []), [], (fun _ => none)⟩
theorem qbez : cfg188.pins = [] ∧ cfg188.P = Tryz.prog ∧ cfg188.N = 22 := ⟨rfl, rfl, rfl⟩
section
attribute [local go_sem] qbez
attribute [local go_sem] qbe qbg qcb qcy qb6 qda qdn qef qbu Int.toNat_natCast qc9 qd4 qep qcq qcc qbm qb0 decI List.length_map qbf qbl
theorem qbqf (hC : COk cfg188) (t : DType) (hp : qbi t = 0) : Sem Tryz.prog 188 [.d (qbe t)] (.d (.i .i64 (qet t))) := by
  have ht := qju hp
  refine q0f (C := cfg188) (rs := [.tmp 2]) (fun _ => []) Tryz.func188 rfl rfl rfl rfl rfl rfl ?_
  refine inQ ?_
  repeat' first
    | (with_reducible first | apply q0j | apply q0c | apply AW.seq | apply AW.block)
    | (with_reducible refine AW.runK hC ?_; intro K hK)
    | ((with_reducible first | refine q0t ?_ | refine q0i ?_); refine siQ ?_; (try simp (disch := omega) only [w64, wu8]))
    | ((first | (refine AW.cond rfl (fun h => ?_) (fun h => ?_)) | (refine AW.cond_ub rfl (fun h => ?_) ?_) | (refine AW.cond_nb rfl ?_ (fun h => ?_))) <;> (try replace h := q0a h) <;> (try (exfalso; first | omega | exact absurd h (by decide))))
    | (with_reducible first | apply AW.skip | apply AW.exit | apply AW.ret | apply q0k | apply q0l | apply q0d | apply q0e | refine q0b rfl ?_ | apply q0m | apply q0n)
    | (refine q0h ?_; refine subQ ?_)
    | (with_reducible refine And.intro ?_ ?_)
    | (subst hK)
    | exact trivial
  all_goals (try (intros; assumption))
  all_goals (try refine q0v ?_)
  all_goals (try replace hp := q0a hp)
  all_goals (try (intros; trivial))
  all_goals (try (intros; omega))
  all_goals (try (rw [w64 (by omega) (by omega)]; first | done | omega))
  all_goals clear hC
  all_goals (try simp only [qet])
  all_goals first
    | omega
    | (rw [qsb (by omega) (by omega), if_pos (by omega)]; done)
    | (rw [q2h (by omega) (by omega), if_neg (by omega), if_pos (by omega)]; done)
    | grind
    | (intro d hd; first | (subst hd; exact ⟨rfl, by simp [D.cells, D.one]⟩) | (rcases hd with rfl | rfl <;> exact ⟨rfl, by simp [D.cells, D.one]⟩) | (rcases hd with rfl | rfl | rfl <;> exact ⟨rfl, by simp [D.cells, D.one]⟩) | (rcases hd with rfl | rfl | rfl | rfl <;> exact ⟨rfl, by simp [D.cells, D.one]⟩))
end
noncomputable def cfg173 : Cfg := ⟨Tryz.prog, 12, qzd, (fun _ _ => []), [], (fun _ => none)⟩
theorem qbe0 : cfg173.pins = [] ∧ cfg173.P = Tryz.prog ∧ cfg173.N = 12 ∧ cfg173.ti 172 = none ∧ cfg173.T 172 = e172 ∧ cfg173.mv 172 = (fun _ => []) ∧ cfg173.ti 188 = none ∧ cfg173.T 188 = e188 ∧ cfg173.mv 188 = (fun _ => []) := ⟨rfl, rfl, rfl, rfl, rfl, rfl, rfl, rfl, rfl⟩
section
attribute [local go_sem] qbe0 e172 e188
attribute [local go_sem] qbe qbg qcb qcy qb6 qda qdn qef qbu Int.toNat_natCast qc9 qd4 qep qcq qcc qbm qb0 decI List.length_map qbf qbl
theorem qbqg (hC : COk cfg173) (t : DType) : Sem Tryz.prog 173 [.d (qbe t)] (.tup [.d (.i .i64 (if qbi t = 0 then qet t else 0)), .d (.i .i64 (qbi t))]) := by
  refine q0f (C := cfg173) (rs := [.tmp 2, .tmp 3]) (fun _ => []) Tryz.func173 rfl rfl rfl rfl rfl rfl ?_
  refine inQ ?_
  repeat' first
    | (with_reducible first | apply q0j | apply q0c | apply AW.seq | apply AW.block)
    | (with_reducible refine AW.runK hC ?_; intro K hK)
    | ((with_reducible first | refine q0t ?_ | refine q0i ?_); refine siQ ?_; (try simp (disch := omega) only [w64, wu8]))
    | ((first | (refine AW.cond rfl (fun h => ?_) (fun h => ?_)) | (refine AW.cond_ub rfl (fun h => ?_) ?_) | (refine AW.cond_nb rfl ?_ (fun h => ?_))) <;> (try replace h := q0a h) <;> (try (exfalso; first | omega | exact absurd h (by decide))))
    | (with_reducible first | apply AW.skip | apply AW.exit | apply AW.ret | apply q0k | apply q0l | apply q0d | apply q0e | refine q0b rfl ?_ | apply q0m | apply q0n)
    | (refine q0h ?_; refine subQ ?_)
    | (with_reducible refine And.intro ?_ ?_)
    | (subst hK)
    | exact trivial
  all_goals (try (intros; assumption))
  all_goals (try refine q0v ?_)
  all_goals (try (intros; trivial))
  all_goals (try (intros; omega))
  all_goals (try (rw [w64 (by omega) (by omega)]; first | done | omega))
  all_goals clear hC
  all_goals first
    | omega
    | grind
    | (intro d hd; first | (subst hd; exact ⟨rfl, by simp [D.cells, D.one]⟩) | (rcases hd with rfl | rfl <;> exact ⟨rfl, by simp [D.cells, D.one]⟩) | (rcases hd with rfl | rfl | rfl <;> exact ⟨rfl, by simp [D.cells, D.one]⟩) | (rcases hd with rfl | rfl | rfl | rfl <;> exact ⟨rfl, by simp [D.cells, D.one]⟩))
end
end Go.Ev
