/- Tools and contracts under the laws of this seat: Dyc80, Dyc50, Dyc61, Dyc46, Dyc12. -/
import Derived.Test.YtkgkgcojfocomaaGreatE05
set_option linter.unusedVariables false
set_option linter.unusedSimpArgs false
namespace Go.Ev
open Go.Proofs Ty
set_option maxRecDepth 10000
set_option maxHeartbeats 4000000
set_option linter.unusedSimpArgs false
set_option linter.unusedVariables false
attribute [local go_sem] qci qdt List.length_map Int.toNat_natCast Int.toNat_zero Nat.sub_zero List.length_take qcc qbm qb0 qdz qdk qdx qe1 qga
attribute [local go_sem ←] List.map_take List.map_drop
noncomputable def cfg80 : Cfg := ⟨Tryz.prog, 55, qy4, (fun _ _ => []), [], (fun _ => none)⟩
theorem qblq : cfg80.pins = [] ∧ cfg80.P = Tryz.prog ∧ cfg80.N = 55 ∧ cfg80.ti 102 = none ∧ cfg80.T 102 = e102 ∧ cfg80.mv 102 = (fun _ => []) ∧ cfg80.ti 103 = none ∧ cfg80.T 103 = e103 ∧ cfg80.mv 103 = (fun _ => []) := ⟨rfl, rfl, rfl, rfl, rfl, rfl, rfl, rfl, rfl⟩
section
attribute [local go_sem] qblq e102 e103
attribute [local go_sem] q0u q0r qd3 qem q08 qb3 qbh qcf q0z q0w qdq
theorem qbvs (hC : COk cfg80) (l : List Entry) (hp : l.length ≤ 1000000) : Sem Tryz.prog 80 [.d (.sl 8 (l.map q0r))] (.tup [.d (.i .i64 (qbc l).1), .d (.i .i64 (qbc l).2)]) := by
  refine q0f (C := cfg80) (rs := [.tmp 2, .tmp 3]) (fun _ => []) Tryz.func80 rfl rfl rfl rfl rfl rfl ?_
  refine inQ ?_
  repeat' first
    | (with_reducible first | apply q0j | apply q0c | apply AW.seq | apply AW.block)
    | (with_reducible first | (refine AW.runK hC ?_; intro K hK) | (refine AW.drawK hC (by kernel_rfl) ?_; intro K hK))
    | ((with_reducible first | refine q0t ?_ | refine qb2 ?_ | refine q0i ?_); refine siQ ?_; (try simp (disch := omega) only [w64, wu8]))
    | (with_reducible refine qbn (by kernel_rfl) ?_)
    | ((first | (refine AW.cond rfl (fun h => ?_) (fun h => ?_)) | (refine AW.cond_ub rfl (fun h => ?_) ?_) | (refine AW.cond_nb rfl ?_ (fun h => ?_))) <;> (try replace h := q0a h) <;> (try (exfalso; first | omega | exact absurd h (by decide))))
    | (with_reducible first | apply AW.skip | apply AW.exit | apply AW.ret | apply q0k | apply q0l | apply q0d | apply q0e | refine q0b rfl ?_ | apply q0m | apply q0n)
    | (refine AW.loopN 4 rfl (ι := Nat) (fun i => mkS [(0, V.d (.sl 8 (l.map q0r))), (4, V.d (.i .i64 (i : Int)))] ([])) (fun i => i ≤ l.length ∧ l.length ≤ 80 ∧ qd8 l (l.length - i) i = qbc l) (fun i => l.length - i) (0) ?_ ?_ (fun i hi => ?_) <;> (try dsimp only) <;> (try dsimp only at hi))
    | (refine LoopNext.mk1 4 (i + 1) ?_ ?_ ?_ <;> (try dsimp only))
    | (refine q0h ?_; refine subQ ?_)
    | (with_reducible refine And.intro ?_ ?_)
    | (subst hK)
    | exact trivial
  all_goals (try (intros; assumption))
  all_goals (try refine q0v ?_)
  all_goals (try replace hp := q0a hp)
  all_goals (try replace hi := q0a hi)
  all_goals (try (intros; trivial))
  all_goals (try (intros; omega))
  all_goals (try (rw [w64 (by omega) (by omega)]; first | done | omega))
  all_goals first
    | (rw [qbc, if_pos (by omega)])
    | (rw [qbc, if_neg (by omega)]; rfl)
    | exact (qon hi.2.2 (by omega) (by assumption)).1
    | exact (qon hi.2.2 (by omega) (by assumption)).2
    | exact (qoo hi.2.2 (by omega) (by assumption) h.1 h.2).1
    | exact (qoo hi.2.2 (by omega) (by assumption) h.1 h.2).2
    | exact (qop hi.2.2 (by omega) (by assumption) (by assumption) h).1
    | exact (qop hi.2.2 (by omega) (by assumption) (by assumption) h).2
    | exact qu3 hi.2.2 (by omega) (by assumption) (by assumption) h
    | (rw [← hi.2.2, qmf (by omega)])
end
noncomputable def cfg50 : Cfg := ⟨Tryz.prog, 11, q49, (fun _ _ => []), [], (fun _ => none)⟩
theorem qblr : cfg50.pins = [] ∧ cfg50.P = Tryz.prog ∧ cfg50.N = 11 ∧ cfg50.ti 80 = none ∧ cfg50.T 80 = e80 ∧ cfg50.mv 80 = (fun _ => []) := ⟨rfl, rfl, rfl, rfl, rfl, rfl⟩
section
attribute [local go_sem] qblr e80
attribute [local go_sem] q0u q0r qd3 qem q08 qb3 qbh qcf q0z q0w qdq
theorem qbvt (hC : COk cfg50) (l : List Entry) (hp : l.length ≤ 1000000) : Sem Tryz.prog 50 [.d (.sl 8 (l.map q0r))] (.d (.i .i64 (qbc l).2)) := by
  refine q0f (C := cfg50) (rs := [.tmp 2]) (fun _ => []) Tryz.func50 rfl rfl rfl rfl rfl rfl ?_
  refine inQ ?_
  repeat' first
    | (with_reducible first | apply q0j | apply q0c | apply AW.seq | apply AW.block)
    | (with_reducible refine AW.runK hC ?_; intro K hK)
    | ((with_reducible first | refine q0t ?_ | refine q0i ?_); refine siQ ?_; (try simp (disch := omega) only [w64, wu8]))
    | ((first | (refine AW.cond rfl (fun h => ?_) (fun h => ?_)) | (refine AW.cond_ub rfl (fun h => ?_) ?_) | (refine AW.cond_nb rfl ?_ (fun h => ?_))) <;> (try replace h := q0a h) <;> (try (exfalso; first | omega | exact absurd h (by decide))))
    | (with_reducible first | apply AW.skip | apply AW.exit | apply AW.ret | apply q0k | apply q0l | apply q0d | apply q0e | refine q0b rfl ?_ | apply q0m | apply q0n)
    | (refine q0h ?_; refine subQ ?_)
    | (with_reducible refine And.intro ?_ ?_)
    | (subst hK)
    | exact trivial
  all_goals (try (intros; assumption))
  all_goals (try refine q0v ?_)
  all_goals (try replace hp := q0a hp)
  all_goals (try (intros; trivial))
  all_goals (try (intros; omega))
  all_goals (try (rw [w64 (by omega) (by omega)]; first | done | omega))
end
noncomputable def cfg61 : Cfg := ⟨Tryz.prog, 112, q5a, (fun _ _ => []), [], (fun _ => none)⟩
theorem qbls : cfg61.pins = [] ∧ cfg61.P = Tryz.prog ∧ cfg61.N = 112 ∧ cfg61.ti 79 = none ∧ cfg61.T 79 = e79 ∧ cfg61.mv 79 = (fun _ => []) := ⟨rfl, rfl, rfl, rfl, rfl, rfl⟩
section
attribute [local go_sem] qbls e79
attribute [local go_sem] q0u q0r qd3 qem q08 qb3 qbh qcf q0z q0w qdq isK3 qyt q17 qbo9 qey qeh qfi
theorem qbvu (hC : COk cfg61) (l : List Entry) (hp : l.length ≤ 1000000) : Sem Tryz.prog 61 [.d (.sl 8 (l.map q0r))] (.tup [.d (.mp ((qek l).map keyU) ((qek l).map fun u => .cp (qdf u))), .d (.i .i64 (qbc l).1), .d (.i .i64 (qbc l).2)]) := by
  refine q0f (C := cfg61) (rs := [.tmp 2, .tmp 3, .tmp 4]) (fun _ => []) Tryz.func61 rfl rfl rfl rfl rfl rfl ?_
  refine inQ ?_
  repeat' first
    | (with_reducible first | apply q0j | apply q0c | apply AW.seq | apply AW.block)
    | (refine AW.atR 12 rfl ?_; rcases hq : uidx (qbs (l.take i)) (l.getD i q0q).unit with _ | k; rotate_left; obtain ⟨u, hu, hun, hlt⟩ := qhv hq; have hv := qbc4 hlt; have hf := qbki (t := 61) hu; clear hlt)
    | (with_reducible first | (refine AWh.runK hC ?_; intro K hK) | (refine AWh.drawK hC (by kernel_rfl) ?_; intro K hK))
    | (with_reducible first | (refine AW.runK hC ?_; intro K hK) | (refine AW.drawK hC (by kernel_rfl) ?_; intro K hK))
    | ((with_reducible first | refine q0t ?_ | refine qb2 ?_ | refine q0i ?_); (first | (simp (maxSteps := 1000000) only [go_sem, ↓reduceIte, reduceCtorEq, Nat.reduceEqDiff, Nat.reduceLT, Nat.reduceLeDiff, Nat.reduceMul, Nat.reduceAdd, Nat.reduceSub, reduceDIte, Nat.reduceBEq, Nat.reduceBNe, hq, hv, hf]) | (simp (maxSteps := 1000000) only [go_sem, ↓reduceIte, reduceCtorEq, Nat.reduceEqDiff, Nat.reduceLT, Nat.reduceLeDiff, Nat.reduceMul, Nat.reduceAdd, Nat.reduceSub, reduceDIte, Nat.reduceBEq, Nat.reduceBNe, hq]) | (refine siQ ?_)); (try simp (disch := omega) only [w64, wu8]))
    | (with_reducible refine qbn (by kernel_rfl) ?_)
    | ((first | (refine AW.cond rfl (fun h => ?_) (fun h => ?_)) | (refine AW.cond_ub rfl (fun h => ?_) ?_) | (refine AW.cond_nb rfl ?_ (fun h => ?_))) <;> (try replace h := q0a h) <;> (try (exfalso; first | omega | exact absurd h (by decide))))
    | (with_reducible first | apply AW.skip | apply AW.exit | apply AW.ret | apply q0k | apply q0l | apply q0d | apply q0e | refine q0b rfl ?_ | apply q0m | apply q0n)
    | (refine AW.loopN 5 rfl (ι := Nat) (fun i => mkS [(0, V.d (.sl 8 (l.map q0r))), (5, V.mref 240), (16, V.d (.sl 8 (l.map q0r))), (17, V.d (.i .i64 (l.length : Int))), (18, V.d (.i .i64 (i : Int)))] ((240, .live (.mp 65 ((qbs (l.take i)).map keyU) (ptrs ((qbs (l.take i)).map qdf).length))) :: fam 61 ((qbs (l.take i)).map qdf))) (fun i => i ≤ l.length ∧ l.length ≤ 80 ∧ qd8 l (l.length - i) i = qbc l ∧ UInv (qbs (l.take i)) (l.take i)) (fun i => l.length - i) (0) ?_ ?_ (fun i hi => ?_) <;> (try dsimp only) <;> (try dsimp only at hi))
    | (refine LoopNext.mk1 5 (i + 1) ?_ ?_ ?_ <;> (try dsimp only))
    | (refine qwa (M := 240) (us := []) (by omega) rfl ?_ ?_ ?_ ?_ <;> first
      | (simp only [aget, Nat.reduceEqDiff, qey, qeh, qfi, Nat.reduceLT, ↓reduceIte, List.take_zero]; done)
      | (intro j; simp only [aget, Nat.reduceEqDiff, qey, qeh, qfi, Nat.reduceLT, ↓reduceIte]; done)
      | (intro j hj; simp only [aget, Nat.reduceEqDiff, qey, qeh, qfi, Nat.reduceLT, hj, ↓reduceIte]; done)
      | (intro ρ nf h1 h2; simp only [qio, aget, vs, ↓reduceIte, Nat.reduceEqDiff, qm8, ql8, dle, D.i.injEq, eq_self, and_self, and_true, true_and, V.mref.injEq, exists_eq_left', h1, h2]; first | done | omega)
      | (rw [qeo (by omega), qkz (by omega) (by omega)]; done)
      | (rw [qeo (by omega), ql9 (by omega)]; done)
      | (rw [qeo (by omega), qnz (by omega) (by omega) hq hu]; done)
      | (simp only [aget, Nat.reduceEqDiff, qey, qeh, qfi, Nat.reduceLT, ↓reduceIte, uEnd]; (repeat' split) <;> first | rfl | (exfalso; omega))
      | (show qbs (l.take 0) = []; rfl))
    | (refine qwa (M := 240) (us := qbs (l.take i)) (by omega) rfl ?_ ?_ ?_ ?_ <;> first
      | (simp only [aget, Nat.reduceEqDiff, qey, qeh, qfi, Nat.reduceLT, ↓reduceIte, List.take_zero]; done)
      | (intro j; simp only [aget, Nat.reduceEqDiff, qey, qeh, qfi, Nat.reduceLT, ↓reduceIte]; done)
      | (intro j hj; simp only [aget, Nat.reduceEqDiff, qey, qeh, qfi, Nat.reduceLT, hj, ↓reduceIte]; done)
      | (intro ρ nf h1 h2; simp only [qio, aget, vs, ↓reduceIte, Nat.reduceEqDiff, qm8, ql8, dle, D.i.injEq, eq_self, and_self, and_true, true_and, V.mref.injEq, exists_eq_left', h1, h2]; first | done | omega)
      | (rw [qeo (by omega), qkz (by omega) (by omega)]; done)
      | (rw [qeo (by omega), ql9 (by omega)]; done)
      | (rw [qeo (by omega), qnz (by omega) (by omega) hq hu]; done)
      | (simp only [aget, Nat.reduceEqDiff, qey, qeh, qfi, Nat.reduceLT, ↓reduceIte, uEnd]; (repeat' split) <;> first | rfl | (exfalso; omega))
      | (show qbs (l.take 0) = []; rfl))
    | (refine qbc6 (M := 240) (us := qbs (l.take i)) (by omega) rfl (b := 1232) (u := ⟨(l.getD i q0q).unit, (l.getD i q0q).number, (l.getD i q0q).number, 2⟩) (by omega) (by omega) ?_ ?_ ?_ ?_ ?_ <;> first
      | (simp only [aget, Nat.reduceEqDiff, qey, qeh, qfi, Nat.reduceLT, ↓reduceIte, List.take_zero]; done)
      | (intro j; simp only [aget, Nat.reduceEqDiff, qey, qeh, qfi, Nat.reduceLT, ↓reduceIte]; done)
      | (intro j hj; simp only [aget, Nat.reduceEqDiff, qey, qeh, qfi, Nat.reduceLT, hj, ↓reduceIte]; done)
      | (intro ρ nf h1 h2; simp only [qio, aget, vs, ↓reduceIte, Nat.reduceEqDiff, qm8, ql8, dle, D.i.injEq, eq_self, and_self, and_true, true_and, V.mref.injEq, exists_eq_left', h1, h2]; first | done | omega)
      | (rw [qeo (by omega), qkz (by omega) (by omega)]; done)
      | (rw [qeo (by omega), ql9 (by omega)]; done)
      | (rw [qeo (by omega), qnz (by omega) (by omega) hq hu]; done)
      | (simp only [aget, Nat.reduceEqDiff, qey, qeh, qfi, Nat.reduceLT, ↓reduceIte, uEnd]; (repeat' split) <;> first | rfl | (exfalso; omega))
      | (show qbs (l.take 0) = []; rfl))
    | (refine qbc7 (M := 240) (us := qbs (l.take i)) (by omega) rfl (u' := uEnd (l.getD i q0q) u) hu ?_ ?_ rfl ?_ ?_ ?_ <;> first
      | (simp only [aget, Nat.reduceEqDiff, qey, qeh, qfi, Nat.reduceLT, ↓reduceIte, List.take_zero]; done)
      | (intro j; simp only [aget, Nat.reduceEqDiff, qey, qeh, qfi, Nat.reduceLT, ↓reduceIte]; done)
      | (intro j hj; simp only [aget, Nat.reduceEqDiff, qey, qeh, qfi, Nat.reduceLT, hj, ↓reduceIte]; done)
      | (intro ρ nf h1 h2; simp only [qio, aget, vs, ↓reduceIte, Nat.reduceEqDiff, qm8, ql8, dle, D.i.injEq, eq_self, and_self, and_true, true_and, V.mref.injEq, exists_eq_left', h1, h2]; first | done | omega)
      | (rw [qeo (by omega), qkz (by omega) (by omega)]; done)
      | (rw [qeo (by omega), ql9 (by omega)]; done)
      | (rw [qeo (by omega), qnz (by omega) (by omega) hq hu]; done)
      | (simp only [aget, Nat.reduceEqDiff, qey, qeh, qfi, Nat.reduceLT, ↓reduceIte, uEnd]; (repeat' split) <;> first | rfl | (exfalso; omega))
      | (show qbs (l.take 0) = []; rfl))
    | (refine q0h ?_; refine subQ ?_)
    | (with_reducible refine And.intro ?_ ?_)
    | (subst hK)
    | exact trivial
  all_goals (try (intros; assumption))
  all_goals (try refine q0v ?_)
  all_goals (try replace hp := q0a hp)
  all_goals (try replace hi := q0a hi)
  all_goals (try replace hj := q0a hj)
  all_goals (try (intros; trivial))
  all_goals (try (intros; omega))
  all_goals (try (rw [w64 (by omega) (by omega)]; first | done | omega))
  all_goals first
    | (rw [qr8 (by omega)]; done)
    | (rw [qip (by rw [qr8 (by omega)]; decide)]; trivial)
    | exact qbc8 (by omega)
    | exact UInv.nil
    | exact qbgv _
    | (rw [qtp hi.2.2.1 (by omega) (by assumption)]; done)
    | (rw [qip (by rw [qtp hi.2.2.1 (by omega) (by assumption)]; assumption)]; trivial)
    | (rw [qtq hi.2.2.1 (by omega) (by assumption) (by assumption)]; done)
    | (rw [qip (by rw [qtq hi.2.2.1 (by omega) (by assumption) (by assumption)]; show (14 : Int) ≠ 0; decide)]; trivial)
    | (have e : l.take i = l := List.take_of_length_le (by omega)
       rw [e, qko (by rw [← hi.2.2.1, qmf (by omega)])]; exact q0p _)
    | (rw [← hi.2.2.1, qmf (by omega)]; done)
    | (have hst := (hi.2.2.2.st (l.getD i q0q)).trans (qbc9 hq)
       have hck := qr9 hi.2.2.1 (by omega) (by assumption) (by omega) hst
       clear hC hq
       first
       | (rw [if_pos (by (repeat' split) <;> omega)] at hck; first | exact hck | exact hi.2.2.2.next (by omega) (hst.trans (by (repeat' split) <;> omega)))
       | (rw [if_neg (by (repeat' split) <;> omega)] at hck; first | (rw [hck]; done) | (rw [hck]; (repeat' split) <;> first | rfl | omega) | (rw [qip (by rw [hck]; dsimp only; (repeat' split) <;> omega)]; trivial)))
    | (have hst := (hi.2.2.2.st (l.getD i q0q)).trans (qbda hq hu)
       have hck := qr9 hi.2.2.1 (by omega) (by assumption) (by omega) hst
       clear hC hq
       first
       | (rw [if_pos (by (repeat' split) <;> omega)] at hck; first | exact hck | exact hi.2.2.2.next (by omega) (hst.trans (by (repeat' split) <;> omega)))
       | (rw [if_neg (by (repeat' split) <;> omega)] at hck; first | (rw [hck]; done) | (rw [hck]; (repeat' split) <;> first | rfl | omega) | (rw [qip (by rw [hck]; dsimp only; (repeat' split) <;> omega)]; trivial)))
end
noncomputable def cfg46 : Cfg := ⟨Tryz.prog, 15, q5b, (fun _ _ => []), [], (fun _ => none)⟩
theorem qblt : cfg46.pins = [] ∧ cfg46.P = Tryz.prog ∧ cfg46.N = 15 ∧ cfg46.ti 61 = none ∧ cfg46.T 61 = e61 ∧ cfg46.mv 61 = (fun _ => []) := ⟨rfl, rfl, rfl, rfl, rfl, rfl⟩
section
attribute [local go_sem] qblt e61
attribute [local go_sem] q0u q0r qd3 qem q08 qb3 qbh qcf q0z q0w qdq
theorem qbvv (hC : COk cfg46) (l : List Entry) (hp : l.length ≤ 1000000) : Sem Tryz.prog 46 [.d (.sl 8 (l.map q0r))] (.tup [.d (.i .i64 (qbc l).1), .d (.i .i64 (qbc l).2)]) := by
  refine q0f (C := cfg46) (rs := [.tmp 2, .tmp 3]) (fun _ => []) Tryz.func46 rfl rfl rfl rfl rfl rfl ?_
  refine inQ ?_
  repeat' first
    | (with_reducible first | apply q0j | apply q0c | apply AW.seq | apply AW.block)
    | (with_reducible refine AW.runK hC ?_; intro K hK)
    | ((with_reducible first | refine q0t ?_ | refine q0i ?_); refine siQ ?_; (try simp (disch := omega) only [w64, wu8]))
    | ((first | (refine AW.cond rfl (fun h => ?_) (fun h => ?_)) | (refine AW.cond_ub rfl (fun h => ?_) ?_) | (refine AW.cond_nb rfl ?_ (fun h => ?_))) <;> (try replace h := q0a h) <;> (try (exfalso; first | omega | exact absurd h (by decide))))
    | (with_reducible first | apply AW.skip | apply AW.exit | apply AW.ret | apply q0k | apply q0l | apply q0d | apply q0e | refine q0b rfl ?_ | apply q0m | apply q0n)
    | (refine q0h ?_; refine subQ ?_)
    | (with_reducible refine And.intro ?_ ?_)
    | (subst hK)
    | exact trivial
  all_goals (try (intros; assumption))
  all_goals (try refine q0v ?_)
  all_goals (try replace hp := q0a hp)
  all_goals (try (intros; trivial))
  all_goals (try (intros; omega))
  all_goals (try (rw [w64 (by omega) (by omega)]; first | done | omega))
end
noncomputable def cfg12 : Cfg := ⟨Tryz.prog, 5, q5c, (fun _ _ => []), [], (fun _ => none)⟩
theorem qblu : cfg12.pins = [] ∧ cfg12.P = Tryz.prog ∧ cfg12.N = 5 := ⟨rfl, rfl, rfl⟩
section
attribute [local go_sem] qblu
theorem qbvw (hC : COk cfg12) (l : List Entry) (hp : l.length ≤ 1000000) : Sem Tryz.prog 12 [.d (.sl 8 (l.map q0r))] (.own 50 8 (l.map q0r)) := by
  refine q0f (C := cfg12) (rs := [.tmp 2]) (fun _ => [(0, 50, 8)]) Tryz.func12 rfl rfl rfl rfl rfl rfl ?_
  refine inQ ?_
  repeat' first
    | (with_reducible first | apply q0j | apply q0c | apply AW.seq | apply AW.block)
    | (with_reducible refine AW.runK hC ?_; intro K hK)
    | ((with_reducible first | refine q0t ?_ | refine q0i ?_); refine siQ ?_; (try simp (disch := omega) only [w64, wu8]))
    | ((first | (refine AW.cond rfl (fun h => ?_) (fun h => ?_)) | (refine AW.cond_ub rfl (fun h => ?_) ?_) | (refine AW.cond_nb rfl ?_ (fun h => ?_))) <;> (try replace h := q0a h) <;> (try (exfalso; first | omega | exact absurd h (by decide))))
    | (with_reducible first | apply AW.skip | apply AW.exit | apply AW.ret | apply q0k | apply q0l | apply q0d | apply q0e | refine q0b rfl ?_ | apply q0m | apply q0n)
    | (refine q0h ?_; refine subQ ?_)
    | (with_reducible refine And.intro ?_ ?_)
    | (subst hK)
    | exact trivial
  all_goals (try (intros; assumption))
  all_goals (try refine q0v ?_)
  all_goals (try replace hp := q0a hp)
  all_goals (try (intros; trivial))
  all_goals (try (intros; omega))
  all_goals (try (rw [w64 (by omega) (by omega)]; first | done | omega))
  all_goals first | omega | (simp_all [dles]; done)
end
end Go.Ev
