/- Tools and contracts under the laws of this seat: Dyc177 to Dyc139. -/
import Derived.Test.YtkgkgcojfocomaaGreatE09
set_option linter.unusedVariables false
set_option linter.unusedSimpArgs false
namespace Go.Ev
open Go.Proofs Ty
set_option maxRecDepth 10000
set_option maxHeartbeats 4000000
set_option linter.unusedSimpArgs false
set_option linter.unusedVariables false
attribute [local go_sem] qbe qbg qcb qcy qb6 qda qdn qef Int.toNat_natCast qc9 qd4 qep qcq qcc qbm qb0 decI List.length_map qbf qbl q03 qb4 qc4 qdr qbt qb1 qd9 qe4 q06 qbv qcl qc8 qb5 qcd qds qea qbo qc0 qeb qe5 qbz qbp qcp qc6 qcn qed qc7 qco qee qc5 qcm qec List.length_take qce Int.toNat_zero Nat.sub_zero List.drop_zero
attribute [local go_sem ←] List.map_take List.map_drop
noncomputable def cfg177 : Cfg := ⟨Tryz.prog, 22, q00r, (fun _ _ => []), [], (fun _ => none)⟩
theorem qbfw : cfg177.pins = [] ∧ cfg177.P = Tryz.prog ∧ cfg177.N = 22 ∧ cfg177.ti 179 = none ∧ cfg177.T 179 = e179 ∧ cfg177.mv 179 = (fun _ => []) := ⟨rfl, rfl, rfl, rfl, rfl, rfl⟩
section
attribute [local go_sem] qbfw e179
theorem qbrd (hC : COk cfg177) (f : Fmt) (hp : f.fields.length ≤ 1000000 ∧ (∀ j, j < f.fields.length → qbi (f.fields.getD j q02).type_ = 0)) : Sem Tryz.prog 177 [.d (qbt f)] (.d (.i .i64 (qfc f))) := by
  refine q0f (C := cfg177) (rs := [.tmp 2]) (fun _ => []) Tryz.func177 rfl rfl rfl rfl rfl rfl ?_
  refine inQ ?_
  repeat' first
    | (with_reducible first | apply q0j | apply q0c | apply AW.seq | apply AW.block)
    | (with_reducible refine AW.runK hC ?_; intro K hK)
    | ((with_reducible first | refine q0t ?_ | refine q0i ?_); refine siQ ?_; (try simp (disch := omega) only [w64, wu8]))
    | ((first | (refine AW.cond rfl (fun h => ?_) (fun h => ?_)) | (refine AW.cond_ub rfl (fun h => ?_) ?_) | (refine AW.cond_nb rfl ?_ (fun h => ?_))) <;> (try replace h := q0a h) <;> (try (exfalso; first | omega | exact absurd h (by decide))))
    | (with_reducible first | apply AW.skip | apply AW.exit | apply AW.ret | apply q0k | apply q0l | apply q0d | apply q0e | refine q0b rfl ?_ | apply q0m | apply q0n)
    | (refine AW.loopN 3 rfl (ι := Nat) (fun i => mkS [(1, V.ptr 16 0), (3, V.d (.i .i64 (qb8 f.fields i))), (4, V.d (.i .i64 (i : Int)))] ([(16, .live (.box 74 [.d (.s f.name), .d (.sl 4 (f.fields.map q03))]))])) (fun i => i ≤ f.fields.length) (fun i => f.fields.length - i) (0) ?_ ?_ (fun i hi => ?_) <;> (try dsimp only) <;> (try dsimp only at hi))
    | (refine LoopNext.mk1 3 (i + 1) ?_ ?_ ?_ <;> (try dsimp only))
    | (refine q0h ?_; refine subQ ?_)
    | (with_reducible refine And.intro ?_ ?_)
    | (subst hK)
    | exact trivial
  all_goals (try (intros; assumption))
  all_goals (try refine q0v ?_)
  all_goals (try replace hp := q0a hp)
  all_goals (try replace hi := q0a hi)
  all_goals (try (intros; trivial))
  all_goals (try (intros; omega))
  all_goals (try (rw [w64 (by omega) (by omega)]; first | done | omega))
  all_goals (try have O1 := qgh f.fields i)
  all_goals (try have S1 := qlh (hp.2 i (by omega)))
  all_goals clear hC
  all_goals first
    | omega
    | rfl
    | exact hp.2 i (by omega)
    | (rw [q00f hp.2 (by omega), w64 (by omega) (by omega)]; done)
    | (rw [qfc, show f.fields.length = i by omega]; done)
end
noncomputable def cfg192 : Cfg := ⟨Tryz.prog, 66, q00s, (fun _ _ => []), [], (fun _ => none)⟩
theorem qbfx : cfg192.pins = [] ∧ cfg192.P = Tryz.prog ∧ cfg192.N = 66 ∧ cfg192.ti 51 = none ∧ cfg192.T 51 = e51 ∧ cfg192.mv 51 = (fun _ => []) ∧ cfg192.ti 76 = none ∧ cfg192.T 76 = e76 ∧ cfg192.mv 76 = (fun _ => []) ∧ cfg192.ti 177 = none ∧ cfg192.T 177 = e177 ∧ cfg192.mv 177 = (fun _ => []) ∧ cfg192.ti 178 = none ∧ cfg192.T 178 = e178 ∧ cfg192.mv 178 = (fun _ => []) ∧ cfg192.ti 193 = none ∧ cfg192.T 193 = e193 ∧ cfg192.mv 193 = (fun _ => []) := ⟨rfl, rfl, rfl, rfl, rfl, rfl, rfl, rfl, rfl, rfl, rfl, rfl, rfl, rfl, rfl, rfl, rfl, rfl⟩
section
attribute [local go_sem] qbfx e51 e76 e177 e178 e193
theorem qbre (hC : COk cfg192) (f : Fmt) (hp : f.fields.length ≤ 1000000) : Sem Tryz.prog 192 [.d (qbt f)] (.tup [.d (.i .i64 (qgt f.fields).1), .d (.i .i64 (qgt f.fields).2)]) := by
  refine q0f (C := cfg192) (rs := [.tmp 2, .tmp 3]) (fun _ => []) Tryz.func192 rfl rfl rfl rfl rfl rfl ?_
  refine inQ ?_
  repeat' first
    | (with_reducible first | apply q0j | apply q0c | apply AW.seq | apply AW.block)
    | (refine AW.atR 17 rfl ?_; by_cases hs : 200 < qfc f)
    | (with_reducible first | (refine AWh.runK hC ?_; intro K hK) | (refine AWh.drawK hC (by kernel_rfl) ?_; intro K hK))
    | (with_reducible first | (refine AW.runK hC ?_; intro K hK) | (refine AW.drawK hC (by kernel_rfl) ?_; intro K hK))
    | ((with_reducible first | refine q0t ?_ | refine qb2 ?_ | refine q0i ?_); (first | (simp (maxSteps := 1000000) only [go_sem, ↓reduceIte, reduceCtorEq, Nat.reduceEqDiff, Nat.reduceLT, Nat.reduceLeDiff, Nat.reduceMul, Nat.reduceAdd, Nat.reduceSub, reduceDIte, Nat.reduceBEq, Nat.reduceBNe, hs]) | (refine siQ ?_)); (try simp (disch := omega) only [w64, wu8]))
    | (with_reducible refine qbn (by kernel_rfl) ?_)
    | ((first | (refine AW.cond rfl (fun h => ?_) (fun h => ?_)) | (refine AW.cond_ub rfl (fun h => ?_) ?_) | (refine AW.cond_nb rfl ?_ (fun h => ?_))) <;> (try replace h := q0a h) <;> (try (exfalso; first | omega | exact absurd h (by decide))))
    | (with_reducible first | apply AW.skip | apply AW.exit | apply AW.ret | apply q0k | apply q0l | apply q0d | apply q0e | refine q0b rfl ?_ | apply q0m | apply q0n)
    | (refine AW.loopN 6 rfl (ι := Nat) (fun i => mkS [(1, V.ptr 16 0), (4, V.d (.i .i64 (i : Int)))] ([(16, .live (.box 74 [.d (.s f.name), .d (.sl 4 (f.fields.map q03))]))])) (fun i => i ≤ f.fields.length ∧ (1 ≤ f.fields.length ∧ f.fields.length ≤ 20) ∧ ∀ j, j < i → qeg f.fields j = 0) (fun i => f.fields.length - i) (0) ?_ ?_ (fun i hi => ?_) <;> (try dsimp only) <;> (try dsimp only at hi))
    | (refine LoopNext.mk1 6 (i + 1) ?_ ?_ ?_ <;> (try dsimp only))
    | (refine q0h ?_; refine subQ ?_)
    | (with_reducible refine And.intro ?_ ?_)
    | (subst hK)
    | exact trivial
  all_goals (try (intros; assumption))
  all_goals (try refine q0v ?_)
  all_goals (try replace hp := q0a hp)
  all_goals (try replace hi := q0a hi)
  all_goals (try (intros; trivial))
  all_goals (try (intros; omega))
  all_goals (try (rw [w64 (by omega) (by omega)]; first | done | omega))
  all_goals (try have O1 := qgh f.fields f.fields.length)
  all_goals clear hC
  all_goals (try have N0 : ¬qbb (f.fields.getD i q02).name = false := by rw [show qbb (f.fields.getD i q02).name = true by assumption]; decide)
  all_goals first
    | omega
    | rfl
    | (rw [qbdz (by omega)]; done)
    | (rw [q9t (by omega)]; done)
    | exact qbd0 hi.2.2 (by omega)
    | (rw [qmw hi.2.1 hi.2.2 (by omega) (by rw [q3r (by assumption)]; decide)]; first | done | exact q3r (by assumption))
    | (rw [qmw hi.2.1 hi.2.2 (by omega) (by rw [q9r (by omega) N0 (by assumption)]; decide)]; first | done | exact q9r (by omega) N0 (by assumption))
    | (rw [qmw hi.2.1 hi.2.2 (by omega) (by rw [q3s (by omega) N0 (by assumption) (by assumption)]; assumption)]; first | done | exact q3s (by omega) N0 (by assumption) (by assumption))
    | (rw [qmw hi.2.1 hi.2.2 (by omega) (by rw [q9s (by omega) N0 (by assumption) (by assumption) (by assumption)]; decide)]; first | done | exact q9s (by omega) N0 (by assumption) (by assumption) (by assumption))
    | exact qe3 hi.2.2 (qbva (by omega) N0 (by assumption) (by assumption) (by assumption))
    | (rw [qmx hi.2.1 hi.2.2 (by omega)]; done)
    | (rw [qmx hi.2.1 hi.2.2 (by omega)]; unfold qfc; by_cases q : 200 < qb8 f.fields f.fields.length <;> simp [q]; done)
    | (rw [qmx hi.2.1 hi.2.2 (by omega), if_pos (by assumption)]; rfl)
    | (rw [qmx hi.2.1 hi.2.2 (by omega), if_neg (by unfold qfc at hs; omega)]; rfl)
end
noncomputable def cfg175 : Cfg := ⟨Tryz.prog, 12, q00t, (fun _ _ => []), [], (fun _ => none)⟩
theorem qbfy : cfg175.pins = [] ∧ cfg175.P = Tryz.prog ∧ cfg175.N = 12 ∧ cfg175.ti 51 = none ∧ cfg175.T 51 = e51 ∧ cfg175.mv 51 = (fun _ => []) ∧ cfg175.ti 192 = none ∧ cfg175.T 192 = e192 ∧ cfg175.mv 192 = (fun _ => []) := ⟨rfl, rfl, rfl, rfl, rfl, rfl, rfl, rfl, rfl⟩
section
attribute [local go_sem] qbfy e51 e192
theorem qbrf (hC : COk cfg175) (f : Fmt) (hp : f.fields.length ≤ 1000000) : Sem Tryz.prog 175 [.d (qbt f)] (.tup [.d (.i .i64 (qca f).1), .d (.i .i64 (qca f).2)]) := by
  refine q0f (C := cfg175) (rs := [.tmp 2, .tmp 3]) (fun _ => []) Tryz.func175 rfl rfl rfl rfl rfl rfl ?_
  refine inQ ?_
  repeat' first
    | (with_reducible first | apply q0j | apply q0c | apply AW.seq | apply AW.block)
    | (with_reducible refine AW.runK hC ?_; intro K hK)
    | ((with_reducible first | refine q0t ?_ | refine q0i ?_); refine siQ ?_; (try simp (disch := omega) only [w64, wu8]))
    | ((first | (refine AW.cond rfl (fun h => ?_) (fun h => ?_)) | (refine AW.cond_ub rfl (fun h => ?_) ?_) | (refine AW.cond_nb rfl ?_ (fun h => ?_))) <;> (try replace h := q0a h) <;> (try (exfalso; first | omega | exact absurd h (by decide))))
    | (with_reducible first | apply AW.skip | apply AW.exit | apply AW.ret | apply q0k | apply q0l | apply q0d | apply q0e | refine q0b rfl ?_ | apply q0m | apply q0n)
    | (refine q0h ?_; refine subQ ?_)
    | (with_reducible refine And.intro ?_ ?_)
    | (subst hK)
    | exact trivial
  all_goals (try (intros; assumption))
  all_goals (try refine q0v ?_)
  all_goals (try replace hp := q0a hp)
  all_goals (try (intros; trivial))
  all_goals (try (intros; omega))
  all_goals (try (rw [w64 (by omega) (by omega)]; first | done | omega))
  all_goals clear hC
  all_goals first
    | omega
    | rfl
    | (rw [qbdy (by assumption)]; done)
    | (rw [q6w (by simp_all)]; done)
end
noncomputable def cfg176 : Cfg := ⟨Tryz.prog, 47, q00u, (fun _ _ => []), [], (fun _ => none)⟩
theorem qbfz : cfg176.pins = [] ∧ cfg176.P = Tryz.prog ∧ cfg176.N = 47 ∧ cfg176.ti 193 = none ∧ cfg176.T 193 = e193 ∧ cfg176.mv 193 = (fun _ => []) := ⟨rfl, rfl, rfl, rfl, rfl, rfl⟩
section
attribute [local go_sem] qbfz e193
theorem qbrg (hC : COk cfg176) (f : File) (hp : f.format.fields.length ≤ 1000000 ∧ f.keys.length ≤ 1000000) : Sem Tryz.prog 176 [.d (qb5 f)] (.tup [.d (.i .i64 (qj7 f).1), .d (.i .i64 (qj7 f).2)]) := by
  refine q0f (C := cfg176) (rs := [.tmp 2, .tmp 3]) (fun _ => []) Tryz.func176 rfl rfl rfl rfl rfl rfl ?_
  refine inQ ?_
  repeat' first
    | (with_reducible first | apply q0j | apply q0c | apply AW.seq | apply AW.block)
    | (with_reducible first | (refine AW.runK hC ?_; intro K hK) | (refine AW.drawK hC (by kernel_rfl) ?_; intro K hK))
    | ((with_reducible first | refine q0t ?_ | refine qb2 ?_ | refine q0i ?_); refine siQ ?_; (try simp (disch := omega) only [w64, wu8]))
    | (with_reducible refine qbn (by kernel_rfl) ?_)
    | ((first | (refine AW.cond rfl (fun h => ?_) (fun h => ?_)) | (refine AW.cond_ub rfl (fun h => ?_) ?_) | (refine AW.cond_nb rfl ?_ (fun h => ?_))) <;> (try replace h := q0a h) <;> (try (exfalso; first | omega | exact absurd h (by decide))))
    | (with_reducible first | apply AW.skip | apply AW.exit | apply AW.ret | apply q0k | apply q0l | apply q0d | apply q0e | refine q0b rfl ?_ | apply q0m | apply q0n)
    | (refine AW.loopN 4 rfl (ι := Nat) (fun i => mkS [(1, V.ptr 16 0), (4, V.d (.i .i64 (i : Int)))] ([(16, .live (.box 77 [.d (.s f.name), .d (.s f.format.name), .d (.sl 4 (f.format.fields.map q03)), .d (.sl 2 (f.keys.map q06)), .d (.b f.unique)]))])) (fun i => i ≤ f.keys.length ∧ f.keys.length ≤ 4 ∧ ∀ j, j < i → keyE f j = 0) (fun i => f.keys.length - i) (0) ?_ ?_ (fun i hi => ?_) <;> (try dsimp only) <;> (try dsimp only at hi))
    | (refine LoopNext.mk1 4 (i + 1) ?_ ?_ ?_ <;> (try dsimp only))
    | (refine AW.loopN 9 rfl (ι := Nat) (fun k => mkS [(1, V.ptr 16 0), (4, V.d (.i .i64 (i : Int))), (5, V.d (.i .i64 (k : Int)))] ([(16, .live (.box 77 [.d (.s f.name), .d (.s f.format.name), .d (.sl 4 (f.format.fields.map q03)), .d (.sl 2 (f.keys.map q06)), .d (.b f.unique)]))])) (fun k => k ≤ i ∧ ∀ j, j < k → qox f i j = 0) (fun k => i - k) (0) ?_ ?_ (fun k hk => ?_) <;> (try dsimp only) <;> (try dsimp only at hk))
    | (refine LoopNext.mk1 9 (k + 1) ?_ ?_ ?_ <;> (try dsimp only))
    | (refine q0h ?_; refine subQ ?_)
    | (with_reducible refine And.intro ?_ ?_)
    | (subst hK)
    | exact trivial
  all_goals (try (intros; assumption))
  all_goals (try refine q0v ?_)
  all_goals (try replace hp := q0a hp)
  all_goals (try replace hi := q0a hi)
  all_goals (try replace hk := q0a hk)
  all_goals (try (intros; trivial))
  all_goals (try (intros; omega))
  all_goals (try (rw [w64 (by omega) (by omega)]; first | done | omega))
  all_goals clear hC
  all_goals first
    | omega
    | rfl
    | (rw [qbpn (by omega)]; done)
    | (rw [q00g hi.2.1 hi.2.2 (by omega) (by rw [q3t (by assumption)]; decide)]; first | done | exact q3t (by assumption))
    | (rw [q00g hi.2.1 hi.2.2 (by omega) (by rw [q9w (by assumption) (k := k) (by omega) (by omega) (by assumption)]; decide)]; first | done | exact q9w (by assumption) (k := k) (by omega) (by omega) (by assumption))
    | exact qe3 hk.2 (qbvb (by assumption))
    | exact qe3 hi.2.2 (qbvc (by assumption) hk.2 (by omega))
    | (rw [qbd2 hi.2.1 hi.2.2 (by omega)]; done)
end
noncomputable def cfg166 : Cfg := ⟨Tryz.prog, 23, q00v, (fun _ _ => []), [], (fun _ => none)⟩
theorem qbf0 : cfg166.pins = [] ∧ cfg166.P = Tryz.prog ∧ cfg166.N = 23 ∧ cfg166.ti 51 = none ∧ cfg166.T 51 = e51 ∧ cfg166.mv 51 = (fun _ => []) ∧ cfg166.ti 175 = none ∧ cfg166.T 175 = e175 ∧ cfg166.mv 175 = (fun _ => []) ∧ cfg166.ti 176 = none ∧ cfg166.T 176 = e176 ∧ cfg166.mv 176 = (fun _ => []) := ⟨rfl, rfl, rfl, rfl, rfl, rfl, rfl, rfl, rfl, rfl, rfl, rfl⟩
section
attribute [local go_sem] qbf0 e51 e175 e176
theorem qbrh (hC : COk cfg166) (f : File) (hp : f.format.fields.length ≤ 1000000 ∧ f.keys.length ≤ 1000000) : Sem Tryz.prog 166 [.d (qb5 f)] (.tup [.d (.i .i64 (qch f).1), .d (.i .i64 (qch f).2)]) := by
  refine q0f (C := cfg166) (rs := [.tmp 2, .tmp 3]) (fun _ => []) Tryz.func166 rfl rfl rfl rfl rfl rfl ?_
  refine inQ ?_
  repeat' first
    | (with_reducible first | apply q0j | apply q0c | apply AW.seq | apply AW.block)
    | (with_reducible refine AW.runK hC ?_; intro K hK)
    | ((with_reducible first | refine q0t ?_ | refine q0i ?_); refine siQ ?_; (try simp (disch := omega) only [w64, wu8]))
    | ((first | (refine AW.cond rfl (fun h => ?_) (fun h => ?_)) | (refine AW.cond_ub rfl (fun h => ?_) ?_) | (refine AW.cond_nb rfl ?_ (fun h => ?_))) <;> (try replace h := q0a h) <;> (try (exfalso; first | omega | exact absurd h (by decide))))
    | (with_reducible first | apply AW.skip | apply AW.exit | apply AW.ret | apply q0k | apply q0l | apply q0d | apply q0e | refine q0b rfl ?_ | apply q0m | apply q0n)
    | (refine q0h ?_; refine subQ ?_)
    | (with_reducible refine And.intro ?_ ?_)
    | (subst hK)
    | exact trivial
  all_goals (try (intros; assumption))
  all_goals (try refine q0v ?_)
  all_goals (try replace hp := q0a hp)
  all_goals (try (intros; trivial))
  all_goals (try (intros; omega))
  all_goals (try (rw [w64 (by omega) (by omega)]; first | done | omega))
  all_goals clear hC
  all_goals first
    | omega
    | rfl
    | (rw [q9u (by assumption)]; done)
    | (have h0 : qbb f.name = true := by assumption
       rw [qbd1 (by rw [h0]; decide) (by assumption)]; done)
    | (have h0 : qbb f.name = true := by assumption
       rw [q9v (by rw [h0]; decide) (by assumption)]; done)
end
noncomputable def cfg156 : Cfg := ⟨Tryz.prog, 11, q00w, (fun _ _ => []), [], (fun _ => none)⟩
theorem qbf1 : cfg156.pins = [] ∧ cfg156.P = Tryz.prog ∧ cfg156.N = 11 ∧ cfg156.ti 166 = none ∧ cfg156.T 166 = e166 ∧ cfg156.mv 166 = (fun _ => []) := ⟨rfl, rfl, rfl, rfl, rfl, rfl⟩
section
attribute [local go_sem] qbf1 e166
theorem qbri (hC : COk cfg156) (f : File) (hp : f.format.fields.length ≤ 1000000 ∧ f.keys.length ≤ 1000000) : Sem Tryz.prog 156 [.d (qb5 f)] (.d (.i .i64 (qch f).2)) := by
  refine q0f (C := cfg156) (rs := [.tmp 2]) (fun _ => []) Tryz.func156 rfl rfl rfl rfl rfl rfl ?_
  refine inQ ?_
  repeat' first
    | (with_reducible first | apply q0j | apply q0c | apply AW.seq | apply AW.block)
    | (with_reducible refine AW.runK hC ?_; intro K hK)
    | ((with_reducible first | refine q0t ?_ | refine q0i ?_); refine siQ ?_; (try simp (disch := omega) only [w64, wu8]))
    | ((first | (refine AW.cond rfl (fun h => ?_) (fun h => ?_)) | (refine AW.cond_ub rfl (fun h => ?_) ?_) | (refine AW.cond_nb rfl ?_ (fun h => ?_))) <;> (try replace h := q0a h) <;> (try (exfalso; first | omega | exact absurd h (by decide))))
    | (with_reducible first | apply AW.skip | apply AW.exit | apply AW.ret | apply q0k | apply q0l | apply q0d | apply q0e | refine q0b rfl ?_ | apply q0m | apply q0n)
    | (refine q0h ?_; refine subQ ?_)
    | (with_reducible refine And.intro ?_ ?_)
    | (subst hK)
    | exact trivial
  all_goals (try (intros; assumption))
  all_goals (try refine q0v ?_)
  all_goals (try replace hp := q0a hp)
  all_goals (try (intros; trivial))
  all_goals (try (intros; omega))
  all_goals (try (rw [w64 (by omega) (by omega)]; first | done | omega))
end
noncomputable def cfg138 : Cfg := ⟨Tryz.prog, 5, q00x, (fun _ _ => []), [], (fun _ => none)⟩
theorem qbf2 : cfg138.pins = [] ∧ cfg138.P = Tryz.prog ∧ cfg138.N = 5 ∧ cfg138.ti 156 = none ∧ cfg138.T 156 = e156 ∧ cfg138.mv 156 = (fun _ => []) := ⟨rfl, rfl, rfl, rfl, rfl, rfl⟩
section
attribute [local go_sem] qbf2 e156
theorem qbrj (hC : COk cfg138) (f : File) (hp : f.format.fields.length ≤ 1000000 ∧ f.keys.length ≤ 1000000) : Sem Tryz.prog 138 [.d (qb5 f)] (.d (.i .i64 (qch f).2)) := by
  refine q0f (C := cfg138) (rs := [.tmp 2]) (fun _ => []) Tryz.func138 rfl rfl rfl rfl rfl rfl ?_
  refine inQ ?_
  repeat' first
    | (with_reducible first | apply q0j | apply q0c | apply AW.seq | apply AW.block)
    | (with_reducible refine AW.runK hC ?_; intro K hK)
    | ((with_reducible first | refine q0t ?_ | refine q0i ?_); refine siQ ?_; (try simp (disch := omega) only [w64, wu8]))
    | ((first | (refine AW.cond rfl (fun h => ?_) (fun h => ?_)) | (refine AW.cond_ub rfl (fun h => ?_) ?_) | (refine AW.cond_nb rfl ?_ (fun h => ?_))) <;> (try replace h := q0a h) <;> (try (exfalso; first | omega | exact absurd h (by decide))))
    | (with_reducible first | apply AW.skip | apply AW.exit | apply AW.ret | apply q0k | apply q0l | apply q0d | apply q0e | refine q0b rfl ?_ | apply q0m | apply q0n)
    | (refine q0h ?_; refine subQ ?_)
    | (with_reducible refine And.intro ?_ ?_)
    | (subst hK)
    | exact trivial
  all_goals (try (intros; assumption))
  all_goals (try refine q0v ?_)
  all_goals (try replace hp := q0a hp)
  all_goals (try (intros; trivial))
  all_goals (try (intros; omega))
  all_goals (try (rw [w64 (by omega) (by omega)]; first | done | omega))
end
noncomputable def cfg167 : Cfg := ⟨Tryz.prog, 11, q00y, (fun _ _ => []), [], (fun _ => none)⟩
theorem qbf3 : cfg167.pins = [] ∧ cfg167.P = Tryz.prog ∧ cfg167.N = 11 ∧ cfg167.ti 175 = none ∧ cfg167.T 175 = e175 ∧ cfg167.mv 175 = (fun _ => []) := ⟨rfl, rfl, rfl, rfl, rfl, rfl⟩
section
attribute [local go_sem] qbf3 e175
theorem qbrk (hC : COk cfg167) (f : Fmt) (hp : f.fields.length ≤ 1000000) : Sem Tryz.prog 167 [.d (qbt f)] (.d (.i .i64 (qca f).2)) := by
  refine q0f (C := cfg167) (rs := [.tmp 2]) (fun _ => []) Tryz.func167 rfl rfl rfl rfl rfl rfl ?_
  refine inQ ?_
  repeat' first
    | (with_reducible first | apply q0j | apply q0c | apply AW.seq | apply AW.block)
    | (with_reducible refine AW.runK hC ?_; intro K hK)
    | ((with_reducible first | refine q0t ?_ | refine q0i ?_); refine siQ ?_; (try simp (disch := omega) only [w64, wu8]))
    | ((first | (refine AW.cond rfl (fun h => ?_) (fun h => ?_)) | (refine AW.cond_ub rfl (fun h => ?_) ?_) | (refine AW.cond_nb rfl ?_ (fun h => ?_))) <;> (try replace h := q0a h) <;> (try (exfalso; first | omega | exact absurd h (by decide))))
    | (with_reducible first | apply AW.skip | apply AW.exit | apply AW.ret | apply q0k | apply q0l | apply q0d | apply q0e | refine q0b rfl ?_ | apply q0m | apply q0n)
    | (refine q0h ?_; refine subQ ?_)
    | (with_reducible refine And.intro ?_ ?_)
    | (subst hK)
    | exact trivial
  all_goals (try (intros; assumption))
  all_goals (try refine q0v ?_)
  all_goals (try replace hp := q0a hp)
  all_goals (try (intros; trivial))
  all_goals (try (intros; omega))
  all_goals (try (rw [w64 (by omega) (by omega)]; first | done | omega))
end
noncomputable def cfg168 : Cfg := ⟨Tryz.prog, 5, q00z, (fun _ _ => []), [], (fun _ => none)⟩
theorem qbf4 : cfg168.pins = [] ∧ cfg168.P = Tryz.prog ∧ cfg168.N = 5 ∧ cfg168.ti 177 = none ∧ cfg168.T 177 = e177 ∧ cfg168.mv 177 = (fun _ => []) := ⟨rfl, rfl, rfl, rfl, rfl, rfl⟩
section
attribute [local go_sem] qbf4 e177
theorem qbrl (hC : COk cfg168) (f : Fmt) (hp : f.fields.length ≤ 1000000 ∧ (∀ j, j < f.fields.length → qbi (f.fields.getD j q02).type_ = 0)) : Sem Tryz.prog 168 [.d (qbt f)] (.d (.i .i64 (qfc f))) := by
  refine q0f (C := cfg168) (rs := [.tmp 2]) (fun _ => []) Tryz.func168 rfl rfl rfl rfl rfl rfl ?_
  refine inQ ?_
  repeat' first
    | (with_reducible first | apply q0j | apply q0c | apply AW.seq | apply AW.block)
    | (with_reducible refine AW.runK hC ?_; intro K hK)
    | ((with_reducible first | refine q0t ?_ | refine q0i ?_); refine siQ ?_; (try simp (disch := omega) only [w64, wu8]))
    | ((first | (refine AW.cond rfl (fun h => ?_) (fun h => ?_)) | (refine AW.cond_ub rfl (fun h => ?_) ?_) | (refine AW.cond_nb rfl ?_ (fun h => ?_))) <;> (try replace h := q0a h) <;> (try (exfalso; first | omega | exact absurd h (by decide))))
    | (with_reducible first | apply AW.skip | apply AW.exit | apply AW.ret | apply q0k | apply q0l | apply q0d | apply q0e | refine q0b rfl ?_ | apply q0m | apply q0n)
    | (refine q0h ?_; refine subQ ?_)
    | (with_reducible refine And.intro ?_ ?_)
    | (subst hK)
    | exact trivial
  all_goals (try (intros; assumption))
  all_goals (try refine q0v ?_)
  all_goals (try replace hp := q0a hp)
  all_goals (try (intros; trivial))
  all_goals (try (intros; omega))
  all_goals (try (rw [w64 (by omega) (by omega)]; first | done | omega))
  all_goals first | exact hp.2 | omega
end
noncomputable def cfg184 : Cfg := ⟨Tryz.prog, 22, q000, (fun _ _ => []), [], (fun _ => none)⟩
theorem qbf5 : cfg184.pins = [] ∧ cfg184.P = Tryz.prog ∧ cfg184.N = 22 ∧ cfg184.ti 179 = none ∧ cfg184.T 179 = e179 ∧ cfg184.mv 179 = (fun _ => []) := ⟨rfl, rfl, rfl, rfl, rfl, rfl⟩
section
attribute [local go_sem] qbf5 e179
theorem qbrm (hC : COk cfg184) (f : Fmt) (a : Int) (hp : f.fields.length ≤ 1000000 ∧ (∀ j, j < f.fields.length → qbi (f.fields.getD j q02).type_ = 0) ∧ 0 ≤ a ∧ a ≤ (f.fields.length : Int)) : Sem Tryz.prog 184 [.d (qbt f), .d (.i .i64 a)] (.d (.i .i64 (qb8 f.fields a.toNat))) := by
  refine q0f (C := cfg184) (rs := [.tmp 4]) (fun _ => []) Tryz.func184 rfl rfl rfl rfl rfl rfl ?_
  refine inQ ?_
  repeat' first
    | (with_reducible first | apply q0j | apply q0c | apply AW.seq | apply AW.block)
    | (with_reducible refine AW.runK hC ?_; intro K hK)
    | ((with_reducible first | refine q0t ?_ | refine q0i ?_); refine siQ ?_; (try simp (disch := omega) only [w64, wu8]))
    | ((first | (refine AW.cond rfl (fun h => ?_) (fun h => ?_)) | (refine AW.cond_ub rfl (fun h => ?_) ?_) | (refine AW.cond_nb rfl ?_ (fun h => ?_))) <;> (try replace h := q0a h) <;> (try (exfalso; first | omega | exact absurd h (by decide))))
    | (with_reducible first | apply AW.skip | apply AW.exit | apply AW.ret | apply q0k | apply q0l | apply q0d | apply q0e | refine q0b rfl ?_ | apply q0m | apply q0n)
    | (refine AW.loopN 3 rfl (ι := Nat) (fun i => mkS [(1, V.d (.i .i64 a)), (2, V.ptr 32 0), (5, V.d (.i .i64 (qb8 f.fields i))), (6, V.d (.i .i64 (i : Int)))] ([(32, .live (.box 74 [.d (.s f.name), .d (.sl 4 (f.fields.map q03))]))])) (fun i => (i : Int) ≤ a) (fun i => a.toNat - i) (0) ?_ ?_ (fun i hi => ?_) <;> (try dsimp only) <;> (try dsimp only at hi))
    | (refine LoopNext.mk1 3 (i + 1) ?_ ?_ ?_ <;> (try dsimp only))
    | (refine q0h ?_; refine subQ ?_)
    | (with_reducible refine And.intro ?_ ?_)
    | (subst hK)
    | exact trivial
  all_goals (try (intros; assumption))
  all_goals (try refine q0v ?_)
  all_goals (try replace hp := q0a hp)
  all_goals (try replace hi := q0a hi)
  all_goals (try (intros; trivial))
  all_goals (try (intros; omega))
  all_goals (try (rw [w64 (by omega) (by omega)]; first | done | omega))
  all_goals (try have O1 := qgh f.fields i)
  all_goals (try have S1 := qlh (hp.2.1 i (by omega)))
  all_goals clear hC
  all_goals first
    | omega
    | rfl
    | exact hp.2.1 i (by omega)
    | (rw [q00f hp.2.1 (by omega), w64 (by omega) (by omega)]; done)
    | (rw [show a.toNat = i by omega]; done)
end
noncomputable def cfg170 : Cfg := ⟨Tryz.prog, 23, q001, (fun _ _ => []), [], (fun _ => none)⟩
theorem qbf6 : cfg170.pins = [] ∧ cfg170.P = Tryz.prog ∧ cfg170.N = 23 ∧ cfg170.ti 179 = none ∧ cfg170.T 179 = e179 ∧ cfg170.mv 179 = (fun _ => []) ∧ cfg170.ti 184 = none ∧ cfg170.T 184 = e184 ∧ cfg170.mv 184 = (fun _ => []) := ⟨rfl, rfl, rfl, rfl, rfl, rfl, rfl, rfl, rfl⟩
section
attribute [local go_sem] qbf6 e179 e184
theorem qbrn (hC : COk cfg170) (f : Fmt) (s : ByteArray) (a : Int) (hp : f.fields.length ≤ 1000000 ∧ (∀ j, j < f.fields.length → qbi (f.fields.getD j q02).type_ = 0) ∧ 0 ≤ a ∧ a < (f.fields.length : Int) ∧ (s.size : Int) = qfc f) : Sem Tryz.prog 170 [.d (qbt f), .d (.s s), .d (.i .i64 a)] (.d (.s (qpk f s a.toNat))) := by
  refine q0f (C := cfg170) (rs := [.tmp 6]) (fun _ => []) Tryz.func170 rfl rfl rfl rfl rfl rfl ?_
  refine inQ ?_
  repeat' first
    | (with_reducible first | apply q0j | apply q0c | apply AW.seq | apply AW.block)
    | (refine AW.atR 2 rfl ?_; have ht := hp.2.1 a.toNat (by omega); have hf := qbd4 hp.2.2.2.2 (show a.toNat < f.fields.length by omega) ht; have ho := qgh f.fields a.toNat; have hz := qlh ht; have hw : IntKind.i64.wrap (qb8 f.fields a.toNat + qet (f.fields.getD a.toNat q02).type_) = qb8 f.fields a.toNat + qet (f.fields.getD a.toNat q02).type_ := (w64 (by omega) (by omega)); have he := qbd3 (b := s) ht)
    | (with_reducible first | (refine AWh.runK hC ?_; intro K hK) | (refine AWh.drawK hC (by kernel_rfl) ?_; intro K hK))
    | (with_reducible refine AW.runK hC ?_; intro K hK)
    | ((with_reducible first | refine q0t ?_ | refine q0i ?_); (first | (simp (maxSteps := 1000000) only [go_sem, ↓reduceIte, reduceCtorEq, Nat.reduceEqDiff, Nat.reduceLT, Nat.reduceLeDiff, Nat.reduceMul, Nat.reduceAdd, Nat.reduceSub, reduceDIte, Nat.reduceBEq, Nat.reduceBNe, hw, he]) | (refine siQ ?_)); (try simp (disch := omega) only [w64, wu8]))
    | ((first | (refine AW.cond rfl (fun h => ?_) (fun h => ?_)) | (refine AW.cond_ub rfl (fun h => ?_) ?_) | (refine AW.cond_nb rfl ?_ (fun h => ?_))) <;> (try replace h := q0a h) <;> (try (exfalso; first | omega | exact absurd h (by decide))))
    | (with_reducible first | apply AW.skip | apply AW.exit | apply AW.ret | apply q0k | apply q0l | apply q0d | apply q0e | refine q0b rfl ?_ | apply q0m | apply q0n)
    | (refine q0h ?_; refine subQ ?_)
    | (with_reducible refine And.intro ?_ ?_)
    | (subst hK)
    | exact trivial
  all_goals (try (intros; assumption))
  all_goals (try refine q0v ?_)
  all_goals (try replace hp := q0a hp)
  all_goals (try (intros; trivial))
  all_goals (try (intros; omega))
  all_goals (try (rw [w64 (by omega) (by omega)]; first | done | omega))
  all_goals clear hC
  all_goals first
    | omega
    | rfl
    | assumption
    | exact hp.2.1
end
noncomputable def cfg157 : Cfg := ⟨Tryz.prog, 47, q002, (fun _ _ => []), [], (fun _ => none)⟩
theorem qbf7 : cfg157.pins = [] ∧ cfg157.P = Tryz.prog ∧ cfg157.N = 47 ∧ cfg157.ti 167 = none ∧ cfg157.T 167 = e167 ∧ cfg157.mv 167 = (fun _ => []) ∧ cfg157.ti 168 = none ∧ cfg157.T 168 = e168 ∧ cfg157.mv 168 = (fun _ => []) ∧ cfg157.ti 169 = none ∧ cfg157.T 169 = e169 ∧ cfg157.mv 169 = (fun _ => []) ∧ cfg157.ti 170 = none ∧ cfg157.T 170 = e170 ∧ cfg157.mv 170 = (fun _ => []) := ⟨rfl, rfl, rfl, rfl, rfl, rfl, rfl, rfl, rfl, rfl, rfl, rfl, rfl, rfl, rfl⟩
section
attribute [local go_sem] qbf7 e167 e168 e169 e170
theorem qbro (hC : COk cfg157) (f : Fmt) (s : ByteArray) (hp : f.fields.length ≤ 1000000) : Sem Tryz.prog 157 [.d (qbt f), .d (.s s)] (.tup [.d (.i .i64 (qdh f s).2.1), .d (.i .i64 (qdh f s).2.2)]) := by
  refine q0f (C := cfg157) (rs := [.tmp 4, .tmp 5]) (fun _ => []) Tryz.func157 rfl rfl rfl rfl rfl rfl ?_
  refine inQ ?_
  repeat' first
    | (with_reducible first | apply q0j | apply q0c | apply AW.seq | apply AW.block)
    | (with_reducible first | (refine AW.runK hC ?_; intro K hK) | (refine AW.drawK hC (by kernel_rfl) ?_; intro K hK))
    | ((with_reducible first | refine q0t ?_ | refine qb2 ?_ | refine q0i ?_); refine siQ ?_; (try simp (disch := omega) only [w64, wu8]))
    | (with_reducible refine qbn (by kernel_rfl) ?_)
    | ((first | (refine AW.cond rfl (fun h => ?_) (fun h => ?_)) | (refine AW.cond_ub rfl (fun h => ?_) ?_) | (refine AW.cond_nb rfl ?_ (fun h => ?_))) <;> (try replace h := q0a h) <;> (try (exfalso; first | omega | exact absurd h (by decide))))
    | (with_reducible first | apply AW.skip | apply AW.exit | apply AW.ret | apply q0k | apply q0l | apply q0d | apply q0e | refine q0b rfl ?_ | apply q0m | apply q0n)
    | (refine AW.loopN 7 rfl (ι := Nat) (fun i => mkS [(1, V.d (.s s)), (2, V.ptr 32 0), (7, V.d (.i .i64 (i : Int)))] ([(32, .live (.box 74 [.d (.s f.name), .d (.sl 4 (f.fields.map q03))]))])) (fun i => i ≤ f.fields.length ∧ ((qca f).2 = 0 ∧ (s.size : Int) = qfc f) ∧ ∀ j, j < i → qj5 f s j = 0) (fun i => f.fields.length - i) (0) ?_ ?_ (fun i hi => ?_) <;> (try dsimp only) <;> (try dsimp only at hi))
    | (refine LoopNext.mk1 7 (i + 1) ?_ ?_ ?_ <;> (try dsimp only))
    | (refine q0h ?_; refine subQ ?_)
    | (with_reducible refine And.intro ?_ ?_)
    | (subst hK)
    | exact trivial
  all_goals (try (intros; assumption))
  all_goals (try refine q0v ?_)
  all_goals (try replace hp := q0a hp)
  all_goals (try replace hi := q0a hi)
  all_goals (try (intros; trivial))
  all_goals (try (intros; omega))
  all_goals (try (rw [w64 (by omega) (by omega)]; first | done | omega))
  all_goals clear hC
  all_goals first
    | omega
    | rfl
    | exact qwz (by assumption)
    | exact qwz hi.2.1.1
    | exact hi.2.1.2
    | (rw [qve (by assumption)]; done)
    | (rw [qvf (by assumption) (by assumption)]; done)
    | (rw [qbd5 hi.2.1.1 hi.2.1.2 hi.2.2 (by omega) (by assumption)]; first | done | rfl)
    | exact qe3 hi.2.2 (by assumption)
    | (rw [qbd6 hi.2.1.1 hi.2.1.2 hi.2.2 (by omega)]; done)
end
noncomputable def cfg139 : Cfg := ⟨Tryz.prog, 14, q003, (fun _ _ => []), [], (fun _ => none)⟩
theorem qbf8 : cfg139.pins = [] ∧ cfg139.P = Tryz.prog ∧ cfg139.N = 14 ∧ cfg139.ti 157 = none ∧ cfg139.T 157 = e157 ∧ cfg139.mv 157 = (fun _ => []) := ⟨rfl, rfl, rfl, rfl, rfl, rfl⟩
section
attribute [local go_sem] qbf8 e157
theorem qbrp (hC : COk cfg139) (f : Fmt) (s : ByteArray) (hp : f.fields.length ≤ 1000000) : Sem Tryz.prog 139 [.d (qbt f), .d (.s s)] (.d (.i .i64 (qdh f s).2.2)) := by
  refine q0f (C := cfg139) (rs := [.tmp 4]) (fun _ => []) Tryz.func139 rfl rfl rfl rfl rfl rfl ?_
  refine inQ ?_
  repeat' first
    | (with_reducible first | apply q0j | apply q0c | apply AW.seq | apply AW.block)
    | (with_reducible refine AW.runK hC ?_; intro K hK)
    | ((with_reducible first | refine q0t ?_ | refine q0i ?_); refine siQ ?_; (try simp (disch := omega) only [w64, wu8]))
    | ((first | (refine AW.cond rfl (fun h => ?_) (fun h => ?_)) | (refine AW.cond_ub rfl (fun h => ?_) ?_) | (refine AW.cond_nb rfl ?_ (fun h => ?_))) <;> (try replace h := q0a h) <;> (try (exfalso; first | omega | exact absurd h (by decide))))
    | (with_reducible first | apply AW.skip | apply AW.exit | apply AW.ret | apply q0k | apply q0l | apply q0d | apply q0e | refine q0b rfl ?_ | apply q0m | apply q0n)
    | (refine q0h ?_; refine subQ ?_)
    | (with_reducible refine And.intro ?_ ?_)
    | (subst hK)
    | exact trivial
  all_goals (try (intros; assumption))
  all_goals (try refine q0v ?_)
  all_goals (try replace hp := q0a hp)
  all_goals (try (intros; trivial))
  all_goals (try (intros; omega))
  all_goals (try (rw [w64 (by omega) (by omega)]; first | done | omega))
end
end Go.Ev
