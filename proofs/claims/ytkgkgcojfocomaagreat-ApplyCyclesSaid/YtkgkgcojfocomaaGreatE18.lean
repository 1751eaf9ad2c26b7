/- Tools and contracts under the laws of this seat: Dyc71 to Dyc10. -/
import Derived.Test.YtkgkgcojfocomaaGreatE05
import Derived.Test.YtkgkgcojfocomaaGreatE07
import Derived.Test.YtkgkgcojfocomaaGreatE09
set_option linter.unusedVariables false
set_option linter.unusedSimpArgs false
namespace Go.Ev
open Go.Proofs Ty
set_option maxRecDepth 10000
set_option maxHeartbeats 4000000
attribute [local go_sem] qbe qbg qcg qc2 qb7 qde qdo qei Int.toNat_natCast qdd qd7 qer qcv qch qbn qb2 decI List.length_map nc0 qbf qbm q05 qb5 qc8 qds qbw qb3 qec qe9 q06 qbx qcq qdc qb6 qci qdt qed qbp qc5 qee qfa qb1 qbr qcu qda qcs qeg qdb qct qeh qc9 qcr qef List.length_take qck Int.toNat_zero Nat.sub_zero List.drop_zero q0g q0y qdf qdy q0u q00 qba qbh qcy qcz List.length_set Nat.le_refl
attribute [local go_sem ←] List.map_take List.map_drop
noncomputable def cfg71 : Cfg := mkC 22 q7k
theorem qboa : cfg71.pins = [] ∧ cfg71.P = Tryz.prog ∧ cfg71.N = 22 := ⟨rfl, rfl, rfl⟩
section
attribute [local go_sem] qboa
theorem qbyh (hC : COk cfg71) (c : Change) : Sem Tryz.prog 71 [.d (q0u c)] (.tup [.d (q0u (qgi c).1), .d (.i .i64 (qgi c).2)]) := by
  refine q0f (C := cfg71) (rs := [.cell 2 48, .tmp 3]) (fun _ => []) Tryz.func71 rfl rfl rfl rfl rfl rfl ?_
  refine inQ ?_
  repeat' first
  | (with_reducible first | apply q0l | apply q0c | apply AW.seq | apply AW.block | apply AW.skip | apply AW.exit | apply AW.ret | apply q0m | apply q0n | apply q0d | apply q0e | refine q0b rfl ?_ | apply q0o | apply q0p | apply And.intro)
  | (with_reducible refine AW.runK hC ?_; intro K hK)
  | ((with_reducible first | refine q0t ?_ | refine q0k ?_); refine siQ ?_; (try simp (disch := omega) only [w64, wu8]))
  | ((first | refine AW.cond rfl (fun h => ?_) fun h => ?_ | refine AW.cond_ub rfl (fun h => ?_) ?_ | refine AW.cond_nb rfl ?_ fun h => ?_) <;> (try replace h := q0a h) <;> try (exfalso; first | omega | exact absurd h (by decide)))
  | (refine q0h ?_; refine subQ ?_)
  | (subst hK)
  | exact trivial
  all_goals try (intros; assumption)
  all_goals try refine q0v ?_
  all_goals try (intros; first | trivial | omega)
  all_goals (try (rw [w64 (by omega) (by omega)]; first | done | omega))
  all_goals clear hC
  all_goals first
  | omega
  | (simp [qgi, qhx, q09, *]; done)
  | (simp_all [qgi, qhx]; done)
  | (unfold qgi qhx; grind)
end
noncomputable def cfg92 : Cfg := mkC 9 q7l
theorem qbob : cfg92.pins = [] ∧ cfg92.P = Tryz.prog ∧ cfg92.N = 9 := ⟨rfl, rfl, rfl⟩
section
attribute [local go_sem] qbob
attribute [local go_sem] qc0 qcm
theorem qbyi (hC : COk cfg92) (t : Table) (n : ByteArray) : Sem Tryz.prog 92 [.d (q0g t), .d (.cp [.s n])] (.d (.b (decide (t.file.name = n)))) := by
  refine q0f (C := cfg92) (rs := [.tmp 3]) (fun _ => []) Tryz.func92 rfl rfl rfl rfl rfl rfl ?_
  refine inQ ?_
  repeat' first
  | (with_reducible first | apply q0l | apply q0c | apply AW.seq | apply AW.block | apply AW.skip | apply AW.exit | apply AW.ret | apply q0m | apply q0n | apply q0d | apply q0e | refine q0b rfl ?_ | apply q0o | apply q0p | apply And.intro)
  | (with_reducible refine AW.runK hC ?_; intro K hK)
  | ((with_reducible first | refine q0t ?_ | refine q0k ?_); refine siQ ?_; (try simp (disch := omega) only [w64, wu8]))
  | ((first | refine AW.cond rfl (fun h => ?_) fun h => ?_ | refine AW.cond_ub rfl (fun h => ?_) ?_ | refine AW.cond_nb rfl ?_ fun h => ?_) <;> (try replace h := q0a h) <;> try (exfalso; first | omega | exact absurd h (by decide)))
  | (refine q0h ?_; refine subQ ?_)
  | (subst hK)
  | exact trivial
  all_goals try (intros; assumption)
  all_goals try refine q0v ?_
  all_goals try (intros; first | trivial | omega)
  all_goals (try (rw [w64 (by omega) (by omega)]; first | done | omega))
end
noncomputable def cfg91 : Cfg := mkC 19 q7p
theorem qboc : cfg91.pins = [] ∧ cfg91.P = Tryz.prog ∧ cfg91.N = 19 ∧ cfg91.ti 92 = none ∧ cfg91.T 92 = e92 ∧ cfg91.mv 92 = (fun _ => []) := by and_intros <;> exact rfl
section
attribute [local go_sem] qboc e92
attribute [local go_sem] qc0 qcm
theorem qbyj (hC : COk cfg91) (l : List Table) (n : ByteArray) (hp : l.length ≤ 1000000) : Sem Tryz.prog 91 [.d (.sl 6 (l.map q0g)), .d (.fn 92 [.cp [.s n]])] (.d (.i .i64 (qbq l n))) := by
  refine q0f (C := cfg91) (rs := [.tmp 4]) (fun _ => []) Tryz.func91 rfl rfl rfl rfl rfl rfl ?_
  refine inQ ?_
  repeat' first
  | (with_reducible first | apply q0l | apply q0c | apply AW.seq | apply AW.block | apply AW.skip | apply AW.exit | apply AW.ret | apply q0m | apply q0n | apply q0d | apply q0e | refine q0b rfl ?_ | apply q0o | apply q0p | apply And.intro)
  | (refine AW.atR 4 rfl ?_; have hg : ∀ z, (l.map q0g).getD i z = q0g (l.getD i q0z) := fun z => qgj (by omega) z)
  | (with_reducible first | (refine AWh.runK hC ?_; intro K hK) | (refine AWh.drawK hC (by kernel_rfl) ?_; intro K hK))
  | (with_reducible refine AW.runK hC ?_; intro K hK)
  | ((with_reducible first | refine q0t ?_ | refine q0k ?_); (first | (simp (maxSteps := 1000000) only [go_sem, ↓reduceIte, reduceCtorEq, Nat.reduceEqDiff, Nat.reduceLT, Nat.reduceLeDiff, Nat.reduceMul, Nat.reduceAdd, Nat.reduceSub, reduceDIte, Nat.reduceBEq, Nat.reduceBNe, hg]) | (refine siQ ?_)); (try simp (disch := omega) only [w64, wu8]))
  | ((first | refine AW.cond rfl (fun h => ?_) fun h => ?_ | refine AW.cond_ub rfl (fun h => ?_) ?_ | refine AW.cond_nb rfl ?_ fun h => ?_) <;> (try replace h := q0a h) <;> try (exfalso; first | omega | exact absurd h (by decide)))
  | (refine AW.loopN 2 rfl (ι := Nat) (fun i => mkS [(0, V.d (.sl 6 (l.map q0g))), (1, V.d (.fn 92 [.cp [.s n]])), (7, V.d (.i .i64 (l.length : Int))), (8, V.d (.i .i64 (i : Int)))] ([])) (fun i => i ≤ l.length ∧ ∀ j, j < i → qf3 l n j = 0) (fun i => l.length - i) (0) ?_ ?_ (fun i hi => ?_) <;> (try dsimp only) <;> (try dsimp only at hi))
  | (refine LoopNext.mk1 2 (i + 1) ?_ ?_ ?_ <;> (try dsimp only))
  | (refine q0h ?_; refine subQ ?_)
  | (subst hK)
  | exact trivial
  all_goals try (intros; assumption)
  all_goals try refine q0v ?_
  all_goals try replace hp := q0a hp
  all_goals try replace hi := q0a hi
  all_goals try (intros; first | trivial | omega)
  all_goals (try (rw [w64 (by omega) (by omega)]; first | done | omega))
  all_goals clear hC
  all_goals first
  | omega
  | (rw [q1f hi.2 (by omega) (by assumption)]; done)
  | (rw [q1g hi.2 (by omega)]; done)
  | exact qes hi.2 (qba1 (by assumption))
end
noncomputable def cfg69 : Cfg := mkC 8 q7q
theorem qbod : cfg69.pins = [] ∧ cfg69.P = Tryz.prog ∧ cfg69.N = 8 ∧ cfg69.T 91 = e91 ∧ cfg69.T 92 = e92 ∧ cfg69.ti = (fun _ => none) ∧ cfg69.mv = fun _ _ => [] := by and_intros <;> exact rfl
section
attribute [local go_sem] qbod e91 e92
attribute [local go_sem] qc0 qcm
theorem qbyk (hC : COk cfg69) (l : List Table) (n : ByteArray) (hp : l.length ≤ 1000000) : Sem Tryz.prog 69 [.d (.sl 6 (l.map q0g)), .d (.s n)] (.d (.i .i64 (qbq l n))) := by
  refine q0f (C := cfg69) (rs := [.tmp 4]) (fun _ => []) Tryz.func69 rfl rfl rfl rfl rfl rfl ?_
  refine inQ ?_
  repeat' first
  | (with_reducible first | apply q0l | apply q0c | apply AW.seq | apply AW.block | apply AW.skip | apply AW.exit | apply AW.ret | apply q0m | apply q0n | apply q0d | apply q0e | refine q0b rfl ?_ | apply q0o | apply q0p | apply And.intro)
  | (with_reducible refine AW.runK hC ?_; intro K hK)
  | ((with_reducible first | refine q0t ?_ | refine q0k ?_); refine siQ ?_; (try simp (disch := omega) only [w64, wu8]))
  | ((first | refine AW.cond rfl (fun h => ?_) fun h => ?_ | refine AW.cond_ub rfl (fun h => ?_) ?_ | refine AW.cond_nb rfl ?_ fun h => ?_) <;> (try replace h := q0a h) <;> try (exfalso; first | omega | exact absurd h (by decide)))
  | (refine q0h ?_; refine subQ ?_)
  | (subst hK)
  | exact trivial
  all_goals try (intros; assumption)
  all_goals try refine q0v ?_
  all_goals try replace hp := q0a hp
  all_goals try (intros; first | trivial | omega)
  all_goals (try (rw [w64 (by omega) (by omega)]; first | done | omega))
end
noncomputable def cfg65 : Cfg := mkC 33 q7r
theorem qboe : cfg65.pins = [] ∧ cfg65.P = Tryz.prog ∧ cfg65.N = 33 ∧ cfg65.T 69 = e69 ∧ cfg65.T 90 = e90 ∧ cfg65.ti = (fun _ => none) ∧ cfg65.mv = fun _ _ => [] := by and_intros <;> exact rfl
section
attribute [local go_sem] qboe e69 e90
attribute [local go_sem] qc0 qcm
theorem qbyl (hC : COk cfg65) (l : List Table) (hp : okTs l) : Sem Tryz.prog 65 [.d (.sl 6 (l.map q0g))] (.d (.i .i64 (qd6 l))) := by
  refine q0f (C := cfg65) (rs := [.tmp 2]) (fun _ => []) Tryz.func65 rfl rfl rfl rfl rfl rfl ?_
  refine inQ ?_
  repeat' first
  | (with_reducible first | apply q0l | apply q0c | apply AW.seq | apply AW.block | apply AW.skip | apply AW.exit | apply AW.ret | apply q0m | apply q0n | apply q0d | apply q0e | refine q0b rfl ?_ | apply q0o | apply q0p | apply And.intro)
  | (refine AW.atR 5 rfl ?_; have hg : ∀ z, (l.map q0g).getD i z = q0g (l.getD i q0z) := fun z => qgj (by omega) z)
  | (with_reducible first | (refine AWh.runK hC ?_; intro K hK) | (refine AWh.drawK hC (by kernel_rfl) ?_; intro K hK))
  | (with_reducible refine AW.runK hC ?_; intro K hK)
  | ((with_reducible first | refine q0t ?_ | refine q0k ?_); (first | (simp (maxSteps := 1000000) only [go_sem, ↓reduceIte, reduceCtorEq, Nat.reduceEqDiff, Nat.reduceLT, Nat.reduceLeDiff, Nat.reduceMul, Nat.reduceAdd, Nat.reduceSub, reduceDIte, Nat.reduceBEq, Nat.reduceBNe, hg]) | (refine siQ ?_)); (try simp (disch := omega) only [w64, wu8]))
  | ((first | refine AW.cond rfl (fun h => ?_) fun h => ?_ | refine AW.cond_ub rfl (fun h => ?_) ?_ | refine AW.cond_nb rfl ?_ fun h => ?_) <;> (try replace h := q0a h) <;> try (exfalso; first | omega | exact absurd h (by decide)))
  | (refine AW.loopN 4 rfl (ι := Nat) (fun i => mkS [(0, V.d (.sl 6 (l.map q0g))), (10, V.d (.sl 6 (l.map q0g))), (11, V.d (.i .i64 (l.length : Int))), (12, V.d (.i .i64 (i : Int)))] ([])) (fun i => i ≤ l.length ∧ l.length ≤ 8 ∧ ∀ j, j < i → tabE l j = 0) (fun i => l.length - i) (0) ?_ ?_ (fun i hi => ?_) <;> (try dsimp only) <;> (try dsimp only at hi))
  | (refine LoopNext.mk1 4 (i + 1) ?_ ?_ ?_ <;> (try dsimp only))
  | (refine q0h ?_; refine subQ ?_)
  | (subst hK)
  | exact trivial
  all_goals try (intros; assumption)
  all_goals try refine q0v ?_
  all_goals try replace hp := q0a hp
  all_goals try replace hi := q0a hi
  all_goals try (intros; first | trivial | omega)
  all_goals (try (rw [w64 (by omega) (by omega)]; first | done | omega))
  all_goals clear hC
  all_goals first
  | omega
  | exact hp.1
  | exact hp.2 i
  | exact (hp.2 i).1
  | exact (hp.2 i).2.1
  | exact (hp.2 i).2.2
  | (rw [qba2 (by assumption)]; done)
  | (rw [q1h hi.2.1 hi.2.2 (by omega) (by rw [qp5 (by assumption)]; assumption), qp5 (by assumption)]; done)
  | (rw [q1h hi.2.1 hi.2.2 (by omega) (by rw [qp6 (by assumption) (by assumption)]; decide), qp6 (by assumption) (by assumption)]; done)
  | (rw [q1i hi.2.1 hi.2.2 (by omega)]; done)
  | exact qes hi.2.2 (qwl (by assumption) (by assumption))
end
noncomputable def cfg37 : Cfg := mkC 8 q7s
theorem qbof : cfg37.pins = [] ∧ cfg37.P = Tryz.prog ∧ cfg37.N = 8 := ⟨rfl, rfl, rfl⟩
section
attribute [local go_sem] qbof
attribute [local go_sem] qc0 qcm q0r q0w qb4 qcl qcn qdu qdz
theorem qbym (hC : COk cfg37) (x : Entry) (n : Int) : Sem Tryz.prog 37 [.d (q0r x), .d (.cp [.i .i64 n])] (.d (.b (decide (x.number ≤ n)))) := by
  refine q0f (C := cfg37) (rs := [.tmp 3]) (fun _ => []) Tryz.func37 rfl rfl rfl rfl rfl rfl ?_
  refine inQ ?_
  repeat' first
  | (with_reducible first | apply q0l | apply q0c | apply AW.seq | apply AW.block | apply AW.skip | apply AW.exit | apply AW.ret | apply q0m | apply q0n | apply q0d | apply q0e | refine q0b rfl ?_ | apply q0o | apply q0p | apply And.intro)
  | (with_reducible refine AW.runK hC ?_; intro K hK)
  | ((with_reducible first | refine q0t ?_ | refine q0k ?_); refine siQ ?_; (try simp (disch := omega) only [w64, wu8]))
  | ((first | refine AW.cond rfl (fun h => ?_) fun h => ?_ | refine AW.cond_ub rfl (fun h => ?_) ?_ | refine AW.cond_nb rfl ?_ fun h => ?_) <;> (try replace h := q0a h) <;> try (exfalso; first | omega | exact absurd h (by decide)))
  | (refine q0h ?_; refine subQ ?_)
  | (subst hK)
  | exact trivial
  all_goals try (intros; assumption)
  all_goals try refine q0v ?_
  all_goals try (intros; first | trivial | omega)
  all_goals (try (rw [w64 (by omega) (by omega)]; first | done | omega))
end
noncomputable def cfg44 : Cfg := mkC 8 q7t
theorem qbog : cfg44.pins = [] ∧ cfg44.P = Tryz.prog ∧ cfg44.N = 8 := ⟨rfl, rfl, rfl⟩
section
attribute [local go_sem] qbog
attribute [local go_sem] qc0 qcm q0r q0w qb4 qcl qcn qdu qdz
theorem qbyn (hC : COk cfg44) (x : Entry) (n : Int) : Sem Tryz.prog 44 [.d (q0r x), .d (.cp [.i .i64 n])] (.d (.b (decide (n ≤ x.number)))) := by
  refine q0f (C := cfg44) (rs := [.tmp 3]) (fun _ => []) Tryz.func44 rfl rfl rfl rfl rfl rfl ?_
  refine inQ ?_
  repeat' first
  | (with_reducible first | apply q0l | apply q0c | apply AW.seq | apply AW.block | apply AW.skip | apply AW.exit | apply AW.ret | apply q0m | apply q0n | apply q0d | apply q0e | refine q0b rfl ?_ | apply q0o | apply q0p | apply And.intro)
  | (with_reducible refine AW.runK hC ?_; intro K hK)
  | ((with_reducible first | refine q0t ?_ | refine q0k ?_); refine siQ ?_; (try simp (disch := omega) only [w64, wu8]))
  | ((first | refine AW.cond rfl (fun h => ?_) fun h => ?_ | refine AW.cond_ub rfl (fun h => ?_) ?_ | refine AW.cond_nb rfl ?_ fun h => ?_) <;> (try replace h := q0a h) <;> try (exfalso; first | omega | exact absurd h (by decide)))
  | (refine q0h ?_; refine subQ ?_)
  | (subst hK)
  | exact trivial
  all_goals try (intros; assumption)
  all_goals try refine q0v ?_
  all_goals try (intros; first | trivial | omega)
  all_goals (try (rw [w64 (by omega) (by omega)]; first | done | omega))
end
noncomputable def cfg34 : Cfg := mkC 23 q7u
theorem qboh : cfg34.pins = [] ∧ cfg34.P = Tryz.prog ∧ cfg34.N = 23 ∧ cfg34.T 61 = e61 ∧ cfg34.T 65 = e65 ∧ cfg34.ti = (fun _ => none) ∧ cfg34.mv = fun _ _ => [] := by and_intros <;> exact rfl
section
attribute [local go_sem] qboh e61 e65
attribute [local go_sem] qc0 qcm q0r q0w qb4 qcl qcn qdu qdz
theorem qbyo (hC : COk cfg34) (ts : List Table) (l : List Entry) (hp : okTs ts ∧ l.length ≤ 1000000) : Sem Tryz.prog 34 [.d (.sl 6 (ts.map q0g)), .d (.sl 8 (l.map q0r))] (.tup [.d (.mp ((chkL ts l).map keyU) ((chkL ts l).map fun u => .cp (qdi u))), .d (.i .i64 (chkE ts l))]) := by
  refine q0f (C := cfg34) (rs := [.tmp 4, .tmp 5]) (fun _ => []) Tryz.func34 rfl rfl rfl rfl rfl rfl ?_
  refine inQ ?_
  repeat' first
  | (with_reducible first | apply q0l | apply q0c | apply AW.seq | apply AW.block | apply AW.skip | apply AW.exit | apply AW.ret | apply q0m | apply q0n | apply q0d | apply q0e | refine q0b rfl ?_ | apply q0o | apply q0p | apply And.intro)
  | (with_reducible refine AW.runK hC ?_; intro K hK)
  | ((with_reducible first | refine q0t ?_ | refine q0k ?_); refine siQ ?_; (try simp (disch := omega) only [w64, wu8]))
  | ((first | refine AW.cond rfl (fun h => ?_) fun h => ?_ | refine AW.cond_ub rfl (fun h => ?_) ?_ | refine AW.cond_nb rfl ?_ fun h => ?_) <;> (try replace h := q0a h) <;> try (exfalso; first | omega | exact absurd h (by decide)))
  | (refine q0h ?_; refine subQ ?_)
  | (subst hK)
  | exact trivial
  all_goals try (intros; assumption)
  all_goals try refine q0v ?_
  all_goals try replace hp := q0a hp
  all_goals try (intros; first | trivial | omega)
  all_goals (try (rw [w64 (by omega) (by omega)]; first | done | omega))
  all_goals clear hC
  all_goals first
  | omega
  | exact hp.1
  | exact hp.2
  | (rw [(qsi (by assumption)).1]; exact q0q _)
  | (rw [(qsi (by assumption)).1]; rfl)
  | (rw [(qsi (by assumption)).2]; done)
  | (rw [(qkp (by assumption)).1]; exact q0q _)
  | (rw [(qkp (by assumption)).2]; done)
  | (rw [(qkp (by assumption)).1]; done)
end
noncomputable def cfg72 : Cfg := ⟨Tryz.prog, 28, (fun _ _ => none), (fun _ _ => []), [0], (fun _ => none)⟩
theorem qboi : cfg72.pins = [0] ∧ cfg72.P = Tryz.prog ∧ cfg72.N = 28 := ⟨rfl, rfl, rfl⟩
section
attribute [local go_sem] qboi
attribute [local go_sem] qea
theorem qbyp (hC : COk cfg72)  (l : List Change) (hp : l.length ≤ 1000000) : SemJ Tryz.prog 72 48 5 (l.map q0u) (l.reverse.map q0u) := by
  refine q7w (C := cfg72) Tryz.func72 rfl rfl (by decide) rfl rfl (qpb l) (qpb _) (by simp) ?_
  simp only [qjn, qlv, qgz, inO, inO2, inO1, inOs, List.append_nil, List.nil_append, Nat.mul_zero, List.cons_append, Nat.zero_add, Nat.reduceAdd, Nat.reduceMul, qbe, qbg, qcg, qc2, qb7, qde, qdo, qei, Int.toNat_natCast, qdd, qd7, qer, qcv, qch, qbn, qb2, decI, List.length_map, nc0, qbf, qbm, q05, qb5, qc8, qds, qbw, qb3, qec, qe9, q06, qbx, qcq, qdc, qb6, qci, qdt, qed, qbp, qc5, qee, qfa, qb1, qbr, qcu, qda, qcs, qeg, qdb, qct, qeh, qc9, qcr, qef, ← List.map_take, ← List.map_drop, List.length_take, qck, Int.toNat_zero, Nat.sub_zero, List.drop_zero, q0g, q0y, qdf, qdy, q0u, q00, qba, qbh, qcy, qcz, List.length_set, Nat.le_refl, qea]
  repeat' first
  | (with_reducible first | apply q0l | apply q0c | apply AW.seq | apply AW.block | apply AW.skip | apply AW.exit | apply AW.ret | apply q0m | apply q0n | apply q0d | apply q0e | refine q0b rfl ?_ | apply q0o | apply q0p | apply And.intro)
  | (refine AW.atR 3 rfl ?_; have hj : ((l.length : Int) - 1 - (i : Int)).toNat = l.length - 1 - i := (by omega); have hl := qk5 l q09 i; have hs := qbfi (l := l) (i := i) (by omega) (by omega))
  | (with_reducible first | (refine AWh.runK hC ?_; intro K hK) | (refine AWh.drawK hC (by kernel_rfl) ?_; intro K hK))
  | (with_reducible first | (refine AW.runK hC ?_; intro K hK) | (refine AW.drawK hC (by kernel_rfl) ?_; intro K hK))
  | ((with_reducible first | refine q0t ?_ | refine qbz ?_ | refine q0k ?_); (first | (simp (maxSteps := 1000000) only [go_sem, ↓reduceIte, reduceCtorEq, Nat.reduceEqDiff, Nat.reduceLT, Nat.reduceLeDiff, Nat.reduceMul, Nat.reduceAdd, Nat.reduceSub, reduceDIte, Nat.reduceBEq, Nat.reduceBNe, hj, hl, hs]) | (refine siQ ?_)); (try simp (disch := omega) only [w64, wu8]))
  | (with_reducible refine qbj (by kernel_rfl) ?_)
  | ((first | refine AW.cond rfl (fun h => ?_) fun h => ?_ | refine AW.cond_ub rfl (fun h => ?_) ?_ | refine AW.cond_nb rfl ?_ fun h => ?_) <;> (try replace h := q0a h) <;> try (exfalso; first | omega | exact absurd h (by decide)))
  | (refine AW.loopN 1 rfl (ι := Nat) (fun i => mkS [(0, V.row 0 5 0 l.length), (2, V.d (.i .i64 (i : Int))), (3, V.d (.i .i64 ((l.length : Int) - 1 - (i : Int))))] ([(0, .live (.row 48 5 false ((qi3 l q09 i).map q0u)))])) (fun i => 2 * i ≤ l.length) (fun i => l.length - 2 * i) (0) ?_ ?_ (fun i hi => ?_) <;> (try dsimp only) <;> (try dsimp only at hi))
  | (refine LoopNext.mk1 1 (i + 1) ?_ ?_ ?_ <;> (try dsimp only))
  | (refine q0h ?_; refine subQ ?_)
  | (subst hK)
  | exact trivial
  all_goals try (intros; assumption)
  all_goals try refine q0v ?_
  all_goals try replace hp := q0a hp
  all_goals try replace hi := q0a hi
  all_goals try replace hj := q0a hj
  all_goals try (intros; first | trivial | omega)
  all_goals (try (rw [w64 (by omega) (by omega)]; first | done | omega))
  all_goals (try have hl := qk5 l q09 i)
  all_goals first
  | omega
  | exact .inl trivial
  | exact .inl rfl
  | exact .inr rfl
  | exact q0q _
  | exact qj3 q7n
  | exact ⟨false, by rw [← qba5 l q09 hi (by omega)]; rfl⟩
end
theorem qbi6 (l : List Change) (h : l.length ≤ 1000000) : SemJ Tryz.prog 72 48 5 (l.map q0u) (l.reverse.map q0u) := qbyp (q0s (TabOk.nil _) follows) l h
noncomputable def cfg36 : Cfg := mkC 43 q7v
theorem qboj : cfg36.pins = [] ∧ cfg36.P = Tryz.prog ∧ cfg36.N = 43 ∧ cfg36.T 71 = e71 ∧ cfg36.T 37 = e37 ∧ cfg36.T 44 = e44 ∧ cfg36.ti = (fun _ => none) ∧ cfg36.mv = fun _ _ => [] := by and_intros <;> exact rfl
section
attribute [local go_sem] qboj e71 e37 e44
attribute [local go_sem] qc0 qcm q0r q0w qb4 qcl qcn qdu qdz qnn List.length_reverse
theorem qbyq (hC : COk cfg36) (l : List Entry) (back : Bool) (w : Want) (hp : l.length ≤ 1000000) : Sem Tryz.prog 36 [.d (.sl 8 (l.map q0r)), .d (.b back), .d (qnn w)] (.d (.sl 5 ((qe7 w back l).map q0u))) := by
  refine q0f (C := cfg36) (rs := [.tmp 6]) (fun _ => []) Tryz.func36 rfl rfl rfl rfl rfl rfl ?_
  refine inQ ?_
  repeat' first
  | (refine AW.turnJ (id := 112) (qbi6 (qev w back (l.take i)) (by have := qn1 (w := w) (back := back) (l := l) (i := i); omega)) ⟨_, Tryz.func72, rfl, rfl⟩ (qpb _) (by simp) (qpb _) rfl rfl rfl rfl rfl rfl (by show _ < 43; decide) (by rw [List.length_map]; rfl) rfl rfl rfl ?_)
  | (with_reducible first | apply q0l | apply q0c | apply AW.seq | apply AW.block | apply AW.skip | apply AW.exit | apply AW.ret | apply q0m | apply q0n | apply q0d | apply q0e | refine q0b rfl ?_ | apply q0o | apply q0p | apply And.intro)
  | (refine AW.atR 5 rfl ?_; obtain ⟨up, n⟩ := w; cases up)
  | (with_reducible first | (refine AWh.runK hC ?_; intro K hK) | (refine AWh.drawK hC (by kernel_rfl) ?_; intro K hK))
  | (with_reducible refine AW.runK hC ?_; intro K hK)
  | ((with_reducible first | refine q0t ?_ | refine q0k ?_); refine siQ ?_; (try simp (disch := omega) only [w64, wu8]))
  | ((first | refine AW.cond rfl (fun h => ?_) fun h => ?_ | refine AW.cond_ub rfl (fun h => ?_) ?_ | refine AW.cond_nb rfl ?_ fun h => ?_) <;> (try replace h := q0a h) <;> try (exfalso; first | omega | exact absurd h (by decide)))
  | (refine AW.loopN 3 rfl (ι := Nat) (fun i => mkS [(1, V.d (.b back)), (2, V.d (qnn w)), (7, V.row 112 5 0 (qev w back (l.take i)).length), (11, V.d (.sl 8 (l.map q0r))), (12, V.d (.i .i64 (l.length : Int))), (13, V.d (.i .i64 (i : Int)))] ([(112, .live (.row 48 5 false ((qev w back (l.take i)).map q0u)))])) (fun i => i ≤ l.length) (fun i => l.length - i) (0) ?_ ?_ (fun i hi => ?_) <;> (try dsimp only) <;> (try dsimp only at hi))
  | (refine LoopNext.mk1 3 (i + 1) ?_ ?_ ?_ <;> (try dsimp only))
  | (refine q0h ?_; refine subQ ?_)
  | (subst hK)
  | exact trivial
  all_goals try (intros; assumption)
  all_goals try refine q0v ?_
  all_goals try replace hp := q0a hp
  all_goals try replace hi := q0a hi
  all_goals try (intros; first | trivial | omega)
  all_goals (try (rw [w64 (by omega) (by omega)]; first | done | omega))
  all_goals clear hC
  all_goals first
  | omega
  | (intro d hd; subst hd; exact ⟨rfl, by simp [D.cells, D.one]⟩)
  | (have := qn1 (w := ⟨true, n⟩) (back := back) (l := l) (i := i); omega)
  | (have := qn1 (w := ⟨false, n⟩) (back := back) (l := l) (i := i); omega)
  | exact q0q _
  | (rw [qo9 (by omega) (by rw [qkq]; omega)]; done)
  | (rw [qo9 (by omega) (by rw [qkq]; omega)]; exact q0q _)
  | (subst h; rw [ql4 (by omega) (by rw [qkq]; omega), List.length_append]; rfl)
  | (subst h; rw [ql4 (by omega) (by rw [qkq]; omega), List.map_append]; exact q0q _)
  | (rw [qo9 (by omega) (by rw [qkr]; omega)]; done)
  | (rw [qo9 (by omega) (by rw [qkr]; omega)]; exact q0q _)
  | (subst h; rw [ql4 (by omega) (by rw [qkr]; omega), List.length_append]; rfl)
  | (subst h; rw [ql4 (by omega) (by rw [qkr]; omega), List.map_append]; exact q0q _)
  | (subst h; rw [qxy (by omega)]; exact q0q _)
  | (subst h; rw [qxz (by omega)]; exact q0q _)
  | (subst h; rw [q7m (by omega)]; exact q0q _)
end
noncomputable def cfg35 : Cfg := mkC 78 q7x
theorem qbok : cfg35.pins = [] ∧ cfg35.P = Tryz.prog ∧ cfg35.N = 78 ∧ cfg35.T 66 = e66 ∧ cfg35.T 67 = e67 ∧ cfg35.T 68 = e68 ∧ cfg35.T 69 = e69 ∧ cfg35.T 70 = e70 ∧ cfg35.ti = (fun _ => none) ∧ cfg35.mv = fun _ _ => [] := by and_intros <;> exact rfl
section
attribute [local go_sem] qbok e66 e67 e68 e69 e70
attribute [local go_sem] qc0 qcm qea List.take_length
theorem qbyr (hC : COk cfg35) (ts : List Table) (cs : List Change) (hp : okTs ts ∧ cs.length ≤ 1000000) : Sem Tryz.prog 35 [.d (.sl 6 (ts.map q0g)), .d (.sl 5 (cs.map q0u))] (.tup [.d (.sl 6 ((qcd ts cs).1.map q0g)), .d (.i .i64 (qcd ts cs).2.1), .d (.i .i64 (qcd ts cs).2.2)]) := by
  have hB : ts.length ≤ 1000000 := hp.1.1
  refine q0f (C := cfg35) (rs := [.tmp 4, .tmp 5, .tmp 6]) (fun _ => []) Tryz.func35 rfl rfl rfl rfl rfl rfl ?_
  refine inQ ?_
  repeat' first
  | (with_reducible first | apply q0l | apply q0c | apply AW.seq | apply AW.block | apply AW.skip | apply AW.exit | apply AW.ret | apply q0m | apply q0n | apply q0d | apply q0e | refine q0b rfl ?_ | apply q0o | apply q0p | apply And.intro)
  | (refine AW.atR 4 rfl ?_; have hg : ∀ z, (ts.map q0g).getD i z = q0g (ts.getD i q0z) := fun z => qgj (by omega) z)
  | (refine AW.atR 8 rfl ?_; refine AWh.mk ?_; refine AW.frzBox 144 [.s (ts.getD i q0z).file.name, .s (ts.getD i q0z).file.format.name, .sl 4 ((ts.getD i q0z).file.format.fields.map q05), .sl 2 ((ts.getD i q0z).file.keys.map q06), .b (ts.getD i q0z).file.unique, .sl 2 ((ts.getD i q0z).records.map qbp)] [416, 528, 608] rfl (by simp (maxSteps := 1000000) only [toDs, toD1, go_sem, ↓reduceIte, reduceCtorEq, Nat.reduceEqDiff, Nat.reduceLT, Nat.reduceLeDiff, Nat.reduceMul, Nat.reduceAdd, Nat.reduceSub, reduceDIte, Nat.reduceBEq, Nat.reduceBNe, qbe, qbg, qcg, qc2, qb7, qde, qdo, qei, Int.toNat_natCast, qdd, qd7, qer, qcv, qch, qbn, qb2, decI, List.length_map, nc0, qbf, qbm, q05, qb5, qc8, qds, qbw, qb3, qec, qe9, q06, qbx, qcq, qdc, qb6, qci, qdt, qed, qbp, qc5, qee, qfa, qb1, qbr, qcu, qda, qcs, qeg, qdb, qct, qeh, qc9, qcr, qef, ← List.map_take, ← List.map_drop, List.length_take, qck, Int.toNat_zero, Nat.sub_zero, List.drop_zero, q0g, q0y, qdf, qdy, q0u, q00, qba, qbh, qcy, qcz, List.length_set, Nat.le_refl, qc0, qcm, q0r, q0w, qb4, qcl, qcn, qdu, qdz]) rfl rfl ?_; simp only [frzL, HS.frz, List.map_cons, List.map_nil, List.contains_cons, List.contains_nil, List.elem_cons, List.elem_nil, Nat.reduceEqDiff, Nat.reduceBEq, Bool.or_false, Bool.false_or, Bool.or_true, Bool.true_or, ↓reduceIte, Bool.false_eq_true]; refine AW.atR 8 rfl ?_)
  | (refine AW.atR 16 rfl ?_; have hb := qks (mTo ts cs k).1 (cs.getD k q09).file; have hg : ∀ z, ((mTo ts cs k).1.map q0g).getD (qbq (mTo ts cs k).1 (cs.getD k q09).file).toNat z = q0g ((mTo ts cs k).1.getD (qbq (mTo ts cs k).1 (cs.getD k q09).file).toNat q0z) := fun z => qgj (by omega) z)
  | (with_reducible first | (refine AWh.runK hC ?_; intro K hK) | (refine AWh.drawK hC (by kernel_rfl) ?_; intro K hK))
  | (with_reducible first | (refine AW.runK hC ?_; intro K hK) | (refine AW.drawK hC (by kernel_rfl) ?_; intro K hK))
  | ((with_reducible first | refine q0t ?_ | refine qbz ?_ | refine q0k ?_); (first | (simp (maxSteps := 1000000) only [go_sem, ↓reduceIte, reduceCtorEq, Nat.reduceEqDiff, Nat.reduceLT, Nat.reduceLeDiff, Nat.reduceMul, Nat.reduceAdd, Nat.reduceSub, reduceDIte, Nat.reduceBEq, Nat.reduceBNe, hg]) | (refine siQ ?_)); (try simp (disch := omega) only [w64, wu8]))
  | (with_reducible refine qbj (by kernel_rfl) ?_)
  | ((first | refine AW.cond rfl (fun h => ?_) fun h => ?_ | refine AW.cond_ub rfl (fun h => ?_) ?_ | refine AW.cond_nb rfl ?_ fun h => ?_) <;> (try replace h := q0a h) <;> try (exfalso; first | omega | exact absurd h (by decide)))
  | (refine AW.loopN 3 rfl (ι := Nat) (fun i => mkS [(1, V.d (.sl 5 (cs.map q0u))), (7, V.row 112 6 0 (ts.take i).length), (16, V.d (.sl 6 (ts.map q0g))), (17, V.d (.i .i64 (ts.length : Int))), (18, V.d (.i .i64 (i : Int)))] ([(112, .live (.row 80 6 false ((ts.take i).map q0g)))])) (fun i => i ≤ ts.length) (fun i => ts.length - i) (0) ?_ ?_ (fun i hi => ?_) <;> (try dsimp only) <;> (try dsimp only at hi))
  | (refine LoopNext.mk1 3 (i + 1) ?_ ?_ ?_ <;> (try dsimp only))
  | (refine AW.loopN 12 rfl (ι := Nat) (fun k => mkS [(7, V.row 112 6 0 (mTo ts cs k).1.length), (10, V.d (.i .i64 (mTo ts cs k).2)), (45, V.d (.sl 5 (cs.map q0u))), (46, V.d (.i .i64 (cs.length : Int))), (47, V.d (.i .i64 (k : Int)))] ([(112, .live (.row 80 6 false ((mTo ts cs k).1.map q0g)))])) (fun k => k ≤ cs.length ∧ ∀ j, j < k → mErr ts cs j = 0) (fun k => cs.length - k) (0) ?_ ?_ (fun k hk => ?_) <;> (try dsimp only) <;> (try dsimp only at hk))
  | (refine LoopNext.mk1 12 (k + 1) ?_ ?_ ?_ <;> (try dsimp only))
  | (refine q0h ?_; refine subQ ?_)
  | (subst hK)
  | exact trivial
  all_goals try (intros; assumption)
  all_goals try refine q0v ?_
  all_goals try replace hp := q0a hp
  all_goals try replace hi := q0a hi
  all_goals try replace hk := q0a hk
  all_goals try (intros; first | trivial | omega)
  all_goals (try (rw [w64 (by omega) (by omega)]; first | done | omega))
  all_goals clear hC
  all_goals (try have OK := qu6 (cs := cs) hp.1 hk.2)
  all_goals (try have CN := qsj ts cs k)
  all_goals (try have LN := ql5 ts cs k)
  all_goals (try simp only [qs8] at *)
  all_goals first
  | omega
  | exact (hp.1.2 i).1
  | exact (hp.1.2 i).2.1
  | exact (hp.1.2 i).2.2
  | exact hp.1.1
  | exact OK.1
  | exact (OK.2 _).1
  | exact (OK.2 _).2.1
  | exact (OK.2 _).2.2
  | (rw [List.take_of_length_le (by omega)]; exact q0q _)
  | (rw [List.take_take, List.take_of_length_le (by omega)]; exact q0q _)
  | (rw [qdw q0z (by omega), List.map_append]; exact q0q _)
  | (intro d hd; subst hd; exact ⟨rfl, by simp [D.cells, D.one]⟩)
  | (rw [qp7 hk.2 (by omega) (by rw [qpa (by omega)]; assumption)]; done)
  | (rw [qp7 hk.2 (by omega) (by rw [qpa (by omega)]; assumption)]; rfl)
  | (rw [qp7 hk.2 (by omega) (by rw [qpa (by omega)]; assumption), qpa (by omega)]; done)
  | exact qes hk.2 (qba4 (by omega))
  | exact qes hk.2 (by rw [qpa (by omega)]; assumption)
  | (have L0 := ql5 ts cs 0; have L1 := ql5 ts cs (k + 1); omega)
  | (have L0 := ql5 ts cs 0; omega)
  | (rw [q1j (by omega)]; done)
  | (rw [q1j (by omega)]; exact q0q _)
  | (rw [qrm (by omega)]; done)
  | (rw [qrm (by omega), w64 (by omega) (by omega)]; done)
  | (rw [qrm (by omega), w64 (by omega) (by omega)]; rfl)
  | (rw [qrm (by omega), List.map_set]; exact q0q _)
  | (rw [qh5 (by assumption), qrm (by omega), List.map_set]; exact q0q _)
  | (rw [qp8 hk.2 (by omega)]; done)
  | (rw [qp8 hk.2 (by omega)]; exact q0q _)
end
noncomputable def cfg10 : Cfg := mkC 53 q7y
theorem qbol : cfg10.pins = [] ∧ cfg10.P = Tryz.prog ∧ cfg10.N = 53 ∧ cfg10.T 34 = e34 ∧ cfg10.T 35 = e35 ∧ cfg10.T 36 = e36 ∧ cfg10.T 37 = e37 ∧ cfg10.ti = (fun _ => none) ∧ cfg10.mv = fun _ _ => [] := by and_intros <;> exact rfl
section
attribute [local go_sem] qbol e34 e35 e36 e37
attribute [local go_sem] qc0 qcm q0r q0w qb4 qcl qcn qdu qdz qnn qpc
theorem qbys (hC : COk cfg10) (ts : List Table) (l : List Entry) (n : Int) (hp : okTs ts ∧ l.length ≤ 1000000) : Sem Tryz.prog 10 [.d (.sl 6 (ts.map q0g)), .d (.sl 8 (l.map q0r)), .d (.i .i64 n)] (.tup [.d (.sl 6 ((qew ts l n).1.map q0g)), .d (.i .i64 (qew ts l n).2.1), .d (.i .i64 (qew ts l n).2.2)]) := by
  refine q0f (C := cfg10) (rs := [.tmp 6, .tmp 7, .tmp 8]) (fun _ => []) Tryz.func10 rfl rfl rfl rfl rfl rfl ?_
  refine inQ ?_
  repeat' first
  | (with_reducible first | apply q0l | apply q0c | apply AW.seq | apply AW.block | apply AW.skip | apply AW.exit | apply AW.ret | apply q0m | apply q0n | apply q0d | apply q0e | refine q0b rfl ?_ | apply q0o | apply q0p | apply And.intro)
  | (refine AW.atR 6 rfl ?_; have hq := (qfj (ts := ts) (l := l) (by assumption)).2; have h0 := qk6 hq (j := 0) (by omega); have h1 := qk6 hq (j := l.length - 1) (by omega); have hj : ((l.length : Int) - 1).toNat = l.length - 1 := (by omega))
  | (with_reducible first | (refine AWh.runK hC ?_; intro K hK) | (refine AWh.drawK hC (by kernel_rfl) ?_; intro K hK))
  | (with_reducible first | (refine AW.runK hC ?_; intro K hK) | (refine AW.drawK hC (by kernel_rfl) ?_; intro K hK))
  | ((with_reducible first | refine q0t ?_ | refine qbz ?_ | refine q0k ?_); (first | (simp (maxSteps := 1000000) only [go_sem, ↓reduceIte, reduceCtorEq, Nat.reduceEqDiff, Nat.reduceLT, Nat.reduceLeDiff, Nat.reduceMul, Nat.reduceAdd, Nat.reduceSub, reduceDIte, Nat.reduceBEq, Nat.reduceBNe, hj]) | (refine siQ ?_)); (try simp (disch := omega) only [w64, wu8]))
  | (with_reducible refine qbj (by kernel_rfl) ?_)
  | ((first | refine AW.cond rfl (fun h => ?_) fun h => ?_ | refine AW.cond_ub rfl (fun h => ?_) ?_ | refine AW.cond_nb rfl ?_ fun h => ?_) <;> (try replace h := q0a h) <;> try (exfalso; first | omega | exact absurd h (by decide)))
  | (refine q0h ?_; refine subQ ?_)
  | (subst hK)
  | exact trivial
  all_goals try (intros; assumption)
  all_goals try refine q0v ?_
  all_goals try replace hp := q0a hp
  all_goals try replace hj := q0a hj
  all_goals try (intros; first | trivial | omega)
  all_goals (try (rw [w64 (by omega) (by omega)]; first | done | omega))
  all_goals clear hC
  all_goals (try have ES := qx2 (l := l) (by omega))
  all_goals (try have EN := qx3 (l := l) (by omega))
  all_goals first
  | omega
  | exact hp.1
  | exact hp.2
  | exact hp.1.1
  | (rw [qmt (by assumption)]; done)
  | (rw [qmt (by assumption)]; rfl)
  | (rw [qmt (by assumption)]; exact q0q _)
  | (rw [qmu (by assumption) (by omega)]; done)
  | (rw [qmu (by assumption) (by omega)]; rfl)
  | (rw [qmu (by assumption) (by omega)]; exact q0q _)
  | (rw [qp9 (by assumption) (by omega)]; done)
  | (rw [qp9 (by assumption) (by omega)]; exact q0q _)
  | (have := qme ⟨true, n⟩ false l; omega)
  | (have := qme ⟨false, n⟩ true l; omega)
end
end Go.Ev
