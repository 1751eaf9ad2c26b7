/- Tools and contracts under the laws of this seat: Dvc43 to Dvc35. -/
import Derived.Test.YtblpebplbdoneaaE03
set_option linter.unusedVariables false
set_option linter.unusedSimpArgs false
namespace Go.Ev
open Go.Proofs Ty
set_option maxRecDepth 10000
set_option maxHeartbeats 4000000
set_option linter.unusedSimpArgs false
set_option linter.unusedVariables false
attribute [local go_sem] erun_nil erun_cons edraw_eq edrun_nil edrun_cons e1_n e1_g guardSlot_eq lkAll_tmp lkAll_nil lkAll_const lkAll_func val_tmp val_const val_func aget getBox_mk getRow_mk liveRow_mk hp_mk eU_move_n eU_assign_n eU_move eU_assign eU_pick eU_alloc eU_box eU_load eU_store eU_nilCheck eU_binOp eU_unOp eU_fieldAddr eU_field eU_indexAddr eU_index eU_build eU_buildSlice eU_slice eU_extract eU_makeFunc eU_builtin eU_call eU_callv V.cells V.one D.one D.cells newObj nm HS.isFree HS.isLive andOk_some andOk_none List.map_cons List.map_nil Option.bind_some Option.bind_none putL List.cons_append List.nil_append thenS_normal thenS_ret thenS_exit inBlockS_normal inBlockS_ret inBlockS_exit true_and and_true justV justO cval Option.map_some Option.map_none loadAt storeAt ldV ldD mkAgg V.asD spliceL List.take_succ_cons List.take_zero List.drop_succ_cons List.drop_zero List.getElem?_cons_zero List.getElem?_cons_succ List.getElem?_nil List.all_cons List.all_nil Bool.and_true Bool.true_and Bool.and_self List.length_cons List.length_nil vals aopCall argsO argO toD3 toD2 toD1 toDs O.ok O.ok2 O.ok1 O.flat O.flat1 D.flat D.flatA inO inO2 inO1 inOs List.filterMap_nil List.filterMap_cons List.filter_nil List.filter_cons List.nodup_nil decide_true decide_false Bool.not_true Bool.not_false not_true_eq_false not_false_eq_true or_false false_or and_false false_and ne_eq List.append_nil optB guardQ guardRes beq_self_eq_true List.mapM_cons List.mapM_nil Option.pure_def Option.bind_eq_bind true_or or_true or_self callHp ite_self not_true not_false_iff ite_true ite_false if_true if_false Bool.false_eq_true Bool.true_eq_false List.any_nil List.any_cons List.contains_nil List.contains_cons eq_self aopAppend builtinV elems aopBin nilEqS nilEqP aopSlice bound natOf lenOf binD intBin unD bindEq eU_makeMap eU_lookup eU_mapUpdate getMp_mk List.range_zero Nat.zero_le Nat.zero_mul Nat.zero_add Nat.add_zero List.length_append List.take_length List.isEmpty_nil List.isEmpty_cons V.neg List.flatMap_nil and_self List.range_succ forall_const implies_true Nat.not_lt_zero exitQ_normal exitQ_ret exitS_eq exitO resVs resV_tmp resV_cell takeRow argCells mvAt dle_same dles_same ole_same ole oles dle dles List.nodup_cons List.mem_cons List.not_mem_nil List.drop_length Nat.le_refl Nat.lt_irrefl id_eq Option.some.injEq Bool.or_false Bool.false_or Bool.or_self Bool.or_true Bool.true_or false_implies Bool.and_false Bool.false_and List.reverse_cons List.reverse_nil sh1 mget1 mget aopLookup aopMapUpdate mapOf msetK msetV Option.isSome_some Option.isSome_none Bool.cond_true_left Bool.cond_false_right Bool.cond_true_right Bool.cond_false_left beq_true beq_false Bool.not_not imp_self guardVal notB strBin aopSliceS buildV argOk D.splice kEq Option.toList_some Option.toList_none adel List.getD_cons_zero List.getD_cons_succ bxIds bxId backHp hget one1 aopCall0 aopTurn

/- midrange/midrangebase.Within -/
noncomputable def cfg43 : Cfg := ⟨Try.prog, 15, (fun _ _ => none), mvs, [], (fun _ => none)⟩
theorem cfg43_pins : cfg43.pins = [] := rfl
theorem cfg43_P : cfg43.P = Try.prog := rfl
theorem cfg43_N : cfg43.N = 15 := rfl
section
attribute [local go_sem] cfg43_P cfg43_N cfg43_pins  sz3 ag3 zr3 zo3 zd3 by3 sl3 st3 bo3 pt3 
theorem con43 (hC : COk cfg43) (n : Int) (least : Int) (most : Int) : Sem Try.prog 43 [.d (.i .i64 n), .d (.i .i64 least), .d (.i .i64 most)] (.d (.b (decide (least ≤ n) && decide (n ≤ most)))) := by
  refine sem_of_awR (C := cfg43) (rs := [.tmp 6]) (fun _ => []) Try.func43 rfl rfl rfl rfl rfl rfl ?_
  simp only [enterSl, enterHp, inO, inO2, inO1, inOs, List.append_nil, List.nil_append, Nat.mul_zero, List.cons_append, Nat.zero_add, Nat.reduceAdd, Nat.reduceMul]
  repeat' first
    | (with_reducible refine thenS_n ?_)
    | (with_reducible refine inBlockS_n ?_)
    | (with_reducible refine AW.seq ?_)
    | (with_reducible refine AW.block ?_)
    | (with_reducible refine AW.runK hC ?_; intro K hK)
    | (with_reducible refine AW.drawK hC (by kernel_rfl) ?_; intro K hK)
    | ((first | (with_reducible refine erun_g ?_) | (with_reducible refine edraw_g ?_) | (with_reducible refine exitS_g ?_)); simp (maxSteps := 1000000) only [go_sem, ↓reduceIte, reduceCtorEq, Nat.reduceEqDiff, Nat.reduceLT, Nat.reduceLeDiff, Nat.reduceMul, Nat.reduceAdd, Nat.reduceSub, reduceDIte, Nat.reduceBEq, Nat.reduceBNe]; (try simp (disch := omega) only [w64, wu8]))
    | (with_reducible refine hCheck_g (by kernel_rfl) ?_)
    | ((first | (refine AW.cond rfl (fun h => ?_) (fun h => ?_)) | (refine AW.cond_ub rfl (fun h => ?_) ?_) | (refine AW.cond_nb rfl ?_ (fun h => ?_))) <;> (try simp only [Bool.or_eq_true, Bool.and_eq_true, Bool.or_eq_false_iff, Bool.and_eq_false_iff, Bool.not_eq_true', Bool.not_eq_false', Bool.not_eq_true, Bool.not_eq_false, decide_eq_true_eq, decide_eq_false_iff_not, beq_iff_eq, bne_iff_ne, beq_eq_false_iff_ne, bne_eq_false_iff_eq, ne_eq, Int.not_lt, Int.not_le, D.b.injEq, D.i.injEq, D.s.injEq, D.agg.injEq, D.sl.injEq, true_and, and_true, List.cons.injEq, gt_iff_lt, ge_iff_le,  Bool.cond_true_left, Bool.cond_false_right, Bool.cond_true_right, Bool.cond_false_left, seq_iff, seq_dec, dec_f, dec_t, eqB_t, eqB_f] at h) <;> (try (exfalso; first | omega | exact absurd h (by decide))))
    | (with_reducible refine AW.skip ?_)
    | (with_reducible refine AW.exit ?_)
    | (with_reducible refine AW.ret ?_)
    | (with_reducible refine thenS_r ?_)
    | (with_reducible refine thenS_e ?_)
    | (with_reducible refine inBlockS_r ?_)
    | (with_reducible refine inBlockS_e ?_)
    | (with_reducible refine inBlockS_e2 rfl ?_)
    | (with_reducible refine exitQ_r ?_)
    | (with_reducible refine exitQ_n ?_)
    | (refine sub_auto ?_; simp (maxSteps := 1000000) only [forall_eq, V.ptr.injEq, V.row.injEq, V.rp.injEq, V.mref.injEq, exists_eq_left', and_assoc, rhoV, rhoVs, rhoSl, rhoO, rhoHp, rhoDd, rho1, HS.obj?, forall_eq', slSub, hpSub, hpSub1, nfL, vs, vss, vds, vd1, os, aget, go_sem, ↓reduceIte, reduceCtorEq, Nat.reduceEqDiff, Nat.reduceLT, Nat.reduceLeDiff, Nat.reduceMul, Nat.reduceAdd, Nat.reduceSub, reduceDIte, Nat.reduceBEq, Nat.reduceBNe])
    | (with_reducible refine And.intro ?_ ?_)
    | (subst hK)
  all_goals (try (intros; assumption))
  all_goals (try simp only [Bool.or_eq_true, Bool.and_eq_true, Bool.or_eq_false_iff, Bool.and_eq_false_iff, Bool.not_eq_true', Bool.not_eq_false', Bool.not_eq_true, Bool.not_eq_false, decide_eq_true_eq, decide_eq_false_iff_not, beq_iff_eq, bne_iff_ne, beq_eq_false_iff_ne, bne_eq_false_iff_eq, ne_eq, Int.not_lt, Int.not_le, D.b.injEq, D.i.injEq, D.s.injEq, D.agg.injEq, D.sl.injEq, true_and, and_true, List.cons.injEq, gt_iff_lt, ge_iff_le,  Bool.cond_true_left, Bool.cond_false_right, Bool.cond_true_right, Bool.cond_false_left, seq_iff, seq_dec, dec_f, dec_t, eqB_t, eqB_f] at *)
  all_goals (try (intros; trivial))
  all_goals (try (intros; omega))
  all_goals (try (rw [w64 (by omega) (by omega)]; first | done | omega))
 
end
/- midrange/journal.within -/
noncomputable def cfg72 : Cfg := ⟨Try.prog, 15, tab43, mvs, [], (fun _ => none)⟩
theorem cfg72_pins : cfg72.pins = [] := rfl
theorem cfg72_P : cfg72.P = Try.prog := rfl
theorem cfg72_N : cfg72.N = 15 := rfl
section
attribute [local go_sem] cfg72_P cfg72_N cfg72_pins  sz3 ag3 zr3 zo3 zd3 by3 sl3 st3 bo3 pt3 
theorem con72 (hC : COk cfg72) (n : Int) (least : Int) (most : Int) : Sem Try.prog 72 [.d (.i .i64 n), .d (.i .i64 least), .d (.i .i64 most)] (.d (.b (decide (least ≤ n) && decide (n ≤ most)))) := by
  refine sem_of_awR (C := cfg72) (rs := [.tmp 6]) (fun _ => []) Try.func72 rfl rfl rfl rfl rfl rfl ?_
  simp only [enterSl, enterHp, inO, inO2, inO1, inOs, List.append_nil, List.nil_append, Nat.mul_zero, List.cons_append, Nat.zero_add, Nat.reduceAdd, Nat.reduceMul]
  repeat' first
    | (with_reducible refine thenS_n ?_)
    | (with_reducible refine inBlockS_n ?_)
    | (with_reducible refine AW.seq ?_)
    | (with_reducible refine AW.block ?_)
    | (with_reducible refine AW.runK hC ?_; intro K hK)
    | (with_reducible refine AW.drawK hC (by kernel_rfl) ?_; intro K hK)
    | ((first | (with_reducible refine erun_g ?_) | (with_reducible refine edraw_g ?_) | (with_reducible refine exitS_g ?_)); simp (maxSteps := 1000000) only [go_sem, ↓reduceIte, reduceCtorEq, Nat.reduceEqDiff, Nat.reduceLT, Nat.reduceLeDiff, Nat.reduceMul, Nat.reduceAdd, Nat.reduceSub, reduceDIte, Nat.reduceBEq, Nat.reduceBNe]; (try simp (disch := omega) only [w64, wu8]))
    | (with_reducible refine hCheck_g (by kernel_rfl) ?_)
    | ((first | (refine AW.cond rfl (fun h => ?_) (fun h => ?_)) | (refine AW.cond_ub rfl (fun h => ?_) ?_) | (refine AW.cond_nb rfl ?_ (fun h => ?_))) <;> (try simp only [Bool.or_eq_true, Bool.and_eq_true, Bool.or_eq_false_iff, Bool.and_eq_false_iff, Bool.not_eq_true', Bool.not_eq_false', Bool.not_eq_true, Bool.not_eq_false, decide_eq_true_eq, decide_eq_false_iff_not, beq_iff_eq, bne_iff_ne, beq_eq_false_iff_ne, bne_eq_false_iff_eq, ne_eq, Int.not_lt, Int.not_le, D.b.injEq, D.i.injEq, D.s.injEq, D.agg.injEq, D.sl.injEq, true_and, and_true, List.cons.injEq, gt_iff_lt, ge_iff_le,  Bool.cond_true_left, Bool.cond_false_right, Bool.cond_true_right, Bool.cond_false_left, seq_iff, seq_dec, dec_f, dec_t, eqB_t, eqB_f] at h) <;> (try (exfalso; first | omega | exact absurd h (by decide))))
    | (with_reducible refine AW.skip ?_)
    | (with_reducible refine AW.exit ?_)
    | (with_reducible refine AW.ret ?_)
    | (with_reducible refine thenS_r ?_)
    | (with_reducible refine thenS_e ?_)
    | (with_reducible refine inBlockS_r ?_)
    | (with_reducible refine inBlockS_e ?_)
    | (with_reducible refine inBlockS_e2 rfl ?_)
    | (with_reducible refine exitQ_r ?_)
    | (with_reducible refine exitQ_n ?_)
    | (refine sub_auto ?_; simp (maxSteps := 1000000) only [forall_eq, V.ptr.injEq, V.row.injEq, V.rp.injEq, V.mref.injEq, exists_eq_left', and_assoc, rhoV, rhoVs, rhoSl, rhoO, rhoHp, rhoDd, rho1, HS.obj?, forall_eq', slSub, hpSub, hpSub1, nfL, vs, vss, vds, vd1, os, aget, go_sem, ↓reduceIte, reduceCtorEq, Nat.reduceEqDiff, Nat.reduceLT, Nat.reduceLeDiff, Nat.reduceMul, Nat.reduceAdd, Nat.reduceSub, reduceDIte, Nat.reduceBEq, Nat.reduceBNe])
    | (with_reducible refine And.intro ?_ ?_)
    | (subst hK)
  all_goals (try (intros; assumption))
  all_goals (try simp only [Bool.or_eq_true, Bool.and_eq_true, Bool.or_eq_false_iff, Bool.and_eq_false_iff, Bool.not_eq_true', Bool.not_eq_false', Bool.not_eq_true, Bool.not_eq_false, decide_eq_true_eq, decide_eq_false_iff_not, beq_iff_eq, bne_iff_ne, beq_eq_false_iff_ne, bne_eq_false_iff_eq, ne_eq, Int.not_lt, Int.not_le, D.b.injEq, D.i.injEq, D.s.injEq, D.agg.injEq, D.sl.injEq, true_and, and_true, List.cons.injEq, gt_iff_lt, ge_iff_le,  Bool.cond_true_left, Bool.cond_false_right, Bool.cond_true_right, Bool.cond_false_left, seq_iff, seq_dec, dec_f, dec_t, eqB_t, eqB_f] at *)
  all_goals (try (intros; trivial))
  all_goals (try (intros; omega))
  all_goals (try (rw [w64 (by omega) (by omega)]; first | done | omega))
 
end
/- midrange/midrangebase.Count -/
noncomputable def cfg56 : Cfg := ⟨Try.prog, 4, tab72, mvs, [], (fun _ => none)⟩
theorem cfg56_pins : cfg56.pins = [] := rfl
theorem cfg56_P : cfg56.P = Try.prog := rfl
theorem cfg56_N : cfg56.N = 4 := rfl
section
attribute [local go_sem] cfg56_P cfg56_N cfg56_pins   
theorem con56 (hC : COk cfg56) (b : Bool) : Sem Try.prog 56 [.d (.b b)] (.d (.i .i64 (if b = true then 1 else 0))) := by
  refine sem_of_awR (C := cfg56) (rs := [.tmp 2]) (fun _ => []) Try.func56 rfl rfl rfl rfl rfl rfl ?_
  simp only [enterSl, enterHp, inO, inO2, inO1, inOs, List.append_nil, List.nil_append, Nat.mul_zero, List.cons_append, Nat.zero_add, Nat.reduceAdd, Nat.reduceMul]
  repeat' first
    | (with_reducible refine thenS_n ?_)
    | (with_reducible refine inBlockS_n ?_)
    | (with_reducible refine AW.seq ?_)
    | (with_reducible refine AW.block ?_)
    | (with_reducible refine AW.runK hC ?_; intro K hK)
    | (with_reducible refine AW.drawK hC (by kernel_rfl) ?_; intro K hK)
    | ((first | (with_reducible refine erun_g ?_) | (with_reducible refine edraw_g ?_) | (with_reducible refine exitS_g ?_)); simp (maxSteps := 1000000) only [go_sem, ↓reduceIte, reduceCtorEq, Nat.reduceEqDiff, Nat.reduceLT, Nat.reduceLeDiff, Nat.reduceMul, Nat.reduceAdd, Nat.reduceSub, reduceDIte, Nat.reduceBEq, Nat.reduceBNe]; (try simp (disch := omega) only [w64, wu8]))
    | (with_reducible refine hCheck_g (by kernel_rfl) ?_)
    | ((first | (refine AW.cond rfl (fun h => ?_) (fun h => ?_)) | (refine AW.cond_ub rfl (fun h => ?_) ?_) | (refine AW.cond_nb rfl ?_ (fun h => ?_))) <;> (try simp only [Bool.or_eq_true, Bool.and_eq_true, Bool.or_eq_false_iff, Bool.and_eq_false_iff, Bool.not_eq_true', Bool.not_eq_false', Bool.not_eq_true, Bool.not_eq_false, decide_eq_true_eq, decide_eq_false_iff_not, beq_iff_eq, bne_iff_ne, beq_eq_false_iff_ne, bne_eq_false_iff_eq, ne_eq, Int.not_lt, Int.not_le, D.b.injEq, D.i.injEq, D.s.injEq, D.agg.injEq, D.sl.injEq, true_and, and_true, List.cons.injEq, gt_iff_lt, ge_iff_le,  Bool.cond_true_left, Bool.cond_false_right, Bool.cond_true_right, Bool.cond_false_left, seq_iff, seq_dec, dec_f, dec_t, eqB_t, eqB_f] at h) <;> (try (exfalso; first | omega | exact absurd h (by decide))))
    | (with_reducible refine AW.skip ?_)
    | (with_reducible refine AW.exit ?_)
    | (with_reducible refine AW.ret ?_)
    | (with_reducible refine thenS_r ?_)
    | (with_reducible refine thenS_e ?_)
    | (with_reducible refine inBlockS_r ?_)
    | (with_reducible refine inBlockS_e ?_)
    | (with_reducible refine inBlockS_e2 rfl ?_)
    | (with_reducible refine exitQ_r ?_)
    | (with_reducible refine exitQ_n ?_)
    | (refine sub_auto ?_; simp (maxSteps := 1000000) only [forall_eq, V.ptr.injEq, V.row.injEq, V.rp.injEq, V.mref.injEq, exists_eq_left', and_assoc, rhoV, rhoVs, rhoSl, rhoO, rhoHp, rhoDd, rho1, HS.obj?, forall_eq', slSub, hpSub, hpSub1, nfL, vs, vss, vds, vd1, os, aget, go_sem, ↓reduceIte, reduceCtorEq, Nat.reduceEqDiff, Nat.reduceLT, Nat.reduceLeDiff, Nat.reduceMul, Nat.reduceAdd, Nat.reduceSub, reduceDIte, Nat.reduceBEq, Nat.reduceBNe])
    | (with_reducible refine And.intro ?_ ?_)
    | (subst hK)
  all_goals (try (intros; assumption))
  all_goals (try simp only [Bool.or_eq_true, Bool.and_eq_true, Bool.or_eq_false_iff, Bool.and_eq_false_iff, Bool.not_eq_true', Bool.not_eq_false', Bool.not_eq_true, Bool.not_eq_false, decide_eq_true_eq, decide_eq_false_iff_not, beq_iff_eq, bne_iff_ne, beq_eq_false_iff_ne, bne_eq_false_iff_eq, ne_eq, Int.not_lt, Int.not_le, D.b.injEq, D.i.injEq, D.s.injEq, D.agg.injEq, D.sl.injEq, true_and, and_true, List.cons.injEq, gt_iff_lt, ge_iff_le,  Bool.cond_true_left, Bool.cond_false_right, Bool.cond_true_right, Bool.cond_false_left, seq_iff, seq_dec, dec_f, dec_t, eqB_t, eqB_f] at *)
  all_goals (try (intros; trivial))
  all_goals (try (intros; omega))
  all_goals (try (rw [w64 (by omega) (by omega)]; first | done | omega))
  all_goals simp [*]

end
/- midrange/midrangebase.IsUpper -/
noncomputable def cfg85 : Cfg := ⟨Try.prog, 9, tab56, mvs, [], (fun _ => none)⟩
theorem cfg85_pins : cfg85.pins = [] := rfl
theorem cfg85_P : cfg85.P = Try.prog := rfl
theorem cfg85_N : cfg85.N = 9 := rfl
section
attribute [local go_sem] cfg85_P cfg85_N cfg85_pins  sz5 ag5 zr5 zo5 zd5 by5 sl5 st5 bo5 pt5 
theorem con85 (hC : COk cfg85) (c : Int) : Sem Try.prog 85 [.d (.i .u8 c)] (.d (.b (decide (65 ≤ c) && decide (c ≤ 90)))) := by
  refine sem_of_awR (C := cfg85) (rs := [.tmp 2]) (fun _ => []) Try.func85 rfl rfl rfl rfl rfl rfl ?_
  simp only [enterSl, enterHp, inO, inO2, inO1, inOs, List.append_nil, List.nil_append, Nat.mul_zero, List.cons_append, Nat.zero_add, Nat.reduceAdd, Nat.reduceMul]
  repeat' first
    | (with_reducible refine thenS_n ?_)
    | (with_reducible refine inBlockS_n ?_)
    | (with_reducible refine AW.seq ?_)
    | (with_reducible refine AW.block ?_)
    | (with_reducible refine AW.runK hC ?_; intro K hK)
    | (with_reducible refine AW.drawK hC (by kernel_rfl) ?_; intro K hK)
    | ((first | (with_reducible refine erun_g ?_) | (with_reducible refine edraw_g ?_) | (with_reducible refine exitS_g ?_)); simp (maxSteps := 1000000) only [go_sem, ↓reduceIte, reduceCtorEq, Nat.reduceEqDiff, Nat.reduceLT, Nat.reduceLeDiff, Nat.reduceMul, Nat.reduceAdd, Nat.reduceSub, reduceDIte, Nat.reduceBEq, Nat.reduceBNe]; (try simp (disch := omega) only [w64, wu8]))
    | (with_reducible refine hCheck_g (by kernel_rfl) ?_)
    | ((first | (refine AW.cond rfl (fun h => ?_) (fun h => ?_)) | (refine AW.cond_ub rfl (fun h => ?_) ?_) | (refine AW.cond_nb rfl ?_ (fun h => ?_))) <;> (try simp only [Bool.or_eq_true, Bool.and_eq_true, Bool.or_eq_false_iff, Bool.and_eq_false_iff, Bool.not_eq_true', Bool.not_eq_false', Bool.not_eq_true, Bool.not_eq_false, decide_eq_true_eq, decide_eq_false_iff_not, beq_iff_eq, bne_iff_ne, beq_eq_false_iff_ne, bne_eq_false_iff_eq, ne_eq, Int.not_lt, Int.not_le, D.b.injEq, D.i.injEq, D.s.injEq, D.agg.injEq, D.sl.injEq, true_and, and_true, List.cons.injEq, gt_iff_lt, ge_iff_le,  Bool.cond_true_left, Bool.cond_false_right, Bool.cond_true_right, Bool.cond_false_left, seq_iff, seq_dec, dec_f, dec_t, eqB_t, eqB_f] at h) <;> (try (exfalso; first | omega | exact absurd h (by decide))))
    | (with_reducible refine AW.skip ?_)
    | (with_reducible refine AW.exit ?_)
    | (with_reducible refine AW.ret ?_)
    | (with_reducible refine thenS_r ?_)
    | (with_reducible refine thenS_e ?_)
    | (with_reducible refine inBlockS_r ?_)
    | (with_reducible refine inBlockS_e ?_)
    | (with_reducible refine inBlockS_e2 rfl ?_)
    | (with_reducible refine exitQ_r ?_)
    | (with_reducible refine exitQ_n ?_)
    | (refine sub_auto ?_; simp (maxSteps := 1000000) only [forall_eq, V.ptr.injEq, V.row.injEq, V.rp.injEq, V.mref.injEq, exists_eq_left', and_assoc, rhoV, rhoVs, rhoSl, rhoO, rhoHp, rhoDd, rho1, HS.obj?, forall_eq', slSub, hpSub, hpSub1, nfL, vs, vss, vds, vd1, os, aget, go_sem, ↓reduceIte, reduceCtorEq, Nat.reduceEqDiff, Nat.reduceLT, Nat.reduceLeDiff, Nat.reduceMul, Nat.reduceAdd, Nat.reduceSub, reduceDIte, Nat.reduceBEq, Nat.reduceBNe])
    | (with_reducible refine And.intro ?_ ?_)
    | (subst hK)
  all_goals (try (intros; assumption))
  all_goals (try simp only [Bool.or_eq_true, Bool.and_eq_true, Bool.or_eq_false_iff, Bool.and_eq_false_iff, Bool.not_eq_true', Bool.not_eq_false', Bool.not_eq_true, Bool.not_eq_false, decide_eq_true_eq, decide_eq_false_iff_not, beq_iff_eq, bne_iff_ne, beq_eq_false_iff_ne, bne_eq_false_iff_eq, ne_eq, Int.not_lt, Int.not_le, D.b.injEq, D.i.injEq, D.s.injEq, D.agg.injEq, D.sl.injEq, true_and, and_true, List.cons.injEq, gt_iff_lt, ge_iff_le,  Bool.cond_true_left, Bool.cond_false_right, Bool.cond_true_right, Bool.cond_false_left, seq_iff, seq_dec, dec_f, dec_t, eqB_t, eqB_f] at *)
  all_goals (try (intros; trivial))
  all_goals (try (intros; omega))
  all_goals (try (rw [w64 (by omega) (by omega)]; first | done | omega))
 
end
/- midrange/midrangebase.IsDigit -/
noncomputable def cfg86 : Cfg := ⟨Try.prog, 9, tab85, mvs, [], (fun _ => none)⟩
theorem cfg86_pins : cfg86.pins = [] := rfl
theorem cfg86_P : cfg86.P = Try.prog := rfl
theorem cfg86_N : cfg86.N = 9 := rfl
section
attribute [local go_sem] cfg86_P cfg86_N cfg86_pins  sz5 ag5 zr5 zo5 zd5 by5 sl5 st5 bo5 pt5 
theorem con86 (hC : COk cfg86) (c : Int) : Sem Try.prog 86 [.d (.i .u8 c)] (.d (.b (decide (48 ≤ c) && decide (c ≤ 57)))) := by
  refine sem_of_awR (C := cfg86) (rs := [.tmp 2]) (fun _ => []) Try.func86 rfl rfl rfl rfl rfl rfl ?_
  simp only [enterSl, enterHp, inO, inO2, inO1, inOs, List.append_nil, List.nil_append, Nat.mul_zero, List.cons_append, Nat.zero_add, Nat.reduceAdd, Nat.reduceMul]
  repeat' first
    | (with_reducible refine thenS_n ?_)
    | (with_reducible refine inBlockS_n ?_)
    | (with_reducible refine AW.seq ?_)
    | (with_reducible refine AW.block ?_)
    | (with_reducible refine AW.runK hC ?_; intro K hK)
    | (with_reducible refine AW.drawK hC (by kernel_rfl) ?_; intro K hK)
    | ((first | (with_reducible refine erun_g ?_) | (with_reducible refine edraw_g ?_) | (with_reducible refine exitS_g ?_)); simp (maxSteps := 1000000) only [go_sem, ↓reduceIte, reduceCtorEq, Nat.reduceEqDiff, Nat.reduceLT, Nat.reduceLeDiff, Nat.reduceMul, Nat.reduceAdd, Nat.reduceSub, reduceDIte, Nat.reduceBEq, Nat.reduceBNe]; (try simp (disch := omega) only [w64, wu8]))
    | (with_reducible refine hCheck_g (by kernel_rfl) ?_)
    | ((first | (refine AW.cond rfl (fun h => ?_) (fun h => ?_)) | (refine AW.cond_ub rfl (fun h => ?_) ?_) | (refine AW.cond_nb rfl ?_ (fun h => ?_))) <;> (try simp only [Bool.or_eq_true, Bool.and_eq_true, Bool.or_eq_false_iff, Bool.and_eq_false_iff, Bool.not_eq_true', Bool.not_eq_false', Bool.not_eq_true, Bool.not_eq_false, decide_eq_true_eq, decide_eq_false_iff_not, beq_iff_eq, bne_iff_ne, beq_eq_false_iff_ne, bne_eq_false_iff_eq, ne_eq, Int.not_lt, Int.not_le, D.b.injEq, D.i.injEq, D.s.injEq, D.agg.injEq, D.sl.injEq, true_and, and_true, List.cons.injEq, gt_iff_lt, ge_iff_le,  Bool.cond_true_left, Bool.cond_false_right, Bool.cond_true_right, Bool.cond_false_left, seq_iff, seq_dec, dec_f, dec_t, eqB_t, eqB_f] at h) <;> (try (exfalso; first | omega | exact absurd h (by decide))))
    | (with_reducible refine AW.skip ?_)
    | (with_reducible refine AW.exit ?_)
    | (with_reducible refine AW.ret ?_)
    | (with_reducible refine thenS_r ?_)
    | (with_reducible refine thenS_e ?_)
    | (with_reducible refine inBlockS_r ?_)
    | (with_reducible refine inBlockS_e ?_)
    | (with_reducible refine inBlockS_e2 rfl ?_)
    | (with_reducible refine exitQ_r ?_)
    | (with_reducible refine exitQ_n ?_)
    | (refine sub_auto ?_; simp (maxSteps := 1000000) only [forall_eq, V.ptr.injEq, V.row.injEq, V.rp.injEq, V.mref.injEq, exists_eq_left', and_assoc, rhoV, rhoVs, rhoSl, rhoO, rhoHp, rhoDd, rho1, HS.obj?, forall_eq', slSub, hpSub, hpSub1, nfL, vs, vss, vds, vd1, os, aget, go_sem, ↓reduceIte, reduceCtorEq, Nat.reduceEqDiff, Nat.reduceLT, Nat.reduceLeDiff, Nat.reduceMul, Nat.reduceAdd, Nat.reduceSub, reduceDIte, Nat.reduceBEq, Nat.reduceBNe])
    | (with_reducible refine And.intro ?_ ?_)
    | (subst hK)
  all_goals (try (intros; assumption))
  all_goals (try simp only [Bool.or_eq_true, Bool.and_eq_true, Bool.or_eq_false_iff, Bool.and_eq_false_iff, Bool.not_eq_true', Bool.not_eq_false', Bool.not_eq_true, Bool.not_eq_false, decide_eq_true_eq, decide_eq_false_iff_not, beq_iff_eq, bne_iff_ne, beq_eq_false_iff_ne, bne_eq_false_iff_eq, ne_eq, Int.not_lt, Int.not_le, D.b.injEq, D.i.injEq, D.s.injEq, D.agg.injEq, D.sl.injEq, true_and, and_true, List.cons.injEq, gt_iff_lt, ge_iff_le,  Bool.cond_true_left, Bool.cond_false_right, Bool.cond_true_right, Bool.cond_false_left, seq_iff, seq_dec, dec_f, dec_t, eqB_t, eqB_f] at *)
  all_goals (try (intros; trivial))
  all_goals (try (intros; omega))
  all_goals (try (rw [w64 (by omega) (by omega)]; first | done | omega))
 
end
/- midrange/midrangebase.IsName -/
noncomputable def cfg68 : Cfg := ⟨Try.prog, 52, tab86, mvs, [], (fun _ => none)⟩
theorem cfg68_ti43 : cfg68.ti 43 = none := rfl
theorem cfg68_ti85 : cfg68.ti 85 = none := rfl
theorem cfg68_ti86 : cfg68.ti 86 = none := rfl
theorem cfg68_pins : cfg68.pins = [] := rfl
theorem cfg68_P : cfg68.P = Try.prog := rfl
theorem cfg68_N : cfg68.N = 52 := rfl
theorem cfg68_T43 : cfg68.T 43 = e43 := rfl
theorem cfg68_mv43 : cfg68.mv 43 = (fun _ => []) := rfl
theorem cfg68_T85 : cfg68.T 85 = e85 := rfl
theorem cfg68_mv85 : cfg68.mv 85 = (fun _ => []) := rfl
theorem cfg68_T86 : cfg68.T 86 = e86 := rfl
theorem cfg68_mv86 : cfg68.mv 86 = (fun _ => []) := rfl
section
attribute [local go_sem] cfg68_P cfg68_N cfg68_pins cfg68_ti43 cfg68_ti85 cfg68_ti86 cfg68_T43 e43 cfg68_mv43 cfg68_T85 e85 cfg68_mv85 cfg68_T86 e86 cfg68_mv86 sz3 ag3 zr3 zo3 zd3 by3 sl3 st3 bo3 pt3 sz4 ag4 zr4 zo4 zd4 by4 sl4 st4 bo4 pt4 sz5 ag5 zr5 zo5 zd5 by5 sl5 st5 bo5 pt5 sz9 ag9 zr9 zo9 zd9 by9 sl9 un9 st9 bo9 pt9 
theorem con68 (hC : COk cfg68) (s : ByteArray) : Sem Try.prog 68 [.d (.s s)] (.d (.b (isName s))) := by
  refine sem_of_awR (C := cfg68) (rs := [.tmp 2]) (fun _ => []) Try.func68 rfl rfl rfl rfl rfl rfl ?_
  simp only [enterSl, enterHp, inO, inO2, inO1, inOs, List.append_nil, List.nil_append, Nat.mul_zero, List.cons_append, Nat.zero_add, Nat.reduceAdd, Nat.reduceMul, Int.toNat_natCast, chr_eq]
  repeat' first
    | (with_reducible refine thenS_n ?_)
    | (with_reducible refine inBlockS_n ?_)
    | (with_reducible refine AW.seq ?_)
    | (with_reducible refine AW.block ?_)
    | (with_reducible refine AW.runK hC ?_; intro K hK)
    | (with_reducible refine AW.drawK hC (by kernel_rfl) ?_; intro K hK)
    | ((first | (with_reducible refine erun_g ?_) | (with_reducible refine edraw_g ?_) | (with_reducible refine exitS_g ?_)); simp (maxSteps := 1000000) only [go_sem, ↓reduceIte, reduceCtorEq, Nat.reduceEqDiff, Nat.reduceLT, Nat.reduceLeDiff, Nat.reduceMul, Nat.reduceAdd, Nat.reduceSub, reduceDIte, Nat.reduceBEq, Nat.reduceBNe, Int.toNat_natCast, chr_eq]; (try simp (disch := omega) only [w64, wu8]))
    | (with_reducible refine hCheck_g (by kernel_rfl) ?_)
    | ((first | (refine AW.cond rfl (fun h => ?_) (fun h => ?_)) | (refine AW.cond_ub rfl (fun h => ?_) ?_) | (refine AW.cond_nb rfl ?_ (fun h => ?_))) <;> (try simp only [Bool.or_eq_true, Bool.and_eq_true, Bool.or_eq_false_iff, Bool.and_eq_false_iff, Bool.not_eq_true', Bool.not_eq_false', Bool.not_eq_true, Bool.not_eq_false, decide_eq_true_eq, decide_eq_false_iff_not, beq_iff_eq, bne_iff_ne, beq_eq_false_iff_ne, bne_eq_false_iff_eq, ne_eq, Int.not_lt, Int.not_le, D.b.injEq, D.i.injEq, D.s.injEq, D.agg.injEq, D.sl.injEq, true_and, and_true, List.cons.injEq, gt_iff_lt, ge_iff_le,  Bool.cond_true_left, Bool.cond_false_right, Bool.cond_true_right, Bool.cond_false_left, seq_iff, seq_dec, dec_f, dec_t, eqB_t, eqB_f] at h) <;> (try (exfalso; first | omega | exact absurd h (by decide))))
    | (with_reducible refine AW.skip ?_)
    | (with_reducible refine AW.exit ?_)
    | (with_reducible refine AW.ret ?_)
    | (with_reducible refine thenS_r ?_)
    | (with_reducible refine thenS_e ?_)
    | (with_reducible refine inBlockS_r ?_)
    | (with_reducible refine inBlockS_e ?_)
    | (with_reducible refine inBlockS_e2 rfl ?_)
    | (with_reducible refine exitQ_r ?_)
    | (with_reducible refine exitQ_n ?_)
    | (refine AW.loopN 4 rfl (ι := Nat) (fun i => mkS [(0, V.d (.s s)), (3, V.d (.i .i64 (i : Int)))] ([])) (fun i => i ≤ s.size ∧ 1 ≤ s.size ∧ s.size ≤ 10 ∧ ∀ j, j < i → nameC (j == 0) (chr s j) = true) (fun i => s.size - i) (0) ?_ ?_ (fun i hi => ?_) <;> (try dsimp only) <;> (try dsimp only at hi))
    | (refine LoopNext.mk1 4 (i + 1) ?_ ?_ ?_ <;> (try dsimp only))
    | (refine sub_auto ?_; simp (maxSteps := 1000000) only [forall_eq, V.ptr.injEq, V.row.injEq, V.rp.injEq, V.mref.injEq, exists_eq_left', and_assoc, rhoV, rhoVs, rhoSl, rhoO, rhoHp, rhoDd, rho1, HS.obj?, forall_eq', slSub, hpSub, hpSub1, nfL, vs, vss, vds, vd1, os, aget, go_sem, ↓reduceIte, reduceCtorEq, Nat.reduceEqDiff, Nat.reduceLT, Nat.reduceLeDiff, Nat.reduceMul, Nat.reduceAdd, Nat.reduceSub, reduceDIte, Nat.reduceBEq, Nat.reduceBNe, Int.toNat_natCast, chr_eq])
    | (with_reducible refine And.intro ?_ ?_)
    | (subst hK)
  all_goals (try (intros; assumption))
  all_goals (try simp only [Bool.or_eq_true, Bool.and_eq_true, Bool.or_eq_false_iff, Bool.and_eq_false_iff, Bool.not_eq_true', Bool.not_eq_false', Bool.not_eq_true, Bool.not_eq_false, decide_eq_true_eq, decide_eq_false_iff_not, beq_iff_eq, bne_iff_ne, beq_eq_false_iff_ne, bne_eq_false_iff_eq, ne_eq, Int.not_lt, Int.not_le, D.b.injEq, D.i.injEq, D.s.injEq, D.agg.injEq, D.sl.injEq, true_and, and_true, List.cons.injEq, gt_iff_lt, ge_iff_le,  Bool.cond_true_left, Bool.cond_false_right, Bool.cond_true_right, Bool.cond_false_left, seq_iff, seq_dec, dec_f, dec_t, eqB_t, eqB_f] at *)
  all_goals (try (intros; trivial))
  all_goals (try (intros; omega))
  all_goals (try (rw [w64 (by omega) (by omega)]; first | done | omega))
  all_goals (try simp only [ba_empty] at *)
  all_goals first
    | omega
    | exact isName_len (by omega)
    | exact isName_no (i := i) (by omega) (by rw [← Bool.not_eq_true, nameC_iff]; omega)
    | exact fun j hj => if e : j < i then hi.2.2.2 j e else by
        have : j = i := by omega
        subst this
        rw [nameC_iff]
        omega
    | exact isName_yes (by omega) (by omega) fun j hj => hi.2.2.2 j (by omega)

end
/- midrange/journal.isName -/
noncomputable def cfg73 : Cfg := ⟨Try.prog, 62, tab68, mvs, [], (fun _ => none)⟩
theorem cfg73_pins : cfg73.pins = [] := rfl
theorem cfg73_P : cfg73.P = Try.prog := rfl
theorem cfg73_N : cfg73.N = 62 := rfl
section
attribute [local go_sem] cfg73_P cfg73_N cfg73_pins  sz3 ag3 zr3 zo3 zd3 by3 sl3 st3 bo3 pt3 sz4 ag4 zr4 zo4 zd4 by4 sl4 st4 bo4 pt4 sz5 ag5 zr5 zo5 zd5 by5 sl5 st5 bo5 pt5 sz9 ag9 zr9 zo9 zd9 by9 sl9 un9 st9 bo9 pt9 
theorem con73 (hC : COk cfg73) (s : ByteArray) : Sem Try.prog 73 [.d (.s s)] (.d (.b (isName s))) := by
  refine sem_of_awR (C := cfg73) (rs := [.tmp 2]) (fun _ => []) Try.func73 rfl rfl rfl rfl rfl rfl ?_
  simp only [enterSl, enterHp, inO, inO2, inO1, inOs, List.append_nil, List.nil_append, Nat.mul_zero, List.cons_append, Nat.zero_add, Nat.reduceAdd, Nat.reduceMul, Int.toNat_natCast, chr_eq]
  repeat' first
    | (with_reducible refine thenS_n ?_)
    | (with_reducible refine inBlockS_n ?_)
    | (with_reducible refine AW.seq ?_)
    | (with_reducible refine AW.block ?_)
    | (with_reducible refine AW.runK hC ?_; intro K hK)
    | (with_reducible refine AW.drawK hC (by kernel_rfl) ?_; intro K hK)
    | ((first | (with_reducible refine erun_g ?_) | (with_reducible refine edraw_g ?_) | (with_reducible refine exitS_g ?_)); simp (maxSteps := 1000000) only [go_sem, ↓reduceIte, reduceCtorEq, Nat.reduceEqDiff, Nat.reduceLT, Nat.reduceLeDiff, Nat.reduceMul, Nat.reduceAdd, Nat.reduceSub, reduceDIte, Nat.reduceBEq, Nat.reduceBNe, Int.toNat_natCast, chr_eq]; (try simp (disch := omega) only [w64, wu8]))
    | (with_reducible refine hCheck_g (by kernel_rfl) ?_)
    | ((first | (refine AW.cond rfl (fun h => ?_) (fun h => ?_)) | (refine AW.cond_ub rfl (fun h => ?_) ?_) | (refine AW.cond_nb rfl ?_ (fun h => ?_))) <;> (try simp only [Bool.or_eq_true, Bool.and_eq_true, Bool.or_eq_false_iff, Bool.and_eq_false_iff, Bool.not_eq_true', Bool.not_eq_false', Bool.not_eq_true, Bool.not_eq_false, decide_eq_true_eq, decide_eq_false_iff_not, beq_iff_eq, bne_iff_ne, beq_eq_false_iff_ne, bne_eq_false_iff_eq, ne_eq, Int.not_lt, Int.not_le, D.b.injEq, D.i.injEq, D.s.injEq, D.agg.injEq, D.sl.injEq, true_and, and_true, List.cons.injEq, gt_iff_lt, ge_iff_le,  Bool.cond_true_left, Bool.cond_false_right, Bool.cond_true_right, Bool.cond_false_left, seq_iff, seq_dec, dec_f, dec_t, eqB_t, eqB_f] at h) <;> (try (exfalso; first | omega | exact absurd h (by decide))))
    | (with_reducible refine AW.skip ?_)
    | (with_reducible refine AW.exit ?_)
    | (with_reducible refine AW.ret ?_)
    | (with_reducible refine thenS_r ?_)
    | (with_reducible refine thenS_e ?_)
    | (with_reducible refine inBlockS_r ?_)
    | (with_reducible refine inBlockS_e ?_)
    | (with_reducible refine inBlockS_e2 rfl ?_)
    | (with_reducible refine exitQ_r ?_)
    | (with_reducible refine exitQ_n ?_)
    | (refine AW.loopN 4 rfl (ι := Nat) (fun i => mkS [(0, V.d (.s s)), (14, V.d (.i .i64 (s.size : Int))), (15, V.d (.i .i64 (i : Int)))] ([])) (fun i => i ≤ s.size ∧ 1 ≤ s.size ∧ s.size ≤ 10 ∧ ∀ j, j < i → nameC (j == 0) (chr s j) = true) (fun i => s.size - i) (0) ?_ ?_ (fun i hi => ?_) <;> (try dsimp only) <;> (try dsimp only at hi))
    | (refine LoopNext.mk1 4 (i + 1) ?_ ?_ ?_ <;> (try dsimp only))
    | (refine sub_auto ?_; simp (maxSteps := 1000000) only [forall_eq, V.ptr.injEq, V.row.injEq, V.rp.injEq, V.mref.injEq, exists_eq_left', and_assoc, rhoV, rhoVs, rhoSl, rhoO, rhoHp, rhoDd, rho1, HS.obj?, forall_eq', slSub, hpSub, hpSub1, nfL, vs, vss, vds, vd1, os, aget, go_sem, ↓reduceIte, reduceCtorEq, Nat.reduceEqDiff, Nat.reduceLT, Nat.reduceLeDiff, Nat.reduceMul, Nat.reduceAdd, Nat.reduceSub, reduceDIte, Nat.reduceBEq, Nat.reduceBNe, Int.toNat_natCast, chr_eq])
    | (with_reducible refine And.intro ?_ ?_)
    | (subst hK)
  all_goals (try (intros; assumption))
  all_goals (try simp only [Bool.or_eq_true, Bool.and_eq_true, Bool.or_eq_false_iff, Bool.and_eq_false_iff, Bool.not_eq_true', Bool.not_eq_false', Bool.not_eq_true, Bool.not_eq_false, decide_eq_true_eq, decide_eq_false_iff_not, beq_iff_eq, bne_iff_ne, beq_eq_false_iff_ne, bne_eq_false_iff_eq, ne_eq, Int.not_lt, Int.not_le, D.b.injEq, D.i.injEq, D.s.injEq, D.agg.injEq, D.sl.injEq, true_and, and_true, List.cons.injEq, gt_iff_lt, ge_iff_le,  Bool.cond_true_left, Bool.cond_false_right, Bool.cond_true_right, Bool.cond_false_left, seq_iff, seq_dec, dec_f, dec_t, eqB_t, eqB_f] at *)
  all_goals (try (intros; trivial))
  all_goals (try (intros; omega))
  all_goals (try (rw [w64 (by omega) (by omega)]; first | done | omega))
  all_goals (try simp only [ba_empty] at *)
  all_goals first
    | omega
    | exact isName_len (by omega)
    | exact isName_no (i := i) (by omega) (by rw [← Bool.not_eq_true, nameC_iff]; omega)
    | exact fun j hj => if e : j < i then hi.2.2.2 j e else by
        have : j = i := by omega
        subst this
        rw [nameC_iff]
        omega
    | exact isName_yes (by omega) (by omega) fun j hj => hi.2.2.2 j (by omega)

end
/- midrange/midrangeref32.changeErr -/
noncomputable def cfg69 : Cfg := ⟨Try.prog, 41, tab73, mvs, [], (fun _ => none)⟩
theorem cfg69_ti43 : cfg69.ti 43 = none := rfl
theorem cfg69_ti56 : cfg69.ti 56 = none := rfl
theorem cfg69_pins : cfg69.pins = [] := rfl
theorem cfg69_P : cfg69.P = Try.prog := rfl
theorem cfg69_N : cfg69.N = 41 := rfl
theorem cfg69_T43 : cfg69.T 43 = e43 := rfl
theorem cfg69_mv43 : cfg69.mv 43 = (fun _ => []) := rfl
theorem cfg69_T56 : cfg69.T 56 = e56 := rfl
theorem cfg69_mv56 : cfg69.mv 56 = (fun _ => []) := rfl
section
attribute [local go_sem] cfg69_P cfg69_N cfg69_pins cfg69_ti43 cfg69_ti56 cfg69_T43 e43 cfg69_mv43 cfg69_T56 e56 cfg69_mv56 sz3 ag3 zr3 zo3 zd3 by3 sl3 st3 bo3 pt3 sz4 ag4 zr4 zo4 zd4 by4 sl4 st4 bo4 pt4 sz9 ag9 zr9 zo9 zd9 by9 sl9 un9 st9 bo9 pt9 sz40 ag40 zr40 zd40 by40 sl40 st40 bo40 pt40 of40_0 fa40_0 of40_1 fa40_1 of40_2 fa40_2 of40_3 fa40_3 of40_4 fa40_4 pl40 ek40 
theorem con69 (hC : COk cfg69) (c : Change) : Sem Try.prog 69 [.d (encChange c)] (.d (.i .i64 (changeErr c))) := by
  refine sem_of_awR (C := cfg69) (rs := [.tmp 2]) (fun _ => []) Try.func69 rfl rfl rfl rfl rfl rfl ?_
  simp only [enterSl, enterHp, inO, inO2, inO1, inOs, List.append_nil, List.nil_append, Nat.mul_zero, List.cons_append, Nat.zero_add, Nat.reduceAdd, Nat.reduceMul, encChange, encEntry, ceqChange, ceqEntry, etaChange, etaEntry, zfChange, zfEntry, decChange, decEntry, seq_dec]
  repeat' first
    | (with_reducible refine thenS_n ?_)
    | (with_reducible refine inBlockS_n ?_)
    | (with_reducible refine AW.seq ?_)
    | (with_reducible refine AW.block ?_)
    | (with_reducible refine AW.runK hC ?_; intro K hK)
    | (with_reducible refine AW.drawK hC (by kernel_rfl) ?_; intro K hK)
    | ((first | (with_reducible refine erun_g ?_) | (with_reducible refine edraw_g ?_) | (with_reducible refine exitS_g ?_)); simp (maxSteps := 1000000) only [go_sem, ↓reduceIte, reduceCtorEq, Nat.reduceEqDiff, Nat.reduceLT, Nat.reduceLeDiff, Nat.reduceMul, Nat.reduceAdd, Nat.reduceSub, reduceDIte, Nat.reduceBEq, Nat.reduceBNe, encChange, encEntry, ceqChange, ceqEntry, etaChange, etaEntry, zfChange, zfEntry, decChange, decEntry, seq_dec]; (try simp (disch := omega) only [w64, wu8]))
    | (with_reducible refine hCheck_g (by kernel_rfl) ?_)
    | ((first | (refine AW.cond rfl (fun h => ?_) (fun h => ?_)) | (refine AW.cond_ub rfl (fun h => ?_) ?_) | (refine AW.cond_nb rfl ?_ (fun h => ?_))) <;> (try simp only [Bool.or_eq_true, Bool.and_eq_true, Bool.or_eq_false_iff, Bool.and_eq_false_iff, Bool.not_eq_true', Bool.not_eq_false', Bool.not_eq_true, Bool.not_eq_false, decide_eq_true_eq, decide_eq_false_iff_not, beq_iff_eq, bne_iff_ne, beq_eq_false_iff_ne, bne_eq_false_iff_eq, ne_eq, Int.not_lt, Int.not_le, D.b.injEq, D.i.injEq, D.s.injEq, D.agg.injEq, D.sl.injEq, true_and, and_true, List.cons.injEq, gt_iff_lt, ge_iff_le,  Bool.cond_true_left, Bool.cond_false_right, Bool.cond_true_right, Bool.cond_false_left, seq_iff, seq_dec, dec_f, dec_t, eqB_t, eqB_f] at h) <;> (try (exfalso; first | omega | exact absurd h (by decide))))
    | (with_reducible refine AW.skip ?_)
    | (with_reducible refine AW.exit ?_)
    | (with_reducible refine AW.ret ?_)
    | (with_reducible refine thenS_r ?_)
    | (with_reducible refine thenS_e ?_)
    | (with_reducible refine inBlockS_r ?_)
    | (with_reducible refine inBlockS_e ?_)
    | (with_reducible refine inBlockS_e2 rfl ?_)
    | (with_reducible refine exitQ_r ?_)
    | (with_reducible refine exitQ_n ?_)
    | (refine sub_auto ?_; simp (maxSteps := 1000000) only [forall_eq, V.ptr.injEq, V.row.injEq, V.rp.injEq, V.mref.injEq, exists_eq_left', and_assoc, rhoV, rhoVs, rhoSl, rhoO, rhoHp, rhoDd, rho1, HS.obj?, forall_eq', slSub, hpSub, hpSub1, nfL, vs, vss, vds, vd1, os, aget, go_sem, ↓reduceIte, reduceCtorEq, Nat.reduceEqDiff, Nat.reduceLT, Nat.reduceLeDiff, Nat.reduceMul, Nat.reduceAdd, Nat.reduceSub, reduceDIte, Nat.reduceBEq, Nat.reduceBNe, encChange, encEntry, ceqChange, ceqEntry, etaChange, etaEntry, zfChange, zfEntry, decChange, decEntry, seq_dec])
    | (with_reducible refine And.intro ?_ ?_)
    | (subst hK)
  all_goals (try (intros; assumption))
  all_goals (try simp only [Bool.or_eq_true, Bool.and_eq_true, Bool.or_eq_false_iff, Bool.and_eq_false_iff, Bool.not_eq_true', Bool.not_eq_false', Bool.not_eq_true, Bool.not_eq_false, decide_eq_true_eq, decide_eq_false_iff_not, beq_iff_eq, bne_iff_ne, beq_eq_false_iff_ne, bne_eq_false_iff_eq, ne_eq, Int.not_lt, Int.not_le, D.b.injEq, D.i.injEq, D.s.injEq, D.agg.injEq, D.sl.injEq, true_and, and_true, List.cons.injEq, gt_iff_lt, ge_iff_le,  Bool.cond_true_left, Bool.cond_false_right, Bool.cond_true_right, Bool.cond_false_left, seq_iff, seq_dec, dec_f, dec_t, eqB_t, eqB_f] at *)
  all_goals (try (intros; trivial))
  all_goals (try (intros; omega))
  all_goals (try (rw [w64 (by omega) (by omega)]; first | done | omega))
  all_goals grind [changeErr]

end
/- midrange/midrangeref32.formErr -/
noncomputable def cfg67 : Cfg := ⟨Try.prog, 38, tab69, mvs, [], (fun _ => none)⟩
theorem cfg67_ti56 : cfg67.ti 56 = none := rfl
theorem cfg67_pins : cfg67.pins = [] := rfl
theorem cfg67_P : cfg67.P = Try.prog := rfl
theorem cfg67_N : cfg67.N = 38 := rfl
theorem cfg67_T56 : cfg67.T 56 = e56 := rfl
theorem cfg67_mv56 : cfg67.mv 56 = (fun _ => []) := rfl
section
attribute [local go_sem] cfg67_P cfg67_N cfg67_pins cfg67_ti56 cfg67_T56 e56 cfg67_mv56 sz3 ag3 zr3 zo3 zd3 by3 sl3 st3 bo3 pt3 sz4 ag4 zr4 zo4 zd4 by4 sl4 st4 bo4 pt4 sz9 ag9 zr9 zo9 zd9 by9 sl9 un9 st9 bo9 pt9 sz40 ag40 zr40 zd40 by40 sl40 st40 bo40 pt40 of40_0 fa40_0 of40_1 fa40_1 of40_2 fa40_2 of40_3 fa40_3 of40_4 fa40_4 pl40 ek40 sz42 ag42 zr42 zd42 by42 sl42 st42 bo42 pt42 of42_0 fa42_0 of42_1 fa42_1 of42_2 fa42_2 of42_3 fa42_3 pl42 ek42 
theorem con67 (hC : COk cfg67) (e : Entry) : Sem Try.prog 67 [.d (encEntry e)] (.d (.i .i64 (formErr e))) := by
  refine sem_of_awR (C := cfg67) (rs := [.tmp 2]) (fun _ => []) Try.func67 rfl rfl rfl rfl rfl rfl ?_
  simp only [enterSl, enterHp, inO, inO2, inO1, inOs, List.append_nil, List.nil_append, Nat.mul_zero, List.cons_append, Nat.zero_add, Nat.reduceAdd, Nat.reduceMul, encChange, encEntry, ceqChange, ceqEntry, etaChange, etaEntry, zfChange, zfEntry, decChange, decEntry, seq_dec]
  repeat' first
    | (with_reducible refine thenS_n ?_)
    | (with_reducible refine inBlockS_n ?_)
    | (with_reducible refine AW.seq ?_)
    | (with_reducible refine AW.block ?_)
    | (with_reducible refine AW.runK hC ?_; intro K hK)
    | (with_reducible refine AW.drawK hC (by kernel_rfl) ?_; intro K hK)
    | ((first | (with_reducible refine erun_g ?_) | (with_reducible refine edraw_g ?_) | (with_reducible refine exitS_g ?_)); simp (maxSteps := 1000000) only [go_sem, ↓reduceIte, reduceCtorEq, Nat.reduceEqDiff, Nat.reduceLT, Nat.reduceLeDiff, Nat.reduceMul, Nat.reduceAdd, Nat.reduceSub, reduceDIte, Nat.reduceBEq, Nat.reduceBNe, encChange, encEntry, ceqChange, ceqEntry, etaChange, etaEntry, zfChange, zfEntry, decChange, decEntry, seq_dec]; (try simp (disch := omega) only [w64, wu8]))
    | (with_reducible refine hCheck_g (by kernel_rfl) ?_)
    | ((first | (refine AW.cond rfl (fun h => ?_) (fun h => ?_)) | (refine AW.cond_ub rfl (fun h => ?_) ?_) | (refine AW.cond_nb rfl ?_ (fun h => ?_))) <;> (try simp only [Bool.or_eq_true, Bool.and_eq_true, Bool.or_eq_false_iff, Bool.and_eq_false_iff, Bool.not_eq_true', Bool.not_eq_false', Bool.not_eq_true, Bool.not_eq_false, decide_eq_true_eq, decide_eq_false_iff_not, beq_iff_eq, bne_iff_ne, beq_eq_false_iff_ne, bne_eq_false_iff_eq, ne_eq, Int.not_lt, Int.not_le, D.b.injEq, D.i.injEq, D.s.injEq, D.agg.injEq, D.sl.injEq, true_and, and_true, List.cons.injEq, gt_iff_lt, ge_iff_le,  Bool.cond_true_left, Bool.cond_false_right, Bool.cond_true_right, Bool.cond_false_left, seq_iff, seq_dec, dec_f, dec_t, eqB_t, eqB_f] at h) <;> (try (exfalso; first | omega | exact absurd h (by decide))))
    | (with_reducible refine AW.skip ?_)
    | (with_reducible refine AW.exit ?_)
    | (with_reducible refine AW.ret ?_)
    | (with_reducible refine thenS_r ?_)
    | (with_reducible refine thenS_e ?_)
    | (with_reducible refine inBlockS_r ?_)
    | (with_reducible refine inBlockS_e ?_)
    | (with_reducible refine inBlockS_e2 rfl ?_)
    | (with_reducible refine exitQ_r ?_)
    | (with_reducible refine exitQ_n ?_)
    | (refine sub_auto ?_; simp (maxSteps := 1000000) only [forall_eq, V.ptr.injEq, V.row.injEq, V.rp.injEq, V.mref.injEq, exists_eq_left', and_assoc, rhoV, rhoVs, rhoSl, rhoO, rhoHp, rhoDd, rho1, HS.obj?, forall_eq', slSub, hpSub, hpSub1, nfL, vs, vss, vds, vd1, os, aget, go_sem, ↓reduceIte, reduceCtorEq, Nat.reduceEqDiff, Nat.reduceLT, Nat.reduceLeDiff, Nat.reduceMul, Nat.reduceAdd, Nat.reduceSub, reduceDIte, Nat.reduceBEq, Nat.reduceBNe, encChange, encEntry, ceqChange, ceqEntry, etaChange, etaEntry, zfChange, zfEntry, decChange, decEntry, seq_dec])
    | (with_reducible refine And.intro ?_ ?_)
    | (subst hK)
  all_goals (try (intros; assumption))
  all_goals (try simp only [Bool.or_eq_true, Bool.and_eq_true, Bool.or_eq_false_iff, Bool.and_eq_false_iff, Bool.not_eq_true', Bool.not_eq_false', Bool.not_eq_true, Bool.not_eq_false, decide_eq_true_eq, decide_eq_false_iff_not, beq_iff_eq, bne_iff_ne, beq_eq_false_iff_ne, bne_eq_false_iff_eq, ne_eq, Int.not_lt, Int.not_le, D.b.injEq, D.i.injEq, D.s.injEq, D.agg.injEq, D.sl.injEq, true_and, and_true, List.cons.injEq, gt_iff_lt, ge_iff_le,  Bool.cond_true_left, Bool.cond_false_right, Bool.cond_true_right, Bool.cond_false_left, seq_iff, seq_dec, dec_f, dec_t, eqB_t, eqB_f] at *)
  all_goals (try (intros; trivial))
  all_goals (try (intros; omega))
  all_goals (try (rw [w64 (by omega) (by omega)]; first | done | omega))
  all_goals simp only [formErr, formUsed, entry_ext, change_ext, zChange, decide_eq_false_iff_not]
  all_goals grind

end
/- midrange/midrangeref32.EntryErr -/
noncomputable def cfg62 : Cfg := ⟨Try.prog, 64, tab67, mvs, [], (fun _ => none)⟩
theorem cfg62_ti43 : cfg62.ti 43 = none := rfl
theorem cfg62_ti56 : cfg62.ti 56 = none := rfl
theorem cfg62_ti67 : cfg62.ti 67 = none := rfl
theorem cfg62_ti68 : cfg62.ti 68 = none := rfl
theorem cfg62_ti69 : cfg62.ti 69 = none := rfl
theorem cfg62_pins : cfg62.pins = [] := rfl
theorem cfg62_P : cfg62.P = Try.prog := rfl
theorem cfg62_N : cfg62.N = 64 := rfl
theorem cfg62_T43 : cfg62.T 43 = e43 := rfl
theorem cfg62_mv43 : cfg62.mv 43 = (fun _ => []) := rfl
theorem cfg62_T56 : cfg62.T 56 = e56 := rfl
theorem cfg62_mv56 : cfg62.mv 56 = (fun _ => []) := rfl
theorem cfg62_T67 : cfg62.T 67 = e67 := rfl
theorem cfg62_mv67 : cfg62.mv 67 = (fun _ => []) := rfl
theorem cfg62_T68 : cfg62.T 68 = e68 := rfl
theorem cfg62_mv68 : cfg62.mv 68 = (fun _ => []) := rfl
theorem cfg62_T69 : cfg62.T 69 = e69 := rfl
theorem cfg62_mv69 : cfg62.mv 69 = (fun _ => []) := rfl
section
attribute [local go_sem] cfg62_P cfg62_N cfg62_pins cfg62_ti43 cfg62_ti56 cfg62_ti67 cfg62_ti68 cfg62_ti69 cfg62_T43 e43 cfg62_mv43 cfg62_T56 e56 cfg62_mv56 cfg62_T67 e67 cfg62_mv67 cfg62_T68 e68 cfg62_mv68 cfg62_T69 e69 cfg62_mv69 sz3 ag3 zr3 zo3 zd3 by3 sl3 st3 bo3 pt3 sz4 ag4 zr4 zo4 zd4 by4 sl4 st4 bo4 pt4 sz9 ag9 zr9 zo9 zd9 by9 sl9 un9 st9 bo9 pt9 sz40 ag40 zr40 zd40 by40 sl40 st40 bo40 pt40 of40_0 fa40_0 of40_1 fa40_1 of40_2 fa40_2 of40_3 fa40_3 of40_4 fa40_4 pl40 ek40 sz42 ag42 zr42 zd42 by42 sl42 st42 bo42 pt42 of42_0 fa42_0 of42_1 fa42_1 of42_2 fa42_2 of42_3 fa42_3 pl42 ek42 
theorem con62 (hC : COk cfg62) (e : Entry) : Sem Try.prog 62 [.d (encEntry e)] (.d (.i .i64 (entryErr e))) := by
  refine sem_of_awR (C := cfg62) (rs := [.tmp 2]) (fun _ => []) Try.func62 rfl rfl rfl rfl rfl rfl ?_
  simp only [enterSl, enterHp, inO, inO2, inO1, inOs, List.append_nil, List.nil_append, Nat.mul_zero, List.cons_append, Nat.zero_add, Nat.reduceAdd, Nat.reduceMul, encChange, encEntry, ceqChange, ceqEntry, etaChange, etaEntry, zfChange, zfEntry, decChange, decEntry, seq_dec]
  repeat' first
    | (with_reducible refine thenS_n ?_)
    | (with_reducible refine inBlockS_n ?_)
    | (with_reducible refine AW.seq ?_)
    | (with_reducible refine AW.block ?_)
    | (with_reducible refine AW.runK hC ?_; intro K hK)
    | (with_reducible refine AW.drawK hC (by kernel_rfl) ?_; intro K hK)
    | ((first | (with_reducible refine erun_g ?_) | (with_reducible refine edraw_g ?_) | (with_reducible refine exitS_g ?_)); simp (maxSteps := 1000000) only [go_sem, ↓reduceIte, reduceCtorEq, Nat.reduceEqDiff, Nat.reduceLT, Nat.reduceLeDiff, Nat.reduceMul, Nat.reduceAdd, Nat.reduceSub, reduceDIte, Nat.reduceBEq, Nat.reduceBNe, encChange, encEntry, ceqChange, ceqEntry, etaChange, etaEntry, zfChange, zfEntry, decChange, decEntry, seq_dec]; (try simp (disch := omega) only [w64, wu8]))
    | (with_reducible refine hCheck_g (by kernel_rfl) ?_)
    | ((first | (refine AW.cond rfl (fun h => ?_) (fun h => ?_)) | (refine AW.cond_ub rfl (fun h => ?_) ?_) | (refine AW.cond_nb rfl ?_ (fun h => ?_))) <;> (try simp only [Bool.or_eq_true, Bool.and_eq_true, Bool.or_eq_false_iff, Bool.and_eq_false_iff, Bool.not_eq_true', Bool.not_eq_false', Bool.not_eq_true, Bool.not_eq_false, decide_eq_true_eq, decide_eq_false_iff_not, beq_iff_eq, bne_iff_ne, beq_eq_false_iff_ne, bne_eq_false_iff_eq, ne_eq, Int.not_lt, Int.not_le, D.b.injEq, D.i.injEq, D.s.injEq, D.agg.injEq, D.sl.injEq, true_and, and_true, List.cons.injEq, gt_iff_lt, ge_iff_le,  Bool.cond_true_left, Bool.cond_false_right, Bool.cond_true_right, Bool.cond_false_left, seq_iff, seq_dec, dec_f, dec_t, eqB_t, eqB_f] at h) <;> (try (exfalso; first | omega | exact absurd h (by decide))))
    | (with_reducible refine AW.skip ?_)
    | (with_reducible refine AW.exit ?_)
    | (with_reducible refine AW.ret ?_)
    | (with_reducible refine thenS_r ?_)
    | (with_reducible refine thenS_e ?_)
    | (with_reducible refine inBlockS_r ?_)
    | (with_reducible refine inBlockS_e ?_)
    | (with_reducible refine inBlockS_e2 rfl ?_)
    | (with_reducible refine exitQ_r ?_)
    | (with_reducible refine exitQ_n ?_)
    | (refine sub_auto ?_; simp (maxSteps := 1000000) only [forall_eq, V.ptr.injEq, V.row.injEq, V.rp.injEq, V.mref.injEq, exists_eq_left', and_assoc, rhoV, rhoVs, rhoSl, rhoO, rhoHp, rhoDd, rho1, HS.obj?, forall_eq', slSub, hpSub, hpSub1, nfL, vs, vss, vds, vd1, os, aget, go_sem, ↓reduceIte, reduceCtorEq, Nat.reduceEqDiff, Nat.reduceLT, Nat.reduceLeDiff, Nat.reduceMul, Nat.reduceAdd, Nat.reduceSub, reduceDIte, Nat.reduceBEq, Nat.reduceBNe, encChange, encEntry, ceqChange, ceqEntry, etaChange, etaEntry, zfChange, zfEntry, decChange, decEntry, seq_dec])
    | (with_reducible refine And.intro ?_ ?_)
    | (subst hK)
  all_goals (try (intros; assumption))
  all_goals (try simp only [Bool.or_eq_true, Bool.and_eq_true, Bool.or_eq_false_iff, Bool.and_eq_false_iff, Bool.not_eq_true', Bool.not_eq_false', Bool.not_eq_true, Bool.not_eq_false, decide_eq_true_eq, decide_eq_false_iff_not, beq_iff_eq, bne_iff_ne, beq_eq_false_iff_ne, bne_eq_false_iff_eq, ne_eq, Int.not_lt, Int.not_le, D.b.injEq, D.i.injEq, D.s.injEq, D.agg.injEq, D.sl.injEq, true_and, and_true, List.cons.injEq, gt_iff_lt, ge_iff_le,  Bool.cond_true_left, Bool.cond_false_right, Bool.cond_true_right, Bool.cond_false_left, seq_iff, seq_dec, dec_f, dec_t, eqB_t, eqB_f] at *)
  all_goals (try (intros; trivial))
  all_goals (try (intros; omega))
  all_goals (try (rw [w64 (by omega) (by omega)]; first | done | omega))
  all_goals grind [entryErr, formErr]

end
/- midrange/journal.CheckEntry -/
noncomputable def cfg64 : Cfg := ⟨Try.prog, 112, tab62, mvs, [], (fun _ => none)⟩
theorem cfg64_ti72 : cfg64.ti 72 = none := rfl
theorem cfg64_ti73 : cfg64.ti 73 = none := rfl
theorem cfg64_pins : cfg64.pins = [] := rfl
theorem cfg64_P : cfg64.P = Try.prog := rfl
theorem cfg64_N : cfg64.N = 112 := rfl
theorem cfg64_T72 : cfg64.T 72 = e72 := rfl
theorem cfg64_mv72 : cfg64.mv 72 = (fun _ => []) := rfl
theorem cfg64_T73 : cfg64.T 73 = e73 := rfl
theorem cfg64_mv73 : cfg64.mv 73 = (fun _ => []) := rfl
section
attribute [local go_sem] cfg64_P cfg64_N cfg64_pins cfg64_ti72 cfg64_ti73 cfg64_T72 e72 cfg64_mv72 cfg64_T73 e73 cfg64_mv73 sz3 ag3 zr3 zo3 zd3 by3 sl3 st3 bo3 pt3 sz4 ag4 zr4 zo4 zd4 by4 sl4 st4 bo4 pt4 sz9 ag9 zr9 zo9 zd9 by9 sl9 un9 st9 bo9 pt9 sz40 ag40 zr40 zd40 by40 sl40 st40 bo40 pt40 of40_0 fa40_0 of40_1 fa40_1 of40_2 fa40_2 of40_3 fa40_3 of40_4 fa40_4 pl40 ek40 sz42 ag42 zr42 zd42 by42 sl42 st42 bo42 pt42 of42_0 fa42_0 of42_1 fa42_1 of42_2 fa42_2 of42_3 fa42_3 pl42 ek42 
set_option maxHeartbeats 2000000 in
theorem con64 (hC : COk cfg64) (e : Entry) : Sem Try.prog 64 [.d (encEntry e)] (.d (.i .i64 (entryErr e))) := by
  refine sem_of_awR (C := cfg64) (rs := [.tmp 2]) (fun _ => []) Try.func64 rfl rfl rfl rfl rfl rfl ?_
  simp only [enterSl, enterHp, inO, inO2, inO1, inOs, List.append_nil, List.nil_append, Nat.mul_zero, List.cons_append, Nat.zero_add, Nat.reduceAdd, Nat.reduceMul, encChange, encEntry, ceqChange, ceqEntry, etaChange, etaEntry, zfChange, zfEntry, decChange, decEntry, seq_dec]
  repeat' first
    | (with_reducible refine thenS_n ?_)
    | (with_reducible refine inBlockS_n ?_)
    | (with_reducible refine AW.seq ?_)
    | (with_reducible refine AW.block ?_)
    | (with_reducible refine AW.runK hC ?_; intro K hK)
    | (with_reducible refine AW.drawK hC (by kernel_rfl) ?_; intro K hK)
    | ((first | (with_reducible refine erun_g ?_) | (with_reducible refine edraw_g ?_) | (with_reducible refine exitS_g ?_)); simp (maxSteps := 1000000) only [go_sem, ↓reduceIte, reduceCtorEq, Nat.reduceEqDiff, Nat.reduceLT, Nat.reduceLeDiff, Nat.reduceMul, Nat.reduceAdd, Nat.reduceSub, reduceDIte, Nat.reduceBEq, Nat.reduceBNe, encChange, encEntry, ceqChange, ceqEntry, etaChange, etaEntry, zfChange, zfEntry, decChange, decEntry, seq_dec]; (try simp (disch := omega) only [w64, wu8]))
    | (with_reducible refine hCheck_g (by kernel_rfl) ?_)
    | ((first | (refine AW.cond rfl (fun h => ?_) (fun h => ?_)) | (refine AW.cond_ub rfl (fun h => ?_) ?_) | (refine AW.cond_nb rfl ?_ (fun h => ?_))) <;> (try simp only [Bool.or_eq_true, Bool.and_eq_true, Bool.or_eq_false_iff, Bool.and_eq_false_iff, Bool.not_eq_true', Bool.not_eq_false', Bool.not_eq_true, Bool.not_eq_false, decide_eq_true_eq, decide_eq_false_iff_not, beq_iff_eq, bne_iff_ne, beq_eq_false_iff_ne, bne_eq_false_iff_eq, ne_eq, Int.not_lt, Int.not_le, D.b.injEq, D.i.injEq, D.s.injEq, D.agg.injEq, D.sl.injEq, true_and, and_true, List.cons.injEq, gt_iff_lt, ge_iff_le,  Bool.cond_true_left, Bool.cond_false_right, Bool.cond_true_right, Bool.cond_false_left, seq_iff, seq_dec, dec_f, dec_t, eqB_t, eqB_f] at h) <;> (try (exfalso; first | omega | exact absurd h (by decide))))
    | (with_reducible refine AW.skip ?_)
    | (with_reducible refine AW.exit ?_)
    | (with_reducible refine AW.ret ?_)
    | (with_reducible refine thenS_r ?_)
    | (with_reducible refine thenS_e ?_)
    | (with_reducible refine inBlockS_r ?_)
    | (with_reducible refine inBlockS_e ?_)
    | (with_reducible refine inBlockS_e2 rfl ?_)
    | (with_reducible refine exitQ_r ?_)
    | (with_reducible refine exitQ_n ?_)
    | (refine sub_auto ?_; simp (maxSteps := 1000000) only [forall_eq, V.ptr.injEq, V.row.injEq, V.rp.injEq, V.mref.injEq, exists_eq_left', and_assoc, rhoV, rhoVs, rhoSl, rhoO, rhoHp, rhoDd, rho1, HS.obj?, forall_eq', slSub, hpSub, hpSub1, nfL, vs, vss, vds, vd1, os, aget, go_sem, ↓reduceIte, reduceCtorEq, Nat.reduceEqDiff, Nat.reduceLT, Nat.reduceLeDiff, Nat.reduceMul, Nat.reduceAdd, Nat.reduceSub, reduceDIte, Nat.reduceBEq, Nat.reduceBNe, encChange, encEntry, ceqChange, ceqEntry, etaChange, etaEntry, zfChange, zfEntry, decChange, decEntry, seq_dec])
    | (with_reducible refine And.intro ?_ ?_)
    | (subst hK)
  all_goals (try (intros; assumption))
  all_goals (try simp only [Bool.or_eq_true, Bool.and_eq_true, Bool.or_eq_false_iff, Bool.and_eq_false_iff, Bool.not_eq_true', Bool.not_eq_false', Bool.not_eq_true, Bool.not_eq_false, decide_eq_true_eq, decide_eq_false_iff_not, beq_iff_eq, bne_iff_ne, beq_eq_false_iff_ne, bne_eq_false_iff_eq, ne_eq, Int.not_lt, Int.not_le, D.b.injEq, D.i.injEq, D.s.injEq, D.agg.injEq, D.sl.injEq, true_and, and_true, List.cons.injEq, gt_iff_lt, ge_iff_le,  Bool.cond_true_left, Bool.cond_false_right, Bool.cond_true_right, Bool.cond_false_left, seq_iff, seq_dec, dec_f, dec_t, eqB_t, eqB_f] at *)
  all_goals (try (intros; trivial))
  all_goals (try (intros; omega))
  all_goals (try (rw [w64 (by omega) (by omega)]; first | done | omega))
  all_goals simp only [entryErr, formUsed, entry_ext, change_ext, decide_eq_false_iff_not, decide_eq_true_eq, zChange, changeErr] at *
  all_goals grind

end
/- midrange/midrangeref35.Few -/
noncomputable def cfg35 : Cfg := ⟨Try.prog, 32, tab64, mvs, [], (fun _ => none)⟩
theorem cfg35_pins : cfg35.pins = [] := rfl
theorem cfg35_P : cfg35.P = Try.prog := rfl
theorem cfg35_N : cfg35.N = 32 := rfl
section
attribute [local go_sem] cfg35_P cfg35_N cfg35_pins  sz3 ag3 zr3 zo3 zd3 by3 sl3 st3 bo3 pt3 sz9 ag9 zr9 zo9 zd9 by9 sl9 un9 st9 bo9 pt9 sz22 ag22 zr22 zo22 zd22 by22 el22 sl22 un22 st22 bo22 pt22 sz40 ag40 zr40 zd40 by40 sl40 st40 bo40 pt40 of40_0 fa40_0 of40_1 fa40_1 of40_2 fa40_2 of40_3 fa40_3 of40_4 fa40_4 pl40 ek40 sz42 ag42 zr42 zd42 by42 sl42 st42 bo42 pt42 of42_0 fa42_0 of42_1 fa42_1 of42_2 fa42_2 of42_3 fa42_3 pl42 ek42 
theorem con35 (hC : COk cfg35) (l : List Entry) : Sem Try.prog 35 [.d (.sl 8 (l.map encEntry))] (.d (.b (few35 l))) := by
  refine sem_of_awR (C := cfg35) (rs := [.tmp 2]) (fun _ => []) Try.func35 rfl rfl rfl rfl rfl rfl ?_
  simp only [enterSl, enterHp, inO, inO2, inO1, inOs, List.append_nil, List.nil_append, Nat.mul_zero, List.cons_append, Nat.zero_add, Nat.reduceAdd, Nat.reduceMul, encChange, encEntry, ceqChange, ceqEntry, etaChange, etaEntry, zfChange, zfEntry, decChange, decEntry, seq_dec, getDz_Entry, dL_Entry, List.length_map, Int.toNat_natCast, Int.toNat_zero, Nat.sub_zero, ← List.map_take, ← List.map_drop, List.length_take, decL_sl, decM_cons, decM_nil, decM_append, take_map_snoc, dM_Entry, dM_Packet, dM_RAct]
  repeat' first
    | (with_reducible refine thenS_n ?_)
    | (with_reducible refine inBlockS_n ?_)
    | (with_reducible refine AW.seq ?_)
    | (with_reducible refine AW.block ?_)
    | (with_reducible refine AW.runK hC ?_; intro K hK)
    | (with_reducible refine AW.drawK hC (by kernel_rfl) ?_; intro K hK)
    | ((first | (with_reducible refine erun_g ?_) | (with_reducible refine edraw_g ?_) | (with_reducible refine exitS_g ?_)); simp (maxSteps := 1000000) only [go_sem, ↓reduceIte, reduceCtorEq, Nat.reduceEqDiff, Nat.reduceLT, Nat.reduceLeDiff, Nat.reduceMul, Nat.reduceAdd, Nat.reduceSub, reduceDIte, Nat.reduceBEq, Nat.reduceBNe, encChange, encEntry, ceqChange, ceqEntry, etaChange, etaEntry, zfChange, zfEntry, decChange, decEntry, seq_dec, getDz_Entry, dL_Entry, List.length_map, Int.toNat_natCast, Int.toNat_zero, Nat.sub_zero, ← List.map_take, ← List.map_drop, List.length_take, decL_sl, decM_cons, decM_nil, decM_append, take_map_snoc, dM_Entry, dM_Packet, dM_RAct]; (try simp (disch := omega) only [w64, wu8]))
    | (with_reducible refine hCheck_g (by kernel_rfl) ?_)
    | ((first | (refine AW.cond rfl (fun h => ?_) (fun h => ?_)) | (refine AW.cond_ub rfl (fun h => ?_) ?_) | (refine AW.cond_nb rfl ?_ (fun h => ?_))) <;> (try simp only [Bool.or_eq_true, Bool.and_eq_true, Bool.or_eq_false_iff, Bool.and_eq_false_iff, Bool.not_eq_true', Bool.not_eq_false', Bool.not_eq_true, Bool.not_eq_false, decide_eq_true_eq, decide_eq_false_iff_not, beq_iff_eq, bne_iff_ne, beq_eq_false_iff_ne, bne_eq_false_iff_eq, ne_eq, Int.not_lt, Int.not_le, D.b.injEq, D.i.injEq, D.s.injEq, D.agg.injEq, D.sl.injEq, true_and, and_true, List.cons.injEq, gt_iff_lt, ge_iff_le,  Bool.cond_true_left, Bool.cond_false_right, Bool.cond_true_right, Bool.cond_false_left, seq_iff, seq_dec, dec_f, dec_t, eqB_t, eqB_f] at h) <;> (try (exfalso; first | omega | exact absurd h (by decide))))
    | (with_reducible refine AW.skip ?_)
    | (with_reducible refine AW.exit ?_)
    | (with_reducible refine AW.ret ?_)
    | (with_reducible refine thenS_r ?_)
    | (with_reducible refine thenS_e ?_)
    | (with_reducible refine inBlockS_r ?_)
    | (with_reducible refine inBlockS_e ?_)
    | (with_reducible refine inBlockS_e2 rfl ?_)
    | (with_reducible refine exitQ_r ?_)
    | (with_reducible refine exitQ_n ?_)
    | (refine AW.loopN 2 rfl (ι := Nat) (fun i => mkS [(0, V.d (.sl 8 (l.map encEntry))), (3, V.d (.i .i64 (i : Int)))] ([])) (fun i => i ≤ l.length ∧ fewGo i (l.drop i) = few35 l) (fun i => l.length - i) (0) ?_ ?_ (fun i hi => ?_) <;> (try dsimp only) <;> (try dsimp only at hi))
    | (refine LoopNext.mk1 2 (i + 1) ?_ ?_ ?_ <;> (try dsimp only))
    | (refine sub_auto ?_; simp (maxSteps := 1000000) only [forall_eq, V.ptr.injEq, V.row.injEq, V.rp.injEq, V.mref.injEq, exists_eq_left', and_assoc, rhoV, rhoVs, rhoSl, rhoO, rhoHp, rhoDd, rho1, HS.obj?, forall_eq', slSub, hpSub, hpSub1, nfL, vs, vss, vds, vd1, os, aget, go_sem, ↓reduceIte, reduceCtorEq, Nat.reduceEqDiff, Nat.reduceLT, Nat.reduceLeDiff, Nat.reduceMul, Nat.reduceAdd, Nat.reduceSub, reduceDIte, Nat.reduceBEq, Nat.reduceBNe, encChange, encEntry, ceqChange, ceqEntry, etaChange, etaEntry, zfChange, zfEntry, decChange, decEntry, seq_dec, getDz_Entry, dL_Entry, List.length_map, Int.toNat_natCast, Int.toNat_zero, Nat.sub_zero, ← List.map_take, ← List.map_drop, List.length_take, decL_sl, decM_cons, decM_nil, decM_append, take_map_snoc, dM_Entry, dM_Packet, dM_RAct])
    | (with_reducible refine And.intro ?_ ?_)
    | (subst hK)
  all_goals (try (intros; assumption))
  all_goals (try simp only [Bool.or_eq_true, Bool.and_eq_true, Bool.or_eq_false_iff, Bool.and_eq_false_iff, Bool.not_eq_true', Bool.not_eq_false', Bool.not_eq_true, Bool.not_eq_false, decide_eq_true_eq, decide_eq_false_iff_not, beq_iff_eq, bne_iff_ne, beq_eq_false_iff_ne, bne_eq_false_iff_eq, ne_eq, Int.not_lt, Int.not_le, D.b.injEq, D.i.injEq, D.s.injEq, D.agg.injEq, D.sl.injEq, true_and, and_true, List.cons.injEq, gt_iff_lt, ge_iff_le,  Bool.cond_true_left, Bool.cond_false_right, Bool.cond_true_right, Bool.cond_false_left, seq_iff, seq_dec, dec_f, dec_t, eqB_t, eqB_f] at *)
  all_goals (try (intros; trivial))
  all_goals (try (intros; omega))
  all_goals (try (rw [w64 (by omega) (by omega)]; first | done | omega))
  all_goals first
    | rfl
    | (rw [← hi.2, drop_getD zEntry (by omega), fewGo]; grind)
    | (rw [← hi.2, List.drop_of_length_le (by omega)]; rfl)
    | (have := hi.2; rw [drop_getD zEntry (by omega), fewGo] at this; grind)

end
end Go.Ev
