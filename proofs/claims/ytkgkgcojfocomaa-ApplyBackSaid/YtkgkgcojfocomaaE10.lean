/- Tools and contracts under the laws of this seat: Dxc34 to Dxc50. -/
import Derived.Test.YtkgkgcojfocomaaE05
set_option linter.unusedVariables false
set_option linter.unusedSimpArgs false
namespace Go.Ev
open Go.Proofs Ty
set_option maxRecDepth 10000
set_option maxHeartbeats 4000000
set_option linter.unusedSimpArgs false
set_option linter.unusedVariables false
attribute [local go_sem] erun_nil erun_cons edraw_eq edrun_nil edrun_cons e1_n e1_g guardSlot_eq lkAll_tmp lkAll_nil lkAll_const lkAll_func val_tmp val_const val_func aget getBox_mk getRow_mk liveRow_mk hp_mk eU_move_n eU_assign_n eU_move eU_assign eU_pick eU_alloc eU_box eU_load eU_store eU_nilCheck eU_binOp eU_unOp eU_fieldAddr eU_field eU_indexAddr eU_index eU_build eU_buildSlice eU_slice eU_extract eU_makeFunc eU_builtin eU_call eU_callv V.cells V.one D.one D.cells newObj nm HS.isFree HS.isLive andOk_some andOk_none List.map_cons List.map_nil Option.bind_some Option.bind_none putL List.cons_append List.nil_append thenS_normal thenS_ret thenS_exit inBlockS_normal inBlockS_ret inBlockS_exit true_and and_true justV justO cval Option.map_some Option.map_none loadAt storeAt ldV ldD mkAgg V.asD spliceL List.take_succ_cons List.take_zero List.drop_succ_cons List.drop_zero List.getElem?_cons_zero List.getElem?_cons_succ List.getElem?_nil List.all_cons List.all_nil Bool.and_true Bool.true_and Bool.and_self List.length_cons List.length_nil vals aopCall argsO argO toD3 toD2 toD1 toDs O.ok O.ok2 O.ok1 O.flat O.flat1 D.flat D.flatA inO inO2 inO1 inOs List.filterMap_nil List.filterMap_cons List.filter_nil List.filter_cons List.nodup_nil decide_true decide_false Bool.not_true Bool.not_false not_true_eq_false not_false_eq_true or_false false_or and_false false_and ne_eq List.append_nil optB guardQ guardRes beq_self_eq_true List.mapM_cons List.mapM_nil Option.pure_def Option.bind_eq_bind true_or or_true or_self callHp ite_self not_true not_false_iff ite_true ite_false if_true if_false Bool.false_eq_true Bool.true_eq_false List.any_nil List.any_cons List.contains_nil List.contains_cons eq_self aopAppend builtinV elems aopBin nilEqS nilEqP aopSlice bound natOf lenOf binD intBin unD bindEq eU_makeMap eU_convert eU_makeSlice aopConv aopMake isShift shiftD eU_lookup eU_mapUpdate getMp_mk List.range_zero Nat.zero_le Nat.zero_mul Nat.zero_add Nat.add_zero List.length_append List.take_length List.isEmpty_nil List.isEmpty_cons V.neg List.flatMap_nil and_self List.range_succ forall_const implies_true Nat.not_lt_zero exitQ_normal exitQ_ret exitS_eq exitO resVs resV_tmp resV_cell takeRow argCells mvAt dle_same dles_same ole_same ole oles dle dles List.nodup_cons List.mem_cons List.not_mem_nil List.drop_length Nat.le_refl Nat.lt_irrefl id_eq Option.some.injEq Bool.or_false Bool.false_or Bool.or_self Bool.or_true Bool.true_or false_implies Bool.and_false Bool.false_and List.reverse_cons List.reverse_nil sh1 mget1 mget aopLookup aopMapUpdate mapOf msetK msetV Option.isSome_some Option.isSome_none Bool.cond_true_left Bool.cond_false_right Bool.cond_true_right Bool.cond_false_left beq_true beq_false Bool.not_not imp_self guardVal notB strBin aopSliceS buildV argOk D.splice kEq Option.toList_some Option.toList_none adel List.getD_cons_zero List.getD_cons_succ bxIds bxId backHp hget one1 aopCall0 aopTurn
noncomputable def cfg34 : Cfg := ⟨Try.prog, 15, (fun _ _ => none), (fun _ _ => []), [], (fun _ => none)⟩
theorem cfg34_pins : cfg34.pins = [] := rfl
theorem cfg34_P : cfg34.P = Try.prog := rfl
theorem cfg34_N : cfg34.N = 15 := rfl
section
attribute [local go_sem] cfg34_P cfg34_N cfg34_pins sz3 ag3 zr3 zo3 zd3 by3 sl3 st3 bo3 pt3 ck3
theorem con34 (hC : COk cfg34) (n : Int) (least : Int) (most : Int) : Sem Try.prog 34 [.d (.i .i64 n), .d (.i .i64 least), .d (.i .i64 most)] (.d (.b (decide (least ≤ n) && decide (n ≤ most)))) := by
  refine sem_of_awR (C := cfg34) (rs := [.tmp 6]) (fun _ => []) Try.func34 rfl rfl rfl rfl rfl rfl ?_
  simp only [enterSl, enterHp, inO, inO2, inO1, inOs, List.append_nil, List.nil_append, Nat.mul_zero, List.cons_append, Nat.zero_add, Nat.reduceAdd, Nat.reduceMul]
  repeat' first
    | (with_reducible first | refine thenS_n ?_ | refine inBlockS_n ?_ | refine AW.seq ?_ | refine AW.block ?_)
    | (with_reducible first | (refine AW.runK hC ?_; intro K hK) | (refine AW.drawK hC (by kernel_rfl) ?_; intro K hK))
    | ((with_reducible first | refine erun_g ?_ | refine edraw_g ?_ | refine exitS_g ?_); refine siQ ?_; (try simp (disch := omega) only [w64, wu8]))
    | (with_reducible refine hCheck_g (by kernel_rfl) ?_)
    | ((first | (refine AW.cond rfl (fun h => ?_) (fun h => ?_)) | (refine AW.cond_ub rfl (fun h => ?_) ?_) | (refine AW.cond_nb rfl ?_ (fun h => ?_))) <;> (try replace h := boolH h) <;> (try (exfalso; first | omega | exact absurd h (by decide))))
    | (with_reducible first | refine AW.skip ?_ | refine AW.exit ?_ | refine AW.ret ?_ | refine thenS_r ?_ | refine thenS_e ?_ | refine inBlockS_r ?_ | refine inBlockS_e ?_ | refine inBlockS_e2 rfl ?_ | refine exitQ_r ?_ | refine exitQ_n ?_)
    | (refine sub_auto ?_; refine subQ ?_)
    | (with_reducible refine And.intro ?_ ?_)
    | (subst hK)
    | exact trivial
  all_goals (try (intros; assumption))
  all_goals (try simp only [Bool.or_eq_true, Bool.and_eq_true, Bool.or_eq_false_iff, Bool.and_eq_false_iff, Bool.not_eq_true', Bool.not_eq_false', Bool.not_eq_true, Bool.not_eq_false, decide_eq_true_eq, decide_eq_false_iff_not, beq_iff_eq, bne_iff_ne, beq_eq_false_iff_ne, bne_eq_false_iff_eq, ne_eq, Int.not_lt, Int.not_le, D.b.injEq, D.i.injEq, D.s.injEq, D.agg.injEq, D.sl.injEq, true_and, and_true, List.cons.injEq, gt_iff_lt, ge_iff_le,  Bool.cond_true_left, Bool.cond_false_right, Bool.cond_true_right, Bool.cond_false_left, seq_iff, seq_dec, dec_f, dec_t, eqB_t, eqB_f] at *)
  all_goals (try (intros; trivial))
  all_goals (try (intros; omega))
  all_goals (try (rw [w64 (by omega) (by omega)]; first | done | omega))
 
end
noncomputable def cfg65 : Cfg := ⟨Try.prog, 15, tab34, (fun _ _ => []), [], (fun _ => none)⟩
theorem cfg65_pins : cfg65.pins = [] := rfl
theorem cfg65_P : cfg65.P = Try.prog := rfl
theorem cfg65_N : cfg65.N = 15 := rfl
section
attribute [local go_sem] cfg65_P cfg65_N cfg65_pins sz3 ag3 zr3 zo3 zd3 by3 sl3 st3 bo3 pt3 ck3
theorem con65 (hC : COk cfg65) (n : Int) (least : Int) (most : Int) : Sem Try.prog 65 [.d (.i .i64 n), .d (.i .i64 least), .d (.i .i64 most)] (.d (.b (decide (least ≤ n) && decide (n ≤ most)))) := by
  refine sem_of_awR (C := cfg65) (rs := [.tmp 6]) (fun _ => []) Try.func65 rfl rfl rfl rfl rfl rfl ?_
  simp only [enterSl, enterHp, inO, inO2, inO1, inOs, List.append_nil, List.nil_append, Nat.mul_zero, List.cons_append, Nat.zero_add, Nat.reduceAdd, Nat.reduceMul]
  repeat' first
    | (with_reducible first | refine thenS_n ?_ | refine inBlockS_n ?_ | refine AW.seq ?_ | refine AW.block ?_)
    | (with_reducible first | (refine AW.runK hC ?_; intro K hK) | (refine AW.drawK hC (by kernel_rfl) ?_; intro K hK))
    | ((with_reducible first | refine erun_g ?_ | refine edraw_g ?_ | refine exitS_g ?_); refine siQ ?_; (try simp (disch := omega) only [w64, wu8]))
    | (with_reducible refine hCheck_g (by kernel_rfl) ?_)
    | ((first | (refine AW.cond rfl (fun h => ?_) (fun h => ?_)) | (refine AW.cond_ub rfl (fun h => ?_) ?_) | (refine AW.cond_nb rfl ?_ (fun h => ?_))) <;> (try replace h := boolH h) <;> (try (exfalso; first | omega | exact absurd h (by decide))))
    | (with_reducible first | refine AW.skip ?_ | refine AW.exit ?_ | refine AW.ret ?_ | refine thenS_r ?_ | refine thenS_e ?_ | refine inBlockS_r ?_ | refine inBlockS_e ?_ | refine inBlockS_e2 rfl ?_ | refine exitQ_r ?_ | refine exitQ_n ?_)
    | (refine sub_auto ?_; refine subQ ?_)
    | (with_reducible refine And.intro ?_ ?_)
    | (subst hK)
    | exact trivial
  all_goals (try (intros; assumption))
  all_goals (try simp only [Bool.or_eq_true, Bool.and_eq_true, Bool.or_eq_false_iff, Bool.and_eq_false_iff, Bool.not_eq_true', Bool.not_eq_false', Bool.not_eq_true, Bool.not_eq_false, decide_eq_true_eq, decide_eq_false_iff_not, beq_iff_eq, bne_iff_ne, beq_eq_false_iff_ne, bne_eq_false_iff_eq, ne_eq, Int.not_lt, Int.not_le, D.b.injEq, D.i.injEq, D.s.injEq, D.agg.injEq, D.sl.injEq, true_and, and_true, List.cons.injEq, gt_iff_lt, ge_iff_le,  Bool.cond_true_left, Bool.cond_false_right, Bool.cond_true_right, Bool.cond_false_left, seq_iff, seq_dec, dec_f, dec_t, eqB_t, eqB_f] at *)
  all_goals (try (intros; trivial))
  all_goals (try (intros; omega))
  all_goals (try (rw [w64 (by omega) (by omega)]; first | done | omega))
 
end
noncomputable def cfg47 : Cfg := ⟨Try.prog, 4, tab65, (fun _ _ => []), [], (fun _ => none)⟩
theorem cfg47_pins : cfg47.pins = [] := rfl
theorem cfg47_P : cfg47.P = Try.prog := rfl
theorem cfg47_N : cfg47.N = 4 := rfl
section
attribute [local go_sem] cfg47_P cfg47_N cfg47_pins
theorem con47 (hC : COk cfg47) (b : Bool) : Sem Try.prog 47 [.d (.b b)] (.d (.i .i64 (if b = true then 1 else 0))) := by
  refine sem_of_awR (C := cfg47) (rs := [.tmp 2]) (fun _ => []) Try.func47 rfl rfl rfl rfl rfl rfl ?_
  simp only [enterSl, enterHp, inO, inO2, inO1, inOs, List.append_nil, List.nil_append, Nat.mul_zero, List.cons_append, Nat.zero_add, Nat.reduceAdd, Nat.reduceMul]
  repeat' first
    | (with_reducible first | refine thenS_n ?_ | refine inBlockS_n ?_ | refine AW.seq ?_ | refine AW.block ?_)
    | (with_reducible first | (refine AW.runK hC ?_; intro K hK) | (refine AW.drawK hC (by kernel_rfl) ?_; intro K hK))
    | ((with_reducible first | refine erun_g ?_ | refine edraw_g ?_ | refine exitS_g ?_); refine siQ ?_; (try simp (disch := omega) only [w64, wu8]))
    | (with_reducible refine hCheck_g (by kernel_rfl) ?_)
    | ((first | (refine AW.cond rfl (fun h => ?_) (fun h => ?_)) | (refine AW.cond_ub rfl (fun h => ?_) ?_) | (refine AW.cond_nb rfl ?_ (fun h => ?_))) <;> (try replace h := boolH h) <;> (try (exfalso; first | omega | exact absurd h (by decide))))
    | (with_reducible first | refine AW.skip ?_ | refine AW.exit ?_ | refine AW.ret ?_ | refine thenS_r ?_ | refine thenS_e ?_ | refine inBlockS_r ?_ | refine inBlockS_e ?_ | refine inBlockS_e2 rfl ?_ | refine exitQ_r ?_ | refine exitQ_n ?_)
    | (refine sub_auto ?_; refine subQ ?_)
    | (with_reducible refine And.intro ?_ ?_)
    | (subst hK)
    | exact trivial
  all_goals (try (intros; assumption))
  all_goals (try simp only [Bool.or_eq_true, Bool.and_eq_true, Bool.or_eq_false_iff, Bool.and_eq_false_iff, Bool.not_eq_true', Bool.not_eq_false', Bool.not_eq_true, Bool.not_eq_false, decide_eq_true_eq, decide_eq_false_iff_not, beq_iff_eq, bne_iff_ne, beq_eq_false_iff_ne, bne_eq_false_iff_eq, ne_eq, Int.not_lt, Int.not_le, D.b.injEq, D.i.injEq, D.s.injEq, D.agg.injEq, D.sl.injEq, true_and, and_true, List.cons.injEq, gt_iff_lt, ge_iff_le,  Bool.cond_true_left, Bool.cond_false_right, Bool.cond_true_right, Bool.cond_false_left, seq_iff, seq_dec, dec_f, dec_t, eqB_t, eqB_f] at *)
  all_goals (try (intros; trivial))
  all_goals (try (intros; omega))
  all_goals (try (rw [w64 (by omega) (by omega)]; first | done | omega))
  all_goals simp [*]
end
noncomputable def cfg52 : Cfg := ⟨Try.prog, 9, tab47, (fun _ _ => []), [], (fun _ => none)⟩
theorem cfg52_pins : cfg52.pins = [] := rfl
theorem cfg52_P : cfg52.P = Try.prog := rfl
theorem cfg52_N : cfg52.N = 9 := rfl
section
attribute [local go_sem] cfg52_P cfg52_N cfg52_pins sz5 ag5 zr5 zo5 zd5 by5 sl5 st5 bo5 pt5 ck5
theorem con52 (hC : COk cfg52) (c : Int) : Sem Try.prog 52 [.d (.i .u8 c)] (.d (.b (decide (65 ≤ c) && decide (c ≤ 90)))) := by
  refine sem_of_awR (C := cfg52) (rs := [.tmp 2]) (fun _ => []) Try.func52 rfl rfl rfl rfl rfl rfl ?_
  simp only [enterSl, enterHp, inO, inO2, inO1, inOs, List.append_nil, List.nil_append, Nat.mul_zero, List.cons_append, Nat.zero_add, Nat.reduceAdd, Nat.reduceMul]
  repeat' first
    | (with_reducible first | refine thenS_n ?_ | refine inBlockS_n ?_ | refine AW.seq ?_ | refine AW.block ?_)
    | (with_reducible first | (refine AW.runK hC ?_; intro K hK) | (refine AW.drawK hC (by kernel_rfl) ?_; intro K hK))
    | ((with_reducible first | refine erun_g ?_ | refine edraw_g ?_ | refine exitS_g ?_); refine siQ ?_; (try simp (disch := omega) only [w64, wu8]))
    | (with_reducible refine hCheck_g (by kernel_rfl) ?_)
    | ((first | (refine AW.cond rfl (fun h => ?_) (fun h => ?_)) | (refine AW.cond_ub rfl (fun h => ?_) ?_) | (refine AW.cond_nb rfl ?_ (fun h => ?_))) <;> (try replace h := boolH h) <;> (try (exfalso; first | omega | exact absurd h (by decide))))
    | (with_reducible first | refine AW.skip ?_ | refine AW.exit ?_ | refine AW.ret ?_ | refine thenS_r ?_ | refine thenS_e ?_ | refine inBlockS_r ?_ | refine inBlockS_e ?_ | refine inBlockS_e2 rfl ?_ | refine exitQ_r ?_ | refine exitQ_n ?_)
    | (refine sub_auto ?_; refine subQ ?_)
    | (with_reducible refine And.intro ?_ ?_)
    | (subst hK)
    | exact trivial
  all_goals (try (intros; assumption))
  all_goals (try simp only [Bool.or_eq_true, Bool.and_eq_true, Bool.or_eq_false_iff, Bool.and_eq_false_iff, Bool.not_eq_true', Bool.not_eq_false', Bool.not_eq_true, Bool.not_eq_false, decide_eq_true_eq, decide_eq_false_iff_not, beq_iff_eq, bne_iff_ne, beq_eq_false_iff_ne, bne_eq_false_iff_eq, ne_eq, Int.not_lt, Int.not_le, D.b.injEq, D.i.injEq, D.s.injEq, D.agg.injEq, D.sl.injEq, true_and, and_true, List.cons.injEq, gt_iff_lt, ge_iff_le,  Bool.cond_true_left, Bool.cond_false_right, Bool.cond_true_right, Bool.cond_false_left, seq_iff, seq_dec, dec_f, dec_t, eqB_t, eqB_f] at *)
  all_goals (try (intros; trivial))
  all_goals (try (intros; omega))
  all_goals (try (rw [w64 (by omega) (by omega)]; first | done | omega))
 
end
noncomputable def cfg53 : Cfg := ⟨Try.prog, 9, tab52, (fun _ _ => []), [], (fun _ => none)⟩
theorem cfg53_pins : cfg53.pins = [] := rfl
theorem cfg53_P : cfg53.P = Try.prog := rfl
theorem cfg53_N : cfg53.N = 9 := rfl
section
attribute [local go_sem] cfg53_P cfg53_N cfg53_pins sz5 ag5 zr5 zo5 zd5 by5 sl5 st5 bo5 pt5 ck5
theorem con53 (hC : COk cfg53) (c : Int) : Sem Try.prog 53 [.d (.i .u8 c)] (.d (.b (decide (48 ≤ c) && decide (c ≤ 57)))) := by
  refine sem_of_awR (C := cfg53) (rs := [.tmp 2]) (fun _ => []) Try.func53 rfl rfl rfl rfl rfl rfl ?_
  simp only [enterSl, enterHp, inO, inO2, inO1, inOs, List.append_nil, List.nil_append, Nat.mul_zero, List.cons_append, Nat.zero_add, Nat.reduceAdd, Nat.reduceMul]
  repeat' first
    | (with_reducible first | refine thenS_n ?_ | refine inBlockS_n ?_ | refine AW.seq ?_ | refine AW.block ?_)
    | (with_reducible first | (refine AW.runK hC ?_; intro K hK) | (refine AW.drawK hC (by kernel_rfl) ?_; intro K hK))
    | ((with_reducible first | refine erun_g ?_ | refine edraw_g ?_ | refine exitS_g ?_); refine siQ ?_; (try simp (disch := omega) only [w64, wu8]))
    | (with_reducible refine hCheck_g (by kernel_rfl) ?_)
    | ((first | (refine AW.cond rfl (fun h => ?_) (fun h => ?_)) | (refine AW.cond_ub rfl (fun h => ?_) ?_) | (refine AW.cond_nb rfl ?_ (fun h => ?_))) <;> (try replace h := boolH h) <;> (try (exfalso; first | omega | exact absurd h (by decide))))
    | (with_reducible first | refine AW.skip ?_ | refine AW.exit ?_ | refine AW.ret ?_ | refine thenS_r ?_ | refine thenS_e ?_ | refine inBlockS_r ?_ | refine inBlockS_e ?_ | refine inBlockS_e2 rfl ?_ | refine exitQ_r ?_ | refine exitQ_n ?_)
    | (refine sub_auto ?_; refine subQ ?_)
    | (with_reducible refine And.intro ?_ ?_)
    | (subst hK)
    | exact trivial
  all_goals (try (intros; assumption))
  all_goals (try simp only [Bool.or_eq_true, Bool.and_eq_true, Bool.or_eq_false_iff, Bool.and_eq_false_iff, Bool.not_eq_true', Bool.not_eq_false', Bool.not_eq_true, Bool.not_eq_false, decide_eq_true_eq, decide_eq_false_iff_not, beq_iff_eq, bne_iff_ne, beq_eq_false_iff_ne, bne_eq_false_iff_eq, ne_eq, Int.not_lt, Int.not_le, D.b.injEq, D.i.injEq, D.s.injEq, D.agg.injEq, D.sl.injEq, true_and, and_true, List.cons.injEq, gt_iff_lt, ge_iff_le,  Bool.cond_true_left, Bool.cond_false_right, Bool.cond_true_right, Bool.cond_false_left, seq_iff, seq_dec, dec_f, dec_t, eqB_t, eqB_f] at *)
  all_goals (try (intros; trivial))
  all_goals (try (intros; omega))
  all_goals (try (rw [w64 (by omega) (by omega)]; first | done | omega))
 
end
noncomputable def cfg33 : Cfg := ⟨Try.prog, 52, tab53, (fun _ _ => []), [], (fun _ => none)⟩
theorem cfg33_ti34 : cfg33.ti 34 = none := rfl
theorem cfg33_ti52 : cfg33.ti 52 = none := rfl
theorem cfg33_ti53 : cfg33.ti 53 = none := rfl
theorem cfg33_pins : cfg33.pins = [] := rfl
theorem cfg33_P : cfg33.P = Try.prog := rfl
theorem cfg33_N : cfg33.N = 52 := rfl
theorem cfg33_T34 : cfg33.T 34 = e34 := rfl
theorem cfg33_mv34 : cfg33.mv 34 = (fun _ => []) := rfl
theorem cfg33_T52 : cfg33.T 52 = e52 := rfl
theorem cfg33_mv52 : cfg33.mv 52 = (fun _ => []) := rfl
theorem cfg33_T53 : cfg33.T 53 = e53 := rfl
theorem cfg33_mv53 : cfg33.mv 53 = (fun _ => []) := rfl
section
attribute [local go_sem] cfg33_P cfg33_N cfg33_pins cfg33_ti34 cfg33_ti52 cfg33_ti53 cfg33_T34 e34 cfg33_mv34 cfg33_T52 e52 cfg33_mv52 cfg33_T53 e53 cfg33_mv53 sz3 ag3 zr3 zo3 zd3 by3 sl3 st3 bo3 pt3 ck3 sz4 ag4 zr4 zo4 zd4 by4 sl4 st4 bo4 pt4 sz5 ag5 zr5 zo5 zd5 by5 sl5 st5 bo5 pt5 ck5 sz9 ag9 zr9 zo9 zd9 by9 sl9 un9 st9 bo9 pt9 ck9
attribute [local go_sem] Int.toNat_natCast chr_eq
theorem con33 (hC : COk cfg33) (s : ByteArray) : Sem Try.prog 33 [.d (.s s)] (.d (.b (isName s))) := by
  refine sem_of_awR (C := cfg33) (rs := [.tmp 2]) (fun _ => []) Try.func33 rfl rfl rfl rfl rfl rfl ?_
  simp only [enterSl, enterHp, inO, inO2, inO1, inOs, List.append_nil, List.nil_append, Nat.mul_zero, List.cons_append, Nat.zero_add, Nat.reduceAdd, Nat.reduceMul]
  repeat' first
    | (with_reducible first | refine thenS_n ?_ | refine inBlockS_n ?_ | refine AW.seq ?_ | refine AW.block ?_)
    | (with_reducible first | (refine AW.runK hC ?_; intro K hK) | (refine AW.drawK hC (by kernel_rfl) ?_; intro K hK))
    | ((with_reducible first | refine erun_g ?_ | refine edraw_g ?_ | refine exitS_g ?_); refine siQ ?_; (try simp (disch := omega) only [w64, wu8]))
    | (with_reducible refine hCheck_g (by kernel_rfl) ?_)
    | ((first | (refine AW.cond rfl (fun h => ?_) (fun h => ?_)) | (refine AW.cond_ub rfl (fun h => ?_) ?_) | (refine AW.cond_nb rfl ?_ (fun h => ?_))) <;> (try replace h := boolH h) <;> (try (exfalso; first | omega | exact absurd h (by decide))))
    | (with_reducible first | refine AW.skip ?_ | refine AW.exit ?_ | refine AW.ret ?_ | refine thenS_r ?_ | refine thenS_e ?_ | refine inBlockS_r ?_ | refine inBlockS_e ?_ | refine inBlockS_e2 rfl ?_ | refine exitQ_r ?_ | refine exitQ_n ?_)
    | (refine AW.loopN 4 rfl (ι := Nat) (fun i => mkS [(0, V.d (.s s)), (3, V.d (.i .i64 (i : Int)))] ([])) (fun i => i ≤ s.size ∧ 1 ≤ s.size ∧ s.size ≤ 10 ∧ ∀ j, j < i → nameC (j == 0) (chr s j) = true) (fun i => s.size - i) (0) ?_ ?_ (fun i hi => ?_) <;> (try dsimp only) <;> (try dsimp only at hi))
    | (refine LoopNext.mk1 4 (i + 1) ?_ ?_ ?_ <;> (try dsimp only))
    | (refine sub_auto ?_; refine subQ ?_)
    | (with_reducible refine And.intro ?_ ?_)
    | (subst hK)
    | exact trivial
  all_goals (try (intros; assumption))
  all_goals (try simp only [Bool.or_eq_true, Bool.and_eq_true, Bool.or_eq_false_iff, Bool.and_eq_false_iff, Bool.not_eq_true', Bool.not_eq_false', Bool.not_eq_true, Bool.not_eq_false, decide_eq_true_eq, decide_eq_false_iff_not, beq_iff_eq, bne_iff_ne, beq_eq_false_iff_ne, bne_eq_false_iff_eq, ne_eq, Int.not_lt, Int.not_le, D.b.injEq, D.i.injEq, D.s.injEq, D.agg.injEq, D.sl.injEq, true_and, and_true, List.cons.injEq, gt_iff_lt, ge_iff_le,  Bool.cond_true_left, Bool.cond_false_right, Bool.cond_true_right, Bool.cond_false_left, seq_iff, seq_dec, dec_f, dec_t, eqB_t, eqB_f] at *)
  all_goals (try (intros; trivial))
  all_goals (try (intros; omega))
  all_goals (try (rw [w64 (by omega) (by omega)]; first | done | omega))
  all_goals (try simp only [ba_empty] at *)
  all_goals first
    | omega
    | exact isName_len (by omega)
    | exact isName_no (i := i) (by omega) (by rw [← Bool.not_eq_true, nameC_iff]; omega)
    | exact fun j hj => if e : j < i then hi.2.2.2 j e else by
        have : j = i := by omega
        subst this
        rw [nameC_iff]
        omega
    | exact isName_yes (by omega) (by omega) fun j hj => hi.2.2.2 j (by omega)
end
noncomputable def cfg66 : Cfg := ⟨Try.prog, 62, tab33, (fun _ _ => []), [], (fun _ => none)⟩
theorem cfg66_pins : cfg66.pins = [] := rfl
theorem cfg66_P : cfg66.P = Try.prog := rfl
theorem cfg66_N : cfg66.N = 62 := rfl
section
attribute [local go_sem] cfg66_P cfg66_N cfg66_pins sz3 ag3 zr3 zo3 zd3 by3 sl3 st3 bo3 pt3 ck3 sz4 ag4 zr4 zo4 zd4 by4 sl4 st4 bo4 pt4 sz5 ag5 zr5 zo5 zd5 by5 sl5 st5 bo5 pt5 ck5 sz9 ag9 zr9 zo9 zd9 by9 sl9 un9 st9 bo9 pt9 ck9
attribute [local go_sem] Int.toNat_natCast chr_eq
theorem con66 (hC : COk cfg66) (s : ByteArray) : Sem Try.prog 66 [.d (.s s)] (.d (.b (isName s))) := by
  refine sem_of_awR (C := cfg66) (rs := [.tmp 2]) (fun _ => []) Try.func66 rfl rfl rfl rfl rfl rfl ?_
  simp only [enterSl, enterHp, inO, inO2, inO1, inOs, List.append_nil, List.nil_append, Nat.mul_zero, List.cons_append, Nat.zero_add, Nat.reduceAdd, Nat.reduceMul]
  repeat' first
    | (with_reducible first | refine thenS_n ?_ | refine inBlockS_n ?_ | refine AW.seq ?_ | refine AW.block ?_)
    | (with_reducible first | (refine AW.runK hC ?_; intro K hK) | (refine AW.drawK hC (by kernel_rfl) ?_; intro K hK))
    | ((with_reducible first | refine erun_g ?_ | refine edraw_g ?_ | refine exitS_g ?_); refine siQ ?_; (try simp (disch := omega) only [w64, wu8]))
    | (with_reducible refine hCheck_g (by kernel_rfl) ?_)
    | ((first | (refine AW.cond rfl (fun h => ?_) (fun h => ?_)) | (refine AW.cond_ub rfl (fun h => ?_) ?_) | (refine AW.cond_nb rfl ?_ (fun h => ?_))) <;> (try replace h := boolH h) <;> (try (exfalso; first | omega | exact absurd h (by decide))))
    | (with_reducible first | refine AW.skip ?_ | refine AW.exit ?_ | refine AW.ret ?_ | refine thenS_r ?_ | refine thenS_e ?_ | refine inBlockS_r ?_ | refine inBlockS_e ?_ | refine inBlockS_e2 rfl ?_ | refine exitQ_r ?_ | refine exitQ_n ?_)
    | (refine AW.loopN 4 rfl (ι := Nat) (fun i => mkS [(0, V.d (.s s)), (14, V.d (.i .i64 (s.size : Int))), (15, V.d (.i .i64 (i : Int)))] ([])) (fun i => i ≤ s.size ∧ 1 ≤ s.size ∧ s.size ≤ 10 ∧ ∀ j, j < i → nameC (j == 0) (chr s j) = true) (fun i => s.size - i) (0) ?_ ?_ (fun i hi => ?_) <;> (try dsimp only) <;> (try dsimp only at hi))
    | (refine LoopNext.mk1 4 (i + 1) ?_ ?_ ?_ <;> (try dsimp only))
    | (refine sub_auto ?_; refine subQ ?_)
    | (with_reducible refine And.intro ?_ ?_)
    | (subst hK)
    | exact trivial
  all_goals (try (intros; assumption))
  all_goals (try simp only [Bool.or_eq_true, Bool.and_eq_true, Bool.or_eq_false_iff, Bool.and_eq_false_iff, Bool.not_eq_true', Bool.not_eq_false', Bool.not_eq_true, Bool.not_eq_false, decide_eq_true_eq, decide_eq_false_iff_not, beq_iff_eq, bne_iff_ne, beq_eq_false_iff_ne, bne_eq_false_iff_eq, ne_eq, Int.not_lt, Int.not_le, D.b.injEq, D.i.injEq, D.s.injEq, D.agg.injEq, D.sl.injEq, true_and, and_true, List.cons.injEq, gt_iff_lt, ge_iff_le,  Bool.cond_true_left, Bool.cond_false_right, Bool.cond_true_right, Bool.cond_false_left, seq_iff, seq_dec, dec_f, dec_t, eqB_t, eqB_f] at *)
  all_goals (try (intros; trivial))
  all_goals (try (intros; omega))
  all_goals (try (rw [w64 (by omega) (by omega)]; first | done | omega))
  all_goals (try simp only [ba_empty] at *)
  all_goals first
    | omega
    | exact isName_len (by omega)
    | exact isName_no (i := i) (by omega) (by rw [← Bool.not_eq_true, nameC_iff]; omega)
    | exact fun j hj => if e : j < i then hi.2.2.2 j e else by
        have : j = i := by omega
        subst this
        rw [nameC_iff]
        omega
    | exact isName_yes (by omega) (by omega) fun j hj => hi.2.2.2 j (by omega)
end
noncomputable def cfg49 : Cfg := ⟨Try.prog, 41, tab66, (fun _ _ => []), [], (fun _ => none)⟩
theorem cfg49_ti34 : cfg49.ti 34 = none := rfl
theorem cfg49_ti47 : cfg49.ti 47 = none := rfl
theorem cfg49_pins : cfg49.pins = [] := rfl
theorem cfg49_P : cfg49.P = Try.prog := rfl
theorem cfg49_N : cfg49.N = 41 := rfl
theorem cfg49_T34 : cfg49.T 34 = e34 := rfl
theorem cfg49_mv34 : cfg49.mv 34 = (fun _ => []) := rfl
theorem cfg49_T47 : cfg49.T 47 = e47 := rfl
theorem cfg49_mv47 : cfg49.mv 47 = (fun _ => []) := rfl
section
attribute [local go_sem] cfg49_P cfg49_N cfg49_pins cfg49_ti34 cfg49_ti47 cfg49_T34 e34 cfg49_mv34 cfg49_T47 e47 cfg49_mv47 sz3 ag3 zr3 zo3 zd3 by3 sl3 st3 bo3 pt3 ck3 sz4 ag4 zr4 zo4 zd4 by4 sl4 st4 bo4 pt4 sz9 ag9 zr9 zo9 zd9 by9 sl9 un9 st9 bo9 pt9 ck9 sz49 ag49 zr49 zd49 by49 sl49 st49 bo49 pt49 of49_0 fa49_0 of49_1 fa49_1 of49_2 fa49_2 of49_3 fa49_3 of49_4 fa49_4 pl49 ek49
attribute [local go_sem] encChange encEntry ceqChange ceqEntry etaChange etaEntry zfChange zfEntry decChange decEntry seq_dec
theorem con49 (hC : COk cfg49) (c : Change) : Sem Try.prog 49 [.d (encChange c)] (.d (.i .i64 (changeErr c))) := by
  refine sem_of_awR (C := cfg49) (rs := [.tmp 2]) (fun _ => []) Try.func49 rfl rfl rfl rfl rfl rfl ?_
  simp only [enterSl, enterHp, inO, inO2, inO1, inOs, List.append_nil, List.nil_append, Nat.mul_zero, List.cons_append, Nat.zero_add, Nat.reduceAdd, Nat.reduceMul, encChange, encEntry]
  repeat' first
    | (with_reducible first | refine thenS_n ?_ | refine inBlockS_n ?_ | refine AW.seq ?_ | refine AW.block ?_)
    | (with_reducible first | (refine AW.runK hC ?_; intro K hK) | (refine AW.drawK hC (by kernel_rfl) ?_; intro K hK))
    | ((with_reducible first | refine erun_g ?_ | refine edraw_g ?_ | refine exitS_g ?_); refine siQ ?_; (try simp (disch := omega) only [w64, wu8]))
    | (with_reducible refine hCheck_g (by kernel_rfl) ?_)
    | ((first | (refine AW.cond rfl (fun h => ?_) (fun h => ?_)) | (refine AW.cond_ub rfl (fun h => ?_) ?_) | (refine AW.cond_nb rfl ?_ (fun h => ?_))) <;> (try replace h := boolH h) <;> (try (exfalso; first | omega | exact absurd h (by decide))))
    | (with_reducible first | refine AW.skip ?_ | refine AW.exit ?_ | refine AW.ret ?_ | refine thenS_r ?_ | refine thenS_e ?_ | refine inBlockS_r ?_ | refine inBlockS_e ?_ | refine inBlockS_e2 rfl ?_ | refine exitQ_r ?_ | refine exitQ_n ?_)
    | (refine sub_auto ?_; refine subQ ?_)
    | (with_reducible refine And.intro ?_ ?_)
    | (subst hK)
    | exact trivial
  all_goals (try (intros; assumption))
  all_goals (try simp only [Bool.or_eq_true, Bool.and_eq_true, Bool.or_eq_false_iff, Bool.and_eq_false_iff, Bool.not_eq_true', Bool.not_eq_false', Bool.not_eq_true, Bool.not_eq_false, decide_eq_true_eq, decide_eq_false_iff_not, beq_iff_eq, bne_iff_ne, beq_eq_false_iff_ne, bne_eq_false_iff_eq, ne_eq, Int.not_lt, Int.not_le, D.b.injEq, D.i.injEq, D.s.injEq, D.agg.injEq, D.sl.injEq, true_and, and_true, List.cons.injEq, gt_iff_lt, ge_iff_le,  Bool.cond_true_left, Bool.cond_false_right, Bool.cond_true_right, Bool.cond_false_left, seq_iff, seq_dec, dec_f, dec_t, eqB_t, eqB_f] at *)
  all_goals (try (intros; trivial))
  all_goals (try (intros; omega))
  all_goals (try (rw [w64 (by omega) (by omega)]; first | done | omega))
  all_goals grind [changeErr]
end
noncomputable def cfg48 : Cfg := ⟨Try.prog, 38, tab49, (fun _ _ => []), [], (fun _ => none)⟩
theorem cfg48_ti47 : cfg48.ti 47 = none := rfl
theorem cfg48_pins : cfg48.pins = [] := rfl
theorem cfg48_P : cfg48.P = Try.prog := rfl
theorem cfg48_N : cfg48.N = 38 := rfl
theorem cfg48_T47 : cfg48.T 47 = e47 := rfl
theorem cfg48_mv47 : cfg48.mv 47 = (fun _ => []) := rfl
section
attribute [local go_sem] cfg48_P cfg48_N cfg48_pins cfg48_ti47 cfg48_T47 e47 cfg48_mv47 sz3 ag3 zr3 zo3 zd3 by3 sl3 st3 bo3 pt3 ck3 sz4 ag4 zr4 zo4 zd4 by4 sl4 st4 bo4 pt4 sz9 ag9 zr9 zo9 zd9 by9 sl9 un9 st9 bo9 pt9 ck9 sz49 ag49 zr49 zd49 by49 sl49 st49 bo49 pt49 of49_0 fa49_0 of49_1 fa49_1 of49_2 fa49_2 of49_3 fa49_3 of49_4 fa49_4 pl49 ek49 sz51 ag51 zr51 zd51 by51 sl51 st51 bo51 pt51 of51_0 fa51_0 of51_1 fa51_1 of51_2 fa51_2 of51_3 fa51_3 pl51 ek51
attribute [local go_sem] encChange encEntry ceqChange ceqEntry etaChange etaEntry zfChange zfEntry decChange decEntry seq_dec
theorem con48 (hC : COk cfg48) (e : Entry) : Sem Try.prog 48 [.d (encEntry e)] (.d (.i .i64 (formErr e))) := by
  refine sem_of_awR (C := cfg48) (rs := [.tmp 2]) (fun _ => []) Try.func48 rfl rfl rfl rfl rfl rfl ?_
  simp only [enterSl, enterHp, inO, inO2, inO1, inOs, List.append_nil, List.nil_append, Nat.mul_zero, List.cons_append, Nat.zero_add, Nat.reduceAdd, Nat.reduceMul, encChange, encEntry]
  repeat' first
    | (with_reducible first | refine thenS_n ?_ | refine inBlockS_n ?_ | refine AW.seq ?_ | refine AW.block ?_)
    | (with_reducible first | (refine AW.runK hC ?_; intro K hK) | (refine AW.drawK hC (by kernel_rfl) ?_; intro K hK))
    | ((with_reducible first | refine erun_g ?_ | refine edraw_g ?_ | refine exitS_g ?_); refine siQ ?_; (try simp (disch := omega) only [w64, wu8]))
    | (with_reducible refine hCheck_g (by kernel_rfl) ?_)
    | ((first | (refine AW.cond rfl (fun h => ?_) (fun h => ?_)) | (refine AW.cond_ub rfl (fun h => ?_) ?_) | (refine AW.cond_nb rfl ?_ (fun h => ?_))) <;> (try replace h := boolH h) <;> (try (exfalso; first | omega | exact absurd h (by decide))))
    | (with_reducible first | refine AW.skip ?_ | refine AW.exit ?_ | refine AW.ret ?_ | refine thenS_r ?_ | refine thenS_e ?_ | refine inBlockS_r ?_ | refine inBlockS_e ?_ | refine inBlockS_e2 rfl ?_ | refine exitQ_r ?_ | refine exitQ_n ?_)
    | (refine sub_auto ?_; refine subQ ?_)
    | (with_reducible refine And.intro ?_ ?_)
    | (subst hK)
    | exact trivial
  all_goals (try (intros; assumption))
  all_goals (try simp only [Bool.or_eq_true, Bool.and_eq_true, Bool.or_eq_false_iff, Bool.and_eq_false_iff, Bool.not_eq_true', Bool.not_eq_false', Bool.not_eq_true, Bool.not_eq_false, decide_eq_true_eq, decide_eq_false_iff_not, beq_iff_eq, bne_iff_ne, beq_eq_false_iff_ne, bne_eq_false_iff_eq, ne_eq, Int.not_lt, Int.not_le, D.b.injEq, D.i.injEq, D.s.injEq, D.agg.injEq, D.sl.injEq, true_and, and_true, List.cons.injEq, gt_iff_lt, ge_iff_le,  Bool.cond_true_left, Bool.cond_false_right, Bool.cond_true_right, Bool.cond_false_left, seq_iff, seq_dec, dec_f, dec_t, eqB_t, eqB_f] at *)
  all_goals (try (intros; trivial))
  all_goals (try (intros; omega))
  all_goals (try (rw [w64 (by omega) (by omega)]; first | done | omega))
  all_goals simp only [formErr, formUsed, entry_ext, change_ext, zChange, decide_eq_false_iff_not]
  all_goals grind
end
noncomputable def cfg28 : Cfg := ⟨Try.prog, 64, tab48, (fun _ _ => []), [], (fun _ => none)⟩
theorem cfg28_ti33 : cfg28.ti 33 = none := rfl
theorem cfg28_ti34 : cfg28.ti 34 = none := rfl
theorem cfg28_ti47 : cfg28.ti 47 = none := rfl
theorem cfg28_ti48 : cfg28.ti 48 = none := rfl
theorem cfg28_ti49 : cfg28.ti 49 = none := rfl
theorem cfg28_pins : cfg28.pins = [] := rfl
theorem cfg28_P : cfg28.P = Try.prog := rfl
theorem cfg28_N : cfg28.N = 64 := rfl
theorem cfg28_T33 : cfg28.T 33 = e33 := rfl
theorem cfg28_mv33 : cfg28.mv 33 = (fun _ => []) := rfl
theorem cfg28_T34 : cfg28.T 34 = e34 := rfl
theorem cfg28_mv34 : cfg28.mv 34 = (fun _ => []) := rfl
theorem cfg28_T47 : cfg28.T 47 = e47 := rfl
theorem cfg28_mv47 : cfg28.mv 47 = (fun _ => []) := rfl
theorem cfg28_T48 : cfg28.T 48 = e48 := rfl
theorem cfg28_mv48 : cfg28.mv 48 = (fun _ => []) := rfl
theorem cfg28_T49 : cfg28.T 49 = e49 := rfl
theorem cfg28_mv49 : cfg28.mv 49 = (fun _ => []) := rfl
section
attribute [local go_sem] cfg28_P cfg28_N cfg28_pins cfg28_ti33 cfg28_ti34 cfg28_ti47 cfg28_ti48 cfg28_ti49 cfg28_T33 e33 cfg28_mv33 cfg28_T34 e34 cfg28_mv34 cfg28_T47 e47 cfg28_mv47 cfg28_T48 e48 cfg28_mv48 cfg28_T49 e49 cfg28_mv49 sz3 ag3 zr3 zo3 zd3 by3 sl3 st3 bo3 pt3 ck3 sz4 ag4 zr4 zo4 zd4 by4 sl4 st4 bo4 pt4 sz9 ag9 zr9 zo9 zd9 by9 sl9 un9 st9 bo9 pt9 ck9 sz49 ag49 zr49 zd49 by49 sl49 st49 bo49 pt49 of49_0 fa49_0 of49_1 fa49_1 of49_2 fa49_2 of49_3 fa49_3 of49_4 fa49_4 pl49 ek49 sz51 ag51 zr51 zd51 by51 sl51 st51 bo51 pt51 of51_0 fa51_0 of51_1 fa51_1 of51_2 fa51_2 of51_3 fa51_3 pl51 ek51
attribute [local go_sem] encChange encEntry ceqChange ceqEntry etaChange etaEntry zfChange zfEntry decChange decEntry seq_dec
theorem con28 (hC : COk cfg28) (e : Entry) : Sem Try.prog 28 [.d (encEntry e)] (.d (.i .i64 (entryErr e))) := by
  refine sem_of_awR (C := cfg28) (rs := [.tmp 2]) (fun _ => []) Try.func28 rfl rfl rfl rfl rfl rfl ?_
  simp only [enterSl, enterHp, inO, inO2, inO1, inOs, List.append_nil, List.nil_append, Nat.mul_zero, List.cons_append, Nat.zero_add, Nat.reduceAdd, Nat.reduceMul, encChange, encEntry]
  repeat' first
    | (with_reducible first | refine thenS_n ?_ | refine inBlockS_n ?_ | refine AW.seq ?_ | refine AW.block ?_)
    | (with_reducible first | (refine AW.runK hC ?_; intro K hK) | (refine AW.drawK hC (by kernel_rfl) ?_; intro K hK))
    | ((with_reducible first | refine erun_g ?_ | refine edraw_g ?_ | refine exitS_g ?_); refine siQ ?_; (try simp (disch := omega) only [w64, wu8]))
    | (with_reducible refine hCheck_g (by kernel_rfl) ?_)
    | ((first | (refine AW.cond rfl (fun h => ?_) (fun h => ?_)) | (refine AW.cond_ub rfl (fun h => ?_) ?_) | (refine AW.cond_nb rfl ?_ (fun h => ?_))) <;> (try replace h := boolH h) <;> (try (exfalso; first | omega | exact absurd h (by decide))))
    | (with_reducible first | refine AW.skip ?_ | refine AW.exit ?_ | refine AW.ret ?_ | refine thenS_r ?_ | refine thenS_e ?_ | refine inBlockS_r ?_ | refine inBlockS_e ?_ | refine inBlockS_e2 rfl ?_ | refine exitQ_r ?_ | refine exitQ_n ?_)
    | (refine sub_auto ?_; refine subQ ?_)
    | (with_reducible refine And.intro ?_ ?_)
    | (subst hK)
    | exact trivial
  all_goals (try (intros; assumption))
  all_goals (try simp only [Bool.or_eq_true, Bool.and_eq_true, Bool.or_eq_false_iff, Bool.and_eq_false_iff, Bool.not_eq_true', Bool.not_eq_false', Bool.not_eq_true, Bool.not_eq_false, decide_eq_true_eq, decide_eq_false_iff_not, beq_iff_eq, bne_iff_ne, beq_eq_false_iff_ne, bne_eq_false_iff_eq, ne_eq, Int.not_lt, Int.not_le, D.b.injEq, D.i.injEq, D.s.injEq, D.agg.injEq, D.sl.injEq, true_and, and_true, List.cons.injEq, gt_iff_lt, ge_iff_le,  Bool.cond_true_left, Bool.cond_false_right, Bool.cond_true_right, Bool.cond_false_left, seq_iff, seq_dec, dec_f, dec_t, eqB_t, eqB_f] at *)
  all_goals (try (intros; trivial))
  all_goals (try (intros; omega))
  all_goals (try (rw [w64 (by omega) (by omega)]; first | done | omega))
  all_goals grind [entryErr, formErr]
end
noncomputable def cfg44 : Cfg := ⟨Try.prog, 112, tab28, (fun _ _ => []), [], (fun _ => none)⟩
theorem cfg44_ti65 : cfg44.ti 65 = none := rfl
theorem cfg44_ti66 : cfg44.ti 66 = none := rfl
theorem cfg44_pins : cfg44.pins = [] := rfl
theorem cfg44_P : cfg44.P = Try.prog := rfl
theorem cfg44_N : cfg44.N = 112 := rfl
theorem cfg44_T65 : cfg44.T 65 = e65 := rfl
theorem cfg44_mv65 : cfg44.mv 65 = (fun _ => []) := rfl
theorem cfg44_T66 : cfg44.T 66 = e66 := rfl
theorem cfg44_mv66 : cfg44.mv 66 = (fun _ => []) := rfl
section
attribute [local go_sem] cfg44_P cfg44_N cfg44_pins cfg44_ti65 cfg44_ti66 cfg44_T65 e65 cfg44_mv65 cfg44_T66 e66 cfg44_mv66 sz3 ag3 zr3 zo3 zd3 by3 sl3 st3 bo3 pt3 ck3 sz4 ag4 zr4 zo4 zd4 by4 sl4 st4 bo4 pt4 sz9 ag9 zr9 zo9 zd9 by9 sl9 un9 st9 bo9 pt9 ck9 sz49 ag49 zr49 zd49 by49 sl49 st49 bo49 pt49 of49_0 fa49_0 of49_1 fa49_1 of49_2 fa49_2 of49_3 fa49_3 of49_4 fa49_4 pl49 ek49 sz51 ag51 zr51 zd51 by51 sl51 st51 bo51 pt51 of51_0 fa51_0 of51_1 fa51_1 of51_2 fa51_2 of51_3 fa51_3 pl51 ek51
attribute [local go_sem] encChange encEntry ceqChange ceqEntry etaChange etaEntry zfChange zfEntry decChange decEntry seq_dec
set_option maxHeartbeats 2000000 in
theorem con44 (hC : COk cfg44) (e : Entry) : Sem Try.prog 44 [.d (encEntry e)] (.d (.i .i64 (entryErr e))) := by
  refine sem_of_awR (C := cfg44) (rs := [.tmp 2]) (fun _ => []) Try.func44 rfl rfl rfl rfl rfl rfl ?_
  simp only [enterSl, enterHp, inO, inO2, inO1, inOs, List.append_nil, List.nil_append, Nat.mul_zero, List.cons_append, Nat.zero_add, Nat.reduceAdd, Nat.reduceMul, encChange, encEntry]
  repeat' first
    | (with_reducible first | refine thenS_n ?_ | refine inBlockS_n ?_ | refine AW.seq ?_ | refine AW.block ?_)
    | (with_reducible first | (refine AW.runK hC ?_; intro K hK) | (refine AW.drawK hC (by kernel_rfl) ?_; intro K hK))
    | ((with_reducible first | refine erun_g ?_ | refine edraw_g ?_ | refine exitS_g ?_); refine siQ ?_; (try simp (disch := omega) only [w64, wu8]))
    | (with_reducible refine hCheck_g (by kernel_rfl) ?_)
    | ((first | (refine AW.cond rfl (fun h => ?_) (fun h => ?_)) | (refine AW.cond_ub rfl (fun h => ?_) ?_) | (refine AW.cond_nb rfl ?_ (fun h => ?_))) <;> (try replace h := boolH h) <;> (try (exfalso; first | omega | exact absurd h (by decide))))
    | (with_reducible first | refine AW.skip ?_ | refine AW.exit ?_ | refine AW.ret ?_ | refine thenS_r ?_ | refine thenS_e ?_ | refine inBlockS_r ?_ | refine inBlockS_e ?_ | refine inBlockS_e2 rfl ?_ | refine exitQ_r ?_ | refine exitQ_n ?_)
    | (refine sub_auto ?_; refine subQ ?_)
    | (with_reducible refine And.intro ?_ ?_)
    | (subst hK)
    | exact trivial
  all_goals (try (intros; assumption))
  all_goals (try simp only [Bool.or_eq_true, Bool.and_eq_true, Bool.or_eq_false_iff, Bool.and_eq_false_iff, Bool.not_eq_true', Bool.not_eq_false', Bool.not_eq_true, Bool.not_eq_false, decide_eq_true_eq, decide_eq_false_iff_not, beq_iff_eq, bne_iff_ne, beq_eq_false_iff_ne, bne_eq_false_iff_eq, ne_eq, Int.not_lt, Int.not_le, D.b.injEq, D.i.injEq, D.s.injEq, D.agg.injEq, D.sl.injEq, true_and, and_true, List.cons.injEq, gt_iff_lt, ge_iff_le,  Bool.cond_true_left, Bool.cond_false_right, Bool.cond_true_right, Bool.cond_false_left, seq_iff, seq_dec, dec_f, dec_t, eqB_t, eqB_f] at *)
  all_goals (try (intros; trivial))
  all_goals (try (intros; omega))
  all_goals (try (rw [w64 (by omega) (by omega)]; first | done | omega))
  all_goals simp only [entryErr, formUsed, entry_ext, change_ext, decide_eq_false_iff_not, decide_eq_true_eq, zChange, changeErr] at *
  all_goals grind
end
noncomputable def cfg8 : Cfg := ⟨Try.prog, 32, tab44, (fun _ _ => []), [], (fun _ => none)⟩
theorem cfg8_pins : cfg8.pins = [] := rfl
theorem cfg8_P : cfg8.P = Try.prog := rfl
theorem cfg8_N : cfg8.N = 32 := rfl
section
attribute [local go_sem] cfg8_P cfg8_N cfg8_pins sz3 ag3 zr3 zo3 zd3 by3 sl3 st3 bo3 pt3 ck3 sz9 ag9 zr9 zo9 zd9 by9 sl9 un9 st9 bo9 pt9 ck9 sz22 ag22 zr22 zo22 zd22 by22 el22 sl22 un22 st22 bo22 pt22 sz49 ag49 zr49 zd49 by49 sl49 st49 bo49 pt49 of49_0 fa49_0 of49_1 fa49_1 of49_2 fa49_2 of49_3 fa49_3 of49_4 fa49_4 pl49 ek49 sz51 ag51 zr51 zd51 by51 sl51 st51 bo51 pt51 of51_0 fa51_0 of51_1 fa51_1 of51_2 fa51_2 of51_3 fa51_3 pl51 ek51
attribute [local go_sem] encChange encEntry ceqChange ceqEntry etaChange etaEntry zfChange zfEntry decChange decEntry seq_dec getDz_Entry dL_Entry List.length_map Int.toNat_natCast Int.toNat_zero Nat.sub_zero List.length_take decL_sl decM_cons decM_nil decM_append take_map_snoc dM_Entry dM_Packet dM_RAct
attribute [local go_sem ←] List.map_take List.map_drop
theorem con8 (hC : COk cfg8) (l : List Entry) : Sem Try.prog 8 [.d (.sl 8 (l.map encEntry))] (.d (.b (few35 l))) := by
  refine sem_of_awR (C := cfg8) (rs := [.tmp 2]) (fun _ => []) Try.func8 rfl rfl rfl rfl rfl rfl ?_
  simp only [enterSl, enterHp, inO, inO2, inO1, inOs, List.append_nil, List.nil_append, Nat.mul_zero, List.cons_append, Nat.zero_add, Nat.reduceAdd, Nat.reduceMul, encChange, encEntry, List.length_map]
  repeat' first
    | (with_reducible first | refine thenS_n ?_ | refine inBlockS_n ?_ | refine AW.seq ?_ | refine AW.block ?_)
    | (with_reducible first | (refine AW.runK hC ?_; intro K hK) | (refine AW.drawK hC (by kernel_rfl) ?_; intro K hK))
    | ((with_reducible first | refine erun_g ?_ | refine edraw_g ?_ | refine exitS_g ?_); refine siQ ?_; (try simp (disch := omega) only [w64, wu8]))
    | (with_reducible refine hCheck_g (by kernel_rfl) ?_)
    | ((first | (refine AW.cond rfl (fun h => ?_) (fun h => ?_)) | (refine AW.cond_ub rfl (fun h => ?_) ?_) | (refine AW.cond_nb rfl ?_ (fun h => ?_))) <;> (try replace h := boolH h) <;> (try (exfalso; first | omega | exact absurd h (by decide))))
    | (with_reducible first | refine AW.skip ?_ | refine AW.exit ?_ | refine AW.ret ?_ | refine thenS_r ?_ | refine thenS_e ?_ | refine inBlockS_r ?_ | refine inBlockS_e ?_ | refine inBlockS_e2 rfl ?_ | refine exitQ_r ?_ | refine exitQ_n ?_)
    | (refine AW.loopN 2 rfl (ι := Nat) (fun i => mkS [(0, V.d (.sl 8 (l.map encEntry))), (3, V.d (.i .i64 (i : Int)))] ([])) (fun i => i ≤ l.length ∧ fewGo i (l.drop i) = few35 l) (fun i => l.length - i) (0) ?_ ?_ (fun i hi => ?_) <;> (try dsimp only) <;> (try dsimp only at hi))
    | (refine LoopNext.mk1 2 (i + 1) ?_ ?_ ?_ <;> (try dsimp only))
    | (refine sub_auto ?_; refine subQ ?_)
    | (with_reducible refine And.intro ?_ ?_)
    | (subst hK)
    | exact trivial
  all_goals (try (intros; assumption))
  all_goals (try simp only [Bool.or_eq_true, Bool.and_eq_true, Bool.or_eq_false_iff, Bool.and_eq_false_iff, Bool.not_eq_true', Bool.not_eq_false', Bool.not_eq_true, Bool.not_eq_false, decide_eq_true_eq, decide_eq_false_iff_not, beq_iff_eq, bne_iff_ne, beq_eq_false_iff_ne, bne_eq_false_iff_eq, ne_eq, Int.not_lt, Int.not_le, D.b.injEq, D.i.injEq, D.s.injEq, D.agg.injEq, D.sl.injEq, true_and, and_true, List.cons.injEq, gt_iff_lt, ge_iff_le,  Bool.cond_true_left, Bool.cond_false_right, Bool.cond_true_right, Bool.cond_false_left, seq_iff, seq_dec, dec_f, dec_t, eqB_t, eqB_f] at *)
  all_goals (try (intros; trivial))
  all_goals (try (intros; omega))
  all_goals (try (rw [w64 (by omega) (by omega)]; first | done | omega))
  all_goals first
    | rfl
    | (rw [← hi.2, drop_getD zEntry (by omega), fewGo]; grind)
    | (rw [← hi.2, List.drop_of_length_le (by omega)]; rfl)
    | (have := hi.2; rw [drop_getD zEntry (by omega), fewGo] at this; grind)
end
noncomputable def cfg51 : Cfg := ⟨Try.prog, 27, tab8, (fun _ _ => []), [], (fun _ => none)⟩
theorem cfg51_pins : cfg51.pins = [] := rfl
theorem cfg51_P : cfg51.P = Try.prog := rfl
theorem cfg51_N : cfg51.N = 27 := rfl
section
attribute [local go_sem] cfg51_P cfg51_N cfg51_pins sz3 ag3 zr3 zo3 zd3 by3 sl3 st3 bo3 pt3 ck3 sz9 ag9 zr9 zo9 zd9 by9 sl9 un9 st9 bo9 pt9 ck9 sz22 ag22 zr22 zo22 zd22 by22 el22 sl22 un22 st22 bo22 pt22 sz49 ag49 zr49 zd49 by49 sl49 st49 bo49 pt49 of49_0 fa49_0 of49_1 fa49_1 of49_2 fa49_2 of49_3 fa49_3 of49_4 fa49_4 pl49 ek49 sz51 ag51 zr51 zd51 by51 sl51 st51 bo51 pt51 of51_0 fa51_0 of51_1 fa51_1 of51_2 fa51_2 of51_3 fa51_3 pl51 ek51
attribute [local go_sem] encChange encEntry ceqChange ceqEntry etaChange etaEntry zfChange zfEntry decChange decEntry seq_dec getDz_Entry dL_Entry List.length_map Int.toNat_natCast Int.toNat_zero Nat.sub_zero List.length_take decL_sl decM_cons decM_nil decM_append take_map_snoc dM_Entry dM_Packet dM_RAct
attribute [local go_sem ←] List.map_take List.map_drop
theorem con51 (hC : COk cfg51) (l : List Entry) (unit : Int) (hp : l.length ≤ 1000000) : Sem Try.prog 51 [.d (.sl 8 (l.map encEntry)), .d (.i .i64 unit)] (.d (.b (begins l unit))) := by
  refine sem_of_awR (C := cfg51) (rs := [.tmp 4]) (fun _ => []) Try.func51 rfl rfl rfl rfl rfl rfl ?_
  simp only [enterSl, enterHp, inO, inO2, inO1, inOs, List.append_nil, List.nil_append, Nat.mul_zero, List.cons_append, Nat.zero_add, Nat.reduceAdd, Nat.reduceMul, encChange, encEntry, List.length_map]
  repeat' first
    | (with_reducible first | refine thenS_n ?_ | refine inBlockS_n ?_ | refine AW.seq ?_ | refine AW.block ?_)
    | (with_reducible first | (refine AW.runK hC ?_; intro K hK) | (refine AW.drawK hC (by kernel_rfl) ?_; intro K hK))
    | ((with_reducible first | refine erun_g ?_ | refine edraw_g ?_ | refine exitS_g ?_); refine siQ ?_; (try simp (disch := omega) only [w64, wu8]))
    | (with_reducible refine hCheck_g (by kernel_rfl) ?_)
    | ((first | (refine AW.cond rfl (fun h => ?_) (fun h => ?_)) | (refine AW.cond_ub rfl (fun h => ?_) ?_) | (refine AW.cond_nb rfl ?_ (fun h => ?_))) <;> (try replace h := boolH h) <;> (try (exfalso; first | omega | exact absurd h (by decide))))
    | (with_reducible first | refine AW.skip ?_ | refine AW.exit ?_ | refine AW.ret ?_ | refine thenS_r ?_ | refine thenS_e ?_ | refine inBlockS_r ?_ | refine inBlockS_e ?_ | refine inBlockS_e2 rfl ?_ | refine exitQ_r ?_ | refine exitQ_n ?_)
    | (refine AW.loopN 2 rfl (ι := Nat) (fun i => mkS [(0, V.d (.sl 8 (l.map encEntry))), (1, V.d (.i .i64 unit)), (5, V.d (.i .i64 (i : Int)))] ([])) (fun i => i ≤ l.length ∧ begins (l.take i) unit = false) (fun i => l.length - i) (0) ?_ ?_ (fun i hi => ?_) <;> (try dsimp only) <;> (try dsimp only at hi))
    | (refine LoopNext.mk1 2 (i + 1) ?_ ?_ ?_ <;> (try dsimp only))
    | (refine sub_auto ?_; refine subQ ?_)
    | (with_reducible refine And.intro ?_ ?_)
    | (subst hK)
    | exact trivial
  all_goals (try (intros; assumption))
  all_goals (try simp only [Bool.or_eq_true, Bool.and_eq_true, Bool.or_eq_false_iff, Bool.and_eq_false_iff, Bool.not_eq_true', Bool.not_eq_false', Bool.not_eq_true, Bool.not_eq_false, decide_eq_true_eq, decide_eq_false_iff_not, beq_iff_eq, bne_iff_ne, beq_eq_false_iff_ne, bne_eq_false_iff_eq, ne_eq, Int.not_lt, Int.not_le, D.b.injEq, D.i.injEq, D.s.injEq, D.agg.injEq, D.sl.injEq, true_and, and_true, List.cons.injEq, gt_iff_lt, ge_iff_le,  Bool.cond_true_left, Bool.cond_false_right, Bool.cond_true_right, Bool.cond_false_left, seq_iff, seq_dec, dec_f, dec_t, eqB_t, eqB_f] at *)
  all_goals (try (intros; trivial))
  all_goals (try (intros; omega))
  all_goals (try (rw [w64 (by omega) (by omega)]; first | done | omega))
  all_goals first
    | rfl
    | exact begins_yes (i := i) (by omega) (by omega) (by omega)
    | exact begins_step hi.2 (by omega) (by omega)
    | exact begins_end hi.2 (by omega)
end
noncomputable def cfg30 : Cfg := ⟨Try.prog, 40, tab51, (fun _ _ => []), [], (fun _ => none)⟩
theorem cfg30_pins : cfg30.pins = [] := rfl
theorem cfg30_P : cfg30.P = Try.prog := rfl
theorem cfg30_N : cfg30.N = 40 := rfl
section
attribute [local go_sem] cfg30_P cfg30_N cfg30_pins sz3 ag3 zr3 zo3 zd3 by3 sl3 st3 bo3 pt3 ck3 sz9 ag9 zr9 zo9 zd9 by9 sl9 un9 st9 bo9 pt9 ck9 sz22 ag22 zr22 zo22 zd22 by22 el22 sl22 un22 st22 bo22 pt22 sz49 ag49 zr49 zd49 by49 sl49 st49 bo49 pt49 of49_0 fa49_0 of49_1 fa49_1 of49_2 fa49_2 of49_3 fa49_3 of49_4 fa49_4 pl49 ek49 sz51 ag51 zr51 zd51 by51 sl51 st51 bo51 pt51 of51_0 fa51_0 of51_1 fa51_1 of51_2 fa51_2 of51_3 fa51_3 pl51 ek51
attribute [local go_sem] encChange encEntry ceqChange ceqEntry etaChange etaEntry zfChange zfEntry decChange decEntry seq_dec getDz_Entry dL_Entry List.length_map Int.toNat_natCast Int.toNat_zero Nat.sub_zero List.length_take decL_sl decM_cons decM_nil decM_append take_map_snoc dM_Entry dM_Packet dM_RAct
attribute [local go_sem ←] List.map_take List.map_drop
theorem con30 (hC : COk cfg30) (l : List Entry) (unit : Int) (hp : l.length ≤ 1000000) : Sem Try.prog 30 [.d (.sl 8 (l.map encEntry)), .d (.i .i64 unit)] (.d (.i .i64 (ends l unit))) := by
  refine sem_of_awR (C := cfg30) (rs := [.tmp 4]) (fun _ => []) Try.func30 rfl rfl rfl rfl rfl rfl ?_
  simp only [enterSl, enterHp, inO, inO2, inO1, inOs, List.append_nil, List.nil_append, Nat.mul_zero, List.cons_append, Nat.zero_add, Nat.reduceAdd, Nat.reduceMul, encChange, encEntry, List.length_map]
  repeat' first
    | (with_reducible first | refine thenS_n ?_ | refine inBlockS_n ?_ | refine AW.seq ?_ | refine AW.block ?_)
    | (with_reducible first | (refine AW.runK hC ?_; intro K hK) | (refine AW.drawK hC (by kernel_rfl) ?_; intro K hK))
    | ((with_reducible first | refine erun_g ?_ | refine edraw_g ?_ | refine exitS_g ?_); refine siQ ?_; (try simp (disch := omega) only [w64, wu8]))
    | (with_reducible refine hCheck_g (by kernel_rfl) ?_)
    | ((first | (refine AW.cond rfl (fun h => ?_) (fun h => ?_)) | (refine AW.cond_ub rfl (fun h => ?_) ?_) | (refine AW.cond_nb rfl ?_ (fun h => ?_))) <;> (try replace h := boolH h) <;> (try (exfalso; first | omega | exact absurd h (by decide))))
    | (with_reducible first | refine AW.skip ?_ | refine AW.exit ?_ | refine AW.ret ?_ | refine thenS_r ?_ | refine thenS_e ?_ | refine inBlockS_r ?_ | refine inBlockS_e ?_ | refine inBlockS_e2 rfl ?_ | refine exitQ_r ?_ | refine exitQ_n ?_)
    | (refine AW.loopN 2 rfl (ι := Nat) (fun i => mkS [(0, V.d (.sl 8 (l.map encEntry))), (1, V.d (.i .i64 unit)), (5, V.d (.i .i64 (i : Int)))] ([])) (fun i => i ≤ l.length ∧ ends? (l.take i) unit = none) (fun i => l.length - i) (0) ?_ ?_ (fun i hi => ?_) <;> (try dsimp only) <;> (try dsimp only at hi))
    | (refine LoopNext.mk1 2 (i + 1) ?_ ?_ ?_ <;> (try dsimp only))
    | (refine sub_auto ?_; refine subQ ?_)
    | (with_reducible refine And.intro ?_ ?_)
    | (subst hK)
    | exact trivial
  all_goals (try (intros; assumption))
  all_goals (try simp only [Bool.or_eq_true, Bool.and_eq_true, Bool.or_eq_false_iff, Bool.and_eq_false_iff, Bool.not_eq_true', Bool.not_eq_false', Bool.not_eq_true, Bool.not_eq_false, decide_eq_true_eq, decide_eq_false_iff_not, beq_iff_eq, bne_iff_ne, beq_eq_false_iff_ne, bne_eq_false_iff_eq, ne_eq, Int.not_lt, Int.not_le, D.b.injEq, D.i.injEq, D.s.injEq, D.agg.injEq, D.sl.injEq, true_and, and_true, List.cons.injEq, gt_iff_lt, ge_iff_le,  Bool.cond_true_left, Bool.cond_false_right, Bool.cond_true_right, Bool.cond_false_left, seq_iff, seq_dec, dec_f, dec_t, eqB_t, eqB_f] at *)
  all_goals (try (intros; trivial))
  all_goals (try (intros; omega))
  all_goals (try (rw [w64 (by omega) (by omega)]; first | done | omega))
  all_goals first
    | rfl
    | exact ends_yes (i := i) hi.2 (by omega) (by omega) (by omega)
    | exact (ends_yes (i := i) hi.2 (by omega) (by omega) (by omega)).symm
    | exact ends_step hi.2 (by omega) (by omega)
    | exact ends_end hi.2 (by omega)
end
noncomputable def cfg50 : Cfg := ⟨Try.prog, 14, tab30, (fun _ _ => []), [], (fun _ => none)⟩
theorem cfg50_ti30 : cfg50.ti 30 = none := rfl
theorem cfg50_ti51 : cfg50.ti 51 = none := rfl
theorem cfg50_pins : cfg50.pins = [] := rfl
theorem cfg50_P : cfg50.P = Try.prog := rfl
theorem cfg50_N : cfg50.N = 14 := rfl
theorem cfg50_T30 : cfg50.T 30 = e30 := rfl
theorem cfg50_mv30 : cfg50.mv 30 = (fun _ => []) := rfl
theorem cfg50_T51 : cfg50.T 51 = e51 := rfl
theorem cfg50_mv51 : cfg50.mv 51 = (fun _ => []) := rfl
section
attribute [local go_sem] cfg50_P cfg50_N cfg50_pins cfg50_ti30 cfg50_ti51 cfg50_T30 e30 cfg50_mv30 cfg50_T51 e51 cfg50_mv51 sz3 ag3 zr3 zo3 zd3 by3 sl3 st3 bo3 pt3 ck3 sz9 ag9 zr9 zo9 zd9 by9 sl9 un9 st9 bo9 pt9 ck9 sz22 ag22 zr22 zo22 zd22 by22 el22 sl22 un22 st22 bo22 pt22 sz49 ag49 zr49 zd49 by49 sl49 st49 bo49 pt49 of49_0 fa49_0 of49_1 fa49_1 of49_2 fa49_2 of49_3 fa49_3 of49_4 fa49_4 pl49 ek49 sz51 ag51 zr51 zd51 by51 sl51 st51 bo51 pt51 of51_0 fa51_0 of51_1 fa51_1 of51_2 fa51_2 of51_3 fa51_3 pl51 ek51
attribute [local go_sem] encChange encEntry ceqChange ceqEntry etaChange etaEntry zfChange zfEntry decChange decEntry seq_dec getDz_Entry dL_Entry List.length_map Int.toNat_natCast Int.toNat_zero Nat.sub_zero List.length_take decL_sl decM_cons decM_nil decM_append take_map_snoc dM_Entry dM_Packet dM_RAct
attribute [local go_sem ←] List.map_take List.map_drop
theorem con50 (hC : COk cfg50) (l : List Entry) (unit : Int) (hp : l.length ≤ 1000000) : Sem Try.prog 50 [.d (.sl 8 (l.map encEntry)), .d (.i .i64 unit)] (.d (.b (isOpen l unit))) := by
  refine sem_of_awR (C := cfg50) (rs := [.tmp 4]) (fun _ => []) Try.func50 rfl rfl rfl rfl rfl rfl ?_
  simp only [enterSl, enterHp, inO, inO2, inO1, inOs, List.append_nil, List.nil_append, Nat.mul_zero, List.cons_append, Nat.zero_add, Nat.reduceAdd, Nat.reduceMul, encChange, encEntry, List.length_map]
  repeat' first
    | (with_reducible first | refine thenS_n ?_ | refine inBlockS_n ?_ | refine AW.seq ?_ | refine AW.block ?_)
    | (with_reducible first | (refine AW.runK hC ?_; intro K hK) | (refine AW.drawK hC (by kernel_rfl) ?_; intro K hK))
    | ((with_reducible first | refine erun_g ?_ | refine edraw_g ?_ | refine exitS_g ?_); refine siQ ?_; (try simp (disch := omega) only [w64, wu8]))
    | (with_reducible refine hCheck_g (by kernel_rfl) ?_)
    | ((first | (refine AW.cond rfl (fun h => ?_) (fun h => ?_)) | (refine AW.cond_ub rfl (fun h => ?_) ?_) | (refine AW.cond_nb rfl ?_ (fun h => ?_))) <;> (try replace h := boolH h) <;> (try (exfalso; first | omega | exact absurd h (by decide))))
    | (with_reducible first | refine AW.skip ?_ | refine AW.exit ?_ | refine AW.ret ?_ | refine thenS_r ?_ | refine thenS_e ?_ | refine inBlockS_r ?_ | refine inBlockS_e ?_ | refine inBlockS_e2 rfl ?_ | refine exitQ_r ?_ | refine exitQ_n ?_)
    | (refine sub_auto ?_; refine subQ ?_)
    | (with_reducible refine And.intro ?_ ?_)
    | (subst hK)
    | exact trivial
  all_goals (try (intros; assumption))
  all_goals (try simp only [Bool.or_eq_true, Bool.and_eq_true, Bool.or_eq_false_iff, Bool.and_eq_false_iff, Bool.not_eq_true', Bool.not_eq_false', Bool.not_eq_true, Bool.not_eq_false, decide_eq_true_eq, decide_eq_false_iff_not, beq_iff_eq, bne_iff_ne, beq_eq_false_iff_ne, bne_eq_false_iff_eq, ne_eq, Int.not_lt, Int.not_le, D.b.injEq, D.i.injEq, D.s.injEq, D.agg.injEq, D.sl.injEq, true_and, and_true, List.cons.injEq, gt_iff_lt, ge_iff_le,  Bool.cond_true_left, Bool.cond_false_right, Bool.cond_true_right, Bool.cond_false_left, seq_iff, seq_dec, dec_f, dec_t, eqB_t, eqB_f] at *)
  all_goals (try (intros; trivial))
  all_goals (try (intros; omega))
  all_goals (try (rw [w64 (by omega) (by omega)]; first | done | omega))
  all_goals grind [isOpen]
end
end Go.Ev
