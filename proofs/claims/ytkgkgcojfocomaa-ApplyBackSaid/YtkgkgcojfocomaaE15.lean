/- Tools and contracts under the laws of this seat: Dxc105 to Dxc77. -/
import Derived.Test.YtkgkgcojfocomaaE05
set_option linter.unusedVariables false
set_option linter.unusedSimpArgs false
namespace Go.Ev
open Go.Proofs Ty
set_option maxRecDepth 10000
set_option maxHeartbeats 4000000
set_option linter.unusedSimpArgs false
set_option linter.unusedVariables false
attribute [local go_sem] erun_nil erun_cons edraw_eq edrun_nil edrun_cons e1_n e1_g guardSlot_eq lkAll_tmp lkAll_nil lkAll_const lkAll_func val_tmp val_const val_func aget getBox_mk getRow_mk liveRow_mk hp_mk eU_move_n eU_assign_n eU_move eU_assign eU_pick eU_alloc eU_box eU_load eU_store eU_nilCheck eU_binOp eU_unOp eU_fieldAddr eU_field eU_indexAddr eU_index eU_build eU_buildSlice eU_slice eU_extract eU_makeFunc eU_builtin eU_call eU_callv V.cells V.one D.one D.cells newObj nm HS.isFree HS.isLive andOk_some andOk_none List.map_cons List.map_nil Option.bind_some Option.bind_none putL List.cons_append List.nil_append thenS_normal thenS_ret thenS_exit inBlockS_normal inBlockS_ret inBlockS_exit true_and and_true justV justO cval Option.map_some Option.map_none loadAt storeAt ldV ldD mkAgg V.asD spliceL List.take_succ_cons List.take_zero List.drop_succ_cons List.drop_zero List.getElem?_cons_zero List.getElem?_cons_succ List.getElem?_nil List.all_cons List.all_nil Bool.and_true Bool.true_and Bool.and_self List.length_cons List.length_nil vals aopCall argsO argO toD3 toD2 toD1 toDs O.ok O.ok2 O.ok1 O.flat O.flat1 D.flat D.flatA inO inO2 inO1 inOs List.filterMap_nil List.filterMap_cons List.filter_nil List.filter_cons List.nodup_nil decide_true decide_false Bool.not_true Bool.not_false not_true_eq_false not_false_eq_true or_false false_or and_false false_and ne_eq List.append_nil optB guardQ guardRes beq_self_eq_true List.mapM_cons List.mapM_nil Option.pure_def Option.bind_eq_bind true_or or_true or_self callHp ite_self not_true not_false_iff ite_true ite_false if_true if_false Bool.false_eq_true Bool.true_eq_false List.any_nil List.any_cons List.contains_nil List.contains_cons eq_self aopAppend builtinV elems aopBin nilEqS nilEqP aopSlice bound natOf lenOf binD intBin unD bindEq eU_makeMap eU_convert eU_makeSlice aopConv aopMake isShift shiftD eU_lookup eU_mapUpdate getMp_mk List.range_zero Nat.zero_le Nat.zero_mul Nat.zero_add Nat.add_zero List.length_append List.take_length List.isEmpty_nil List.isEmpty_cons V.neg List.flatMap_nil and_self List.range_succ forall_const implies_true Nat.not_lt_zero exitQ_normal exitQ_ret exitS_eq exitO resVs resV_tmp resV_cell takeRow argCells mvAt dle_same dles_same ole_same ole oles dle dles List.nodup_cons List.mem_cons List.not_mem_nil List.drop_length Nat.le_refl Nat.lt_irrefl id_eq Option.some.injEq Bool.or_false Bool.false_or Bool.or_self Bool.or_true Bool.true_or false_implies Bool.and_false Bool.false_and List.reverse_cons List.reverse_nil sh1 mget1 mget aopLookup aopMapUpdate mapOf msetK msetV Option.isSome_some Option.isSome_none Bool.cond_true_left Bool.cond_false_right Bool.cond_true_right Bool.cond_false_left beq_true beq_false Bool.not_not imp_self guardVal notB strBin aopSliceS buildV argOk D.splice kEq Option.toList_some Option.toList_none adel List.getD_cons_zero List.getD_cons_succ bxIds bxId backHp hget one1 aopCall0 aopTurn
attribute [local go_sem] sz3 ag3 zr3 zo3 zd3 by3 sl3 st3 bo3 pt3 ck3 sz9 ag9 zr9 zo9 zd9 by9 sl9 un9 st9 bo9 pt9 ck9 sz103 ag103 zr103 zd103 by103 sl103 st103 bo103 pt103 of103_0 fa103_0 of103_1 fa103_1 of103_2 fa103_2 pl103 ek103 sz105 ag105 zr105 zd105 by105 sl105 st105 bo105 pt105 of105_0 fa105_0 of105_1 fa105_1 pl105 ek105 encDType decDType etaDType zfDType encVal decVal etaVal zfVal Int.toNat_natCast chr_eq dL_int dM_int getDz_int decL_sl decM_cons decM_nil decI List.length_map nc0 bytesD_len bytesD_get encField decField etaField zfField encFmt decFmt etaFmt zfFmt encKField decKField etaKField zfKField encFile decFile etaFile zfFile encRec decRec etaRec zfRec getDz_Field getDz_KField getDz_Rec dL_Field dL_KField dL_Rec dM_Field dM_KField dM_Rec ceqField ceqKField ceqRec List.length_take decL_nil Int.toNat_zero Nat.sub_zero List.drop_zero
attribute [local go_sem ←] List.map_take List.map_drop
noncomputable def cfg105 : Cfg := ⟨Try.prog, 12, tab110, (fun _ _ => []), [], (fun _ => none)⟩
theorem cfg105_ti109 : cfg105.ti 109 = none := rfl
theorem cfg105_pins : cfg105.pins = [] := rfl
theorem cfg105_P : cfg105.P = Try.prog := rfl
theorem cfg105_N : cfg105.N = 12 := rfl
theorem cfg105_T109 : cfg105.T 109 = e109 := rfl
theorem cfg105_mv109 : cfg105.mv 109 = (fun _ => []) := rfl
section
attribute [local go_sem] cfg105_P cfg105_N cfg105_pins cfg105_ti109 cfg105_T109 e109 cfg105_mv109
theorem con105 (hC : COk cfg105) (x : Field) : Sem Try.prog 105 [.d (encField x)] (.d (.i .i64 (widthF x))) := by
  refine sem_of_awR (C := cfg105) (rs := [.tmp 2]) (fun _ => []) Try.func105 rfl rfl rfl rfl rfl rfl ?_
  simp only [enterSl, enterHp, inO, inO2, inO1, inOs, List.append_nil, List.nil_append, Nat.mul_zero, List.cons_append, Nat.zero_add, Nat.reduceAdd, Nat.reduceMul, encDType, encVal, List.length_map, encField, encFmt, encKField, encFile, encRec]
  repeat' first
    | (with_reducible first | refine thenS_n ?_ | refine inBlockS_n ?_ | refine AW.seq ?_ | refine AW.block ?_)
    | (with_reducible first | (refine AW.runK hC ?_; intro K hK) | (refine AW.drawK hC (by kernel_rfl) ?_; intro K hK))
    | ((with_reducible first | refine erun_g ?_ | refine edraw_g ?_ | refine exitS_g ?_); refine siQ ?_; (try simp (disch := omega) only [w64, wu8]))
    | (with_reducible refine hCheck_g (by kernel_rfl) ?_)
    | ((first | (refine AW.cond rfl (fun h => ?_) (fun h => ?_)) | (refine AW.cond_ub rfl (fun h => ?_) ?_) | (refine AW.cond_nb rfl ?_ (fun h => ?_))) <;> (try replace h := boolH h) <;> (try (exfalso; first | omega | exact absurd h (by decide))))
    | (with_reducible first | refine AW.skip ?_ | refine AW.exit ?_ | refine AW.ret ?_ | refine thenS_r ?_ | refine thenS_e ?_ | refine inBlockS_r ?_ | refine inBlockS_e ?_ | refine inBlockS_e2 rfl ?_ | refine exitQ_r ?_ | refine exitQ_n ?_)
    | (refine sub_auto ?_; refine subQ ?_)
    | (with_reducible refine And.intro ?_ ?_)
    | (subst hK)
    | exact trivial
  all_goals (try (intros; assumption))
  all_goals (try simp only [Bool.or_eq_true, Bool.and_eq_true, Bool.or_eq_false_iff, Bool.and_eq_false_iff, Bool.not_eq_true', Bool.not_eq_false', Bool.not_eq_true, Bool.not_eq_false, decide_eq_true_eq, decide_eq_false_iff_not, beq_iff_eq, bne_iff_ne, beq_eq_false_iff_ne, bne_eq_false_iff_eq, ne_eq, Int.not_lt, Int.not_le, D.b.injEq, D.i.injEq, D.s.injEq, D.agg.injEq, D.sl.injEq, true_and, and_true, List.cons.injEq, gt_iff_lt, ge_iff_le,  Bool.cond_true_left, Bool.cond_false_right, Bool.cond_true_right, Bool.cond_false_left, seq_iff, seq_dec, dec_f, dec_t, eqB_t, eqB_f] at *)
  all_goals (try (intros; trivial))
  all_goals (try (intros; omega))
  all_goals (try (rw [w64 (by omega) (by omega)]; first | done | omega))
  all_goals first
    | rfl
end
noncomputable def cfg102 : Cfg := ⟨Try.prog, 29, tab105, (fun _ _ => []), [], (fun _ => none)⟩
theorem cfg102_ti105 : cfg102.ti 105 = none := rfl
theorem cfg102_pins : cfg102.pins = [] := rfl
theorem cfg102_P : cfg102.P = Try.prog := rfl
theorem cfg102_N : cfg102.N = 29 := rfl
theorem cfg102_T105 : cfg102.T 105 = e105 := rfl
theorem cfg102_mv105 : cfg102.mv 105 = (fun _ => []) := rfl
section
attribute [local go_sem] cfg102_P cfg102_N cfg102_pins cfg102_ti105 cfg102_T105 e105 cfg102_mv105 sz78 ag78 zr78 zo78 zd78 by78 el78 sl78 un78 st78 bo78 pt78 sz80 ag80 zr80 zd80 by80 sl80 st80 bo80 pt80 of80_0 fa80_0 of80_1 fa80_1 pl80
theorem con102 (hC : COk cfg102) (f : Fmt) (name : ByteArray) (hp : f.fields.length ≤ 1000000) : Sem Try.prog 102 [.d (encFmt f), .d (.s name)] (.tup [.d (.i .i64 (atF f.fields name).1), .d (.i .i64 (atF f.fields name).2.1), .d (.b (atF f.fields name).2.2)]) := by
  refine sem_of_awR (C := cfg102) (rs := [.tmp 4, .tmp 5, .tmp 6]) (fun _ => []) Try.func102 rfl rfl rfl rfl rfl rfl ?_
  simp only [enterSl, enterHp, inO, inO2, inO1, inOs, List.append_nil, List.nil_append, Nat.mul_zero, List.cons_append, Nat.zero_add, Nat.reduceAdd, Nat.reduceMul, encDType, encVal, List.length_map, encField, encFmt, encKField, encFile, encRec]
  repeat' first
    | (with_reducible first | refine thenS_n ?_ | refine inBlockS_n ?_ | refine AW.seq ?_ | refine AW.block ?_)
    | (with_reducible first | (refine AW.runK hC ?_; intro K hK) | (refine AW.drawK hC (by kernel_rfl) ?_; intro K hK))
    | ((with_reducible first | refine erun_g ?_ | refine edraw_g ?_ | refine exitS_g ?_); refine siQ ?_; (try simp (disch := omega) only [w64, wu8]))
    | (with_reducible refine hCheck_g (by kernel_rfl) ?_)
    | ((first | (refine AW.cond rfl (fun h => ?_) (fun h => ?_)) | (refine AW.cond_ub rfl (fun h => ?_) ?_) | (refine AW.cond_nb rfl ?_ (fun h => ?_))) <;> (try replace h := boolH h) <;> (try (exfalso; first | omega | exact absurd h (by decide))))
    | (with_reducible first | refine AW.skip ?_ | refine AW.exit ?_ | refine AW.ret ?_ | refine thenS_r ?_ | refine thenS_e ?_ | refine inBlockS_r ?_ | refine inBlockS_e ?_ | refine inBlockS_e2 rfl ?_ | refine exitQ_r ?_ | refine exitQ_n ?_)
    | (refine AW.loopN 3 rfl (ι := Nat) (fun i => mkS [(1, V.d (.s name)), (7, V.d (.i .i64 (offTo f.fields i))), (11, V.d (.sl 4 (f.fields.map encField))), (12, V.d (.i .i64 (f.fields.length : Int))), (13, V.d (.i .i64 (i : Int)))] ([])) (fun i => i ≤ f.fields.length ∧ idxF (f.fields.take i) name = none) (fun i => f.fields.length - i) (0) ?_ ?_ (fun i hi => ?_) <;> (try dsimp only) <;> (try dsimp only at hi))
    | (refine LoopNext.mk1 3 (i + 1) ?_ ?_ ?_ <;> (try dsimp only))
    | (refine sub_auto ?_; refine subQ ?_)
    | (with_reducible refine And.intro ?_ ?_)
    | (subst hK)
    | exact trivial
  all_goals (try (intros; assumption))
  all_goals (try simp only [Bool.or_eq_true, Bool.and_eq_true, Bool.or_eq_false_iff, Bool.and_eq_false_iff, Bool.not_eq_true', Bool.not_eq_false', Bool.not_eq_true, Bool.not_eq_false, decide_eq_true_eq, decide_eq_false_iff_not, beq_iff_eq, bne_iff_ne, beq_eq_false_iff_ne, bne_eq_false_iff_eq, ne_eq, Int.not_lt, Int.not_le, D.b.injEq, D.i.injEq, D.s.injEq, D.agg.injEq, D.sl.injEq, true_and, and_true, List.cons.injEq, gt_iff_lt, ge_iff_le,  Bool.cond_true_left, Bool.cond_false_right, Bool.cond_true_right, Bool.cond_false_left, seq_iff, seq_dec, dec_f, dec_t, eqB_t, eqB_f] at *)
  all_goals (try (intros; trivial))
  all_goals (try (intros; omega))
  all_goals (try (rw [w64 (by omega) (by omega)]; first | done | omega))
  all_goals (try have O1 := offTo_ok f.fields i)
  all_goals (try have W1 := widthF_ok (f.fields.getD i zField))
  all_goals clear hC
  all_goals first
    | rfl
    | (rw [atF_yes hi.2 (by omega) (by assumption)]; done)
    | exact idxF_step hi.2 (by omega) (by assumption)
    | (rw [atF_no hi.2 (by omega)]; done)
    | (rw [offTo, w64 (by omega) (by omega)]; done)
end
noncomputable def cfg106 : Cfg := ⟨Try.prog, 19, tab102, (fun _ _ => []), [], (fun _ => none)⟩
theorem cfg106_ti105 : cfg106.ti 105 = none := rfl
theorem cfg106_pins : cfg106.pins = [] := rfl
theorem cfg106_P : cfg106.P = Try.prog := rfl
theorem cfg106_N : cfg106.N = 19 := rfl
theorem cfg106_T105 : cfg106.T 105 = e105 := rfl
theorem cfg106_mv105 : cfg106.mv 105 = (fun _ => []) := rfl
section
attribute [local go_sem] cfg106_P cfg106_N cfg106_pins cfg106_ti105 cfg106_T105 e105 cfg106_mv105 sz78 ag78 zr78 zo78 zd78 by78 el78 sl78 un78 st78 bo78 pt78 sz80 ag80 zr80 zd80 by80 sl80 st80 bo80 pt80 of80_0 fa80_0 of80_1 fa80_1 pl80
theorem con106 (hC : COk cfg106) (f : Fmt) (hp : f.fields.length ≤ 1000000) : Sem Try.prog 106 [.d (encFmt f)] (.d (.i .i64 (sizeF f))) := by
  refine sem_of_awR (C := cfg106) (rs := [.tmp 2]) (fun _ => []) Try.func106 rfl rfl rfl rfl rfl rfl ?_
  simp only [enterSl, enterHp, inO, inO2, inO1, inOs, List.append_nil, List.nil_append, Nat.mul_zero, List.cons_append, Nat.zero_add, Nat.reduceAdd, Nat.reduceMul, encDType, encVal, List.length_map, encField, encFmt, encKField, encFile, encRec]
  repeat' first
    | (with_reducible first | refine thenS_n ?_ | refine inBlockS_n ?_ | refine AW.seq ?_ | refine AW.block ?_)
    | (with_reducible first | (refine AW.runK hC ?_; intro K hK) | (refine AW.drawK hC (by kernel_rfl) ?_; intro K hK))
    | ((with_reducible first | refine erun_g ?_ | refine edraw_g ?_ | refine exitS_g ?_); refine siQ ?_; (try simp (disch := omega) only [w64, wu8]))
    | (with_reducible refine hCheck_g (by kernel_rfl) ?_)
    | ((first | (refine AW.cond rfl (fun h => ?_) (fun h => ?_)) | (refine AW.cond_ub rfl (fun h => ?_) ?_) | (refine AW.cond_nb rfl ?_ (fun h => ?_))) <;> (try replace h := boolH h) <;> (try (exfalso; first | omega | exact absurd h (by decide))))
    | (with_reducible first | refine AW.skip ?_ | refine AW.exit ?_ | refine AW.ret ?_ | refine thenS_r ?_ | refine thenS_e ?_ | refine inBlockS_r ?_ | refine inBlockS_e ?_ | refine inBlockS_e2 rfl ?_ | refine exitQ_r ?_ | refine exitQ_n ?_)
    | (refine AW.loopN 3 rfl (ι := Nat) (fun i => mkS [(3, V.d (.i .i64 (offTo f.fields i))), (7, V.d (.sl 4 (f.fields.map encField))), (8, V.d (.i .i64 (f.fields.length : Int))), (9, V.d (.i .i64 (i : Int)))] ([])) (fun i => i ≤ f.fields.length) (fun i => f.fields.length - i) (0) ?_ ?_ (fun i hi => ?_) <;> (try dsimp only) <;> (try dsimp only at hi))
    | (refine LoopNext.mk1 3 (i + 1) ?_ ?_ ?_ <;> (try dsimp only))
    | (refine sub_auto ?_; refine subQ ?_)
    | (with_reducible refine And.intro ?_ ?_)
    | (subst hK)
    | exact trivial
  all_goals (try (intros; assumption))
  all_goals (try simp only [Bool.or_eq_true, Bool.and_eq_true, Bool.or_eq_false_iff, Bool.and_eq_false_iff, Bool.not_eq_true', Bool.not_eq_false', Bool.not_eq_true, Bool.not_eq_false, decide_eq_true_eq, decide_eq_false_iff_not, beq_iff_eq, bne_iff_ne, beq_eq_false_iff_ne, bne_eq_false_iff_eq, ne_eq, Int.not_lt, Int.not_le, D.b.injEq, D.i.injEq, D.s.injEq, D.agg.injEq, D.sl.injEq, true_and, and_true, List.cons.injEq, gt_iff_lt, ge_iff_le,  Bool.cond_true_left, Bool.cond_false_right, Bool.cond_true_right, Bool.cond_false_left, seq_iff, seq_dec, dec_f, dec_t, eqB_t, eqB_f] at *)
  all_goals (try (intros; trivial))
  all_goals (try (intros; omega))
  all_goals (try (rw [w64 (by omega) (by omega)]; first | done | omega))
  all_goals (try have O1 := offTo_ok f.fields i)
  all_goals (try have W1 := widthF_ok (f.fields.getD i zField))
  all_goals clear hC
  all_goals first
    | rfl
    | (rw [offTo, w64 (by omega) (by omega)]; done)
    | (rw [sizeF, show i = f.fields.length by omega]; done)
end
noncomputable def cfg104 : Cfg := ⟨Try.prog, 81, tab106, (fun _ _ => []), [], (fun _ => none)⟩
theorem cfg104_ti90 : cfg104.ti 90 = none := rfl
theorem cfg104_ti92 : cfg104.ti 92 = none := rfl
theorem cfg104_ti100 : cfg104.ti 100 = none := rfl
theorem cfg104_ti102 : cfg104.ti 102 = none := rfl
theorem cfg104_ti105 : cfg104.ti 105 = none := rfl
theorem cfg104_ti108 : cfg104.ti 108 = none := rfl
theorem cfg104_pins : cfg104.pins = [] := rfl
theorem cfg104_P : cfg104.P = Try.prog := rfl
theorem cfg104_N : cfg104.N = 81 := rfl
theorem cfg104_T90 : cfg104.T 90 = e90 := rfl
theorem cfg104_mv90 : cfg104.mv 90 = (fun _ => []) := rfl
theorem cfg104_T92 : cfg104.T 92 = e92 := rfl
theorem cfg104_mv92 : cfg104.mv 92 = (fun _ => []) := rfl
theorem cfg104_T100 : cfg104.T 100 = e100 := rfl
theorem cfg104_mv100 : cfg104.mv 100 = (fun _ => []) := rfl
theorem cfg104_T102 : cfg104.T 102 = e102 := rfl
theorem cfg104_mv102 : cfg104.mv 102 = (fun _ => []) := rfl
theorem cfg104_T105 : cfg104.T 105 = e105 := rfl
theorem cfg104_mv105 : cfg104.mv 105 = (fun _ => []) := rfl
theorem cfg104_T108 : cfg104.T 108 = e108 := rfl
theorem cfg104_mv108 : cfg104.mv 108 = (fun _ => []) := rfl
section
attribute [local go_sem] cfg104_P cfg104_N cfg104_pins cfg104_ti90 cfg104_ti92 cfg104_ti100 cfg104_ti102 cfg104_ti105 cfg104_ti108 cfg104_T90 e90 cfg104_mv90 cfg104_T92 e92 cfg104_mv92 cfg104_T100 e100 cfg104_mv100 cfg104_T102 e102 cfg104_mv102 cfg104_T105 e105 cfg104_mv105 cfg104_T108 e108 cfg104_mv108 sz4 ag4 zr4 zo4 zd4 by4 sl4 st4 bo4 pt4 sz25 ag25 zr25 zo25 zd25 by25 sl25 st25 bo25 pt25 ck25 sz78 ag78 zr78 zo78 zd78 by78 el78 sl78 un78 st78 bo78 pt78 sz80 ag80 zr80 zd80 by80 sl80 st80 bo80 pt80 of80_0 fa80_0 of80_1 fa80_1 pl80 sz152 ag152 zr152 zo152 zd152 by152 el152 sl152 un152 st152 bo152 pt152
theorem con104 (hC : COk cfg104) (f : Fmt) (hp : f.fields.length ≤ 1000000) : Sem Try.prog 104 [.d (encFmt f)] (.tup [.d (.i .i64 (fmtErr f).1), .d (.i .i64 (fmtErr f).2)]) := by
  refine sem_of_awR (C := cfg104) (rs := [.tmp 2, .tmp 3]) (fun _ => []) Try.func104 rfl rfl rfl rfl rfl rfl ?_
  simp only [enterSl, enterHp, inO, inO2, inO1, inOs, List.append_nil, List.nil_append, Nat.mul_zero, List.cons_append, Nat.zero_add, Nat.reduceAdd, Nat.reduceMul, encDType, encVal, List.length_map, encField, encFmt, encKField, encFile, encRec]
  repeat' first
    | (with_reducible first | refine thenS_n ?_ | refine inBlockS_n ?_ | refine AW.seq ?_ | refine AW.block ?_)
    | (with_reducible first | (refine AW.runK hC ?_; intro K hK) | (refine AW.drawK hC (by kernel_rfl) ?_; intro K hK))
    | ((with_reducible first | refine erun_g ?_ | refine edraw_g ?_ | refine exitS_g ?_); refine siQ ?_; (try simp (disch := omega) only [w64, wu8]))
    | (with_reducible refine hCheck_g (by kernel_rfl) ?_)
    | ((first | (refine AW.cond rfl (fun h => ?_) (fun h => ?_)) | (refine AW.cond_ub rfl (fun h => ?_) ?_) | (refine AW.cond_nb rfl ?_ (fun h => ?_))) <;> (try replace h := boolH h) <;> (try (exfalso; first | omega | exact absurd h (by decide))))
    | (with_reducible first | refine AW.skip ?_ | refine AW.exit ?_ | refine AW.ret ?_ | refine thenS_r ?_ | refine thenS_e ?_ | refine inBlockS_r ?_ | refine inBlockS_e ?_ | refine inBlockS_e2 rfl ?_ | refine exitQ_r ?_ | refine exitQ_n ?_)
    | (refine AW.loopN 6 rfl (ι := Nat) (fun i => mkS [(1, V.ptr 16 0), (5, V.d (.i .i64 (offTo f.fields i))), (33, V.d (.sl 4 (f.fields.map encField))), (34, V.d (.i .i64 (f.fields.length : Int))), (35, V.d (.i .i64 (i : Int)))] ([(16, .live (.box 80 [.d (.s f.name), .d (.sl 4 (f.fields.map encField))]))])) (fun i => i ≤ f.fields.length ∧ (isName f.name = true ∧ 1 ≤ f.fields.length ∧ f.fields.length ≤ 20) ∧ ∀ j, j < i → fieldE f.fields j = 0) (fun i => f.fields.length - i) (0) ?_ ?_ (fun i hi => ?_) <;> (try dsimp only) <;> (try dsimp only at hi))
    | (refine LoopNext.mk1 6 (i + 1) ?_ ?_ ?_ <;> (try dsimp only))
    | (refine sub_auto ?_; refine subQ ?_)
    | (with_reducible refine And.intro ?_ ?_)
    | (subst hK)
    | exact trivial
  all_goals (try (intros; assumption))
  all_goals (try simp only [Bool.or_eq_true, Bool.and_eq_true, Bool.or_eq_false_iff, Bool.and_eq_false_iff, Bool.not_eq_true', Bool.not_eq_false', Bool.not_eq_true, Bool.not_eq_false, decide_eq_true_eq, decide_eq_false_iff_not, beq_iff_eq, bne_iff_ne, beq_eq_false_iff_ne, bne_eq_false_iff_eq, ne_eq, Int.not_lt, Int.not_le, D.b.injEq, D.i.injEq, D.s.injEq, D.agg.injEq, D.sl.injEq, true_and, and_true, List.cons.injEq, gt_iff_lt, ge_iff_le,  Bool.cond_true_left, Bool.cond_false_right, Bool.cond_true_right, Bool.cond_false_left, seq_iff, seq_dec, dec_f, dec_t, eqB_t, eqB_f] at *)
  all_goals (try (intros; trivial))
  all_goals (try (intros; omega))
  all_goals (try (rw [w64 (by omega) (by omega)]; first | done | omega))
  all_goals (try have O1 := offTo_ok f.fields i)
  all_goals (try have W1 := widthF_ok (f.fields.getD i zField))
  all_goals clear hC
  all_goals (try simp only [head_eq, fld_eq] at *)
  all_goals first
    | rfl
    | (rw [fmt_head (by assumption)]; done)
    | (rw [fmt_head (by assumption)]; rfl)
    | exact (head_ok (by assumption)).1
    | exact (head_ok (by assumption)).2.1
    | exact (head_ok (by assumption)).2.2
    | exact hi.2.1.1
    | exact hi.2.1.2.1
    | exact hi.2.1.2.2
    | (rw [fmt_bad hi.2.1 hi.2.2 (by omega) (by assumption)]; done)
    | exact all_step hi.2.2 (by assumption)
    | (rw [fmt_end hi.2.1 hi.2.2 (by omega)]; done)
    | (rw [fmt_end hi.2.1 hi.2.2 (by omega), show f.fields.length = i by omega]; done)
    | (intro d hd; first | (subst hd; exact ⟨rfl, by simp [D.cells, D.one]⟩) | (rcases hd with rfl | rfl <;> exact ⟨rfl, by simp [D.cells, D.one]⟩) | (rcases hd with rfl | rfl | rfl <;> exact ⟨rfl, by simp [D.cells, D.one]⟩) | (rcases hd with rfl | rfl | rfl | rfl <;> exact ⟨rfl, by simp [D.cells, D.one]⟩))
    | (rw [offTo, w64 (by omega) (by omega)]; done)
end
noncomputable def cfg101 : Cfg := ⟨Try.prog, 11, tab104, (fun _ _ => []), [], (fun _ => none)⟩
theorem cfg101_ti104 : cfg101.ti 104 = none := rfl
theorem cfg101_pins : cfg101.pins = [] := rfl
theorem cfg101_P : cfg101.P = Try.prog := rfl
theorem cfg101_N : cfg101.N = 11 := rfl
theorem cfg101_T104 : cfg101.T 104 = e104 := rfl
theorem cfg101_mv104 : cfg101.mv 104 = (fun _ => []) := rfl
section
attribute [local go_sem] cfg101_P cfg101_N cfg101_pins cfg101_ti104 cfg101_T104 e104 cfg101_mv104 sz78 ag78 zr78 zo78 zd78 by78 el78 sl78 un78 st78 bo78 pt78 sz80 ag80 zr80 zd80 by80 sl80 st80 bo80 pt80 of80_0 fa80_0 of80_1 fa80_1 pl80
theorem con101 (hC : COk cfg101) (f : Fmt) (hp : f.fields.length ≤ 1000000) : Sem Try.prog 101 [.d (encFmt f)] (.d (.i .i64 (fmtErr f).2)) := by
  refine sem_of_awR (C := cfg101) (rs := [.tmp 2]) (fun _ => []) Try.func101 rfl rfl rfl rfl rfl rfl ?_
  simp only [enterSl, enterHp, inO, inO2, inO1, inOs, List.append_nil, List.nil_append, Nat.mul_zero, List.cons_append, Nat.zero_add, Nat.reduceAdd, Nat.reduceMul, encDType, encVal, List.length_map, encField, encFmt, encKField, encFile, encRec]
  repeat' first
    | (with_reducible first | refine thenS_n ?_ | refine inBlockS_n ?_ | refine AW.seq ?_ | refine AW.block ?_)
    | (with_reducible first | (refine AW.runK hC ?_; intro K hK) | (refine AW.drawK hC (by kernel_rfl) ?_; intro K hK))
    | ((with_reducible first | refine erun_g ?_ | refine edraw_g ?_ | refine exitS_g ?_); refine siQ ?_; (try simp (disch := omega) only [w64, wu8]))
    | (with_reducible refine hCheck_g (by kernel_rfl) ?_)
    | ((first | (refine AW.cond rfl (fun h => ?_) (fun h => ?_)) | (refine AW.cond_ub rfl (fun h => ?_) ?_) | (refine AW.cond_nb rfl ?_ (fun h => ?_))) <;> (try replace h := boolH h) <;> (try (exfalso; first | omega | exact absurd h (by decide))))
    | (with_reducible first | refine AW.skip ?_ | refine AW.exit ?_ | refine AW.ret ?_ | refine thenS_r ?_ | refine thenS_e ?_ | refine inBlockS_r ?_ | refine inBlockS_e ?_ | refine inBlockS_e2 rfl ?_ | refine exitQ_r ?_ | refine exitQ_n ?_)
    | (refine sub_auto ?_; refine subQ ?_)
    | (with_reducible refine And.intro ?_ ?_)
    | (subst hK)
    | exact trivial
  all_goals (try (intros; assumption))
  all_goals (try simp only [Bool.or_eq_true, Bool.and_eq_true, Bool.or_eq_false_iff, Bool.and_eq_false_iff, Bool.not_eq_true', Bool.not_eq_false', Bool.not_eq_true, Bool.not_eq_false, decide_eq_true_eq, decide_eq_false_iff_not, beq_iff_eq, bne_iff_ne, beq_eq_false_iff_ne, bne_eq_false_iff_eq, ne_eq, Int.not_lt, Int.not_le, D.b.injEq, D.i.injEq, D.s.injEq, D.agg.injEq, D.sl.injEq, true_and, and_true, List.cons.injEq, gt_iff_lt, ge_iff_le,  Bool.cond_true_left, Bool.cond_false_right, Bool.cond_true_right, Bool.cond_false_left, seq_iff, seq_dec, dec_f, dec_t, eqB_t, eqB_f] at *)
  all_goals (try (intros; trivial))
  all_goals (try (intros; omega))
  all_goals (try (rw [w64 (by omega) (by omega)]; first | done | omega))
end
noncomputable def cfg98 : Cfg := ⟨Try.prog, 66, tab101, (fun _ _ => []), [], (fun _ => none)⟩
theorem cfg98_ti90 : cfg98.ti 90 = none := rfl
theorem cfg98_ti92 : cfg98.ti 92 = none := rfl
theorem cfg98_ti100 : cfg98.ti 100 = none := rfl
theorem cfg98_ti101 : cfg98.ti 101 = none := rfl
theorem cfg98_ti102 : cfg98.ti 102 = none := rfl
theorem cfg98_pins : cfg98.pins = [] := rfl
theorem cfg98_P : cfg98.P = Try.prog := rfl
theorem cfg98_N : cfg98.N = 66 := rfl
theorem cfg98_T90 : cfg98.T 90 = e90 := rfl
theorem cfg98_mv90 : cfg98.mv 90 = (fun _ => []) := rfl
theorem cfg98_T92 : cfg98.T 92 = e92 := rfl
theorem cfg98_mv92 : cfg98.mv 92 = (fun _ => []) := rfl
theorem cfg98_T100 : cfg98.T 100 = e100 := rfl
theorem cfg98_mv100 : cfg98.mv 100 = (fun _ => []) := rfl
theorem cfg98_T101 : cfg98.T 101 = e101 := rfl
theorem cfg98_mv101 : cfg98.mv 101 = (fun _ => []) := rfl
theorem cfg98_T102 : cfg98.T 102 = e102 := rfl
theorem cfg98_mv102 : cfg98.mv 102 = (fun _ => []) := rfl
section
attribute [local go_sem] cfg98_P cfg98_N cfg98_pins cfg98_ti90 cfg98_ti92 cfg98_ti100 cfg98_ti101 cfg98_ti102 cfg98_T90 e90 cfg98_mv90 cfg98_T92 e92 cfg98_mv92 cfg98_T100 e100 cfg98_mv100 cfg98_T101 e101 cfg98_mv101 cfg98_T102 e102 cfg98_mv102 sz4 ag4 zr4 zo4 zd4 by4 sl4 st4 bo4 pt4 sz25 ag25 zr25 zo25 zd25 by25 sl25 st25 bo25 pt25 ck25 sz78 ag78 zr78 zo78 zd78 by78 el78 sl78 un78 st78 bo78 pt78 sz80 ag80 zr80 zd80 by80 sl80 st80 bo80 pt80 of80_0 fa80_0 of80_1 fa80_1 pl80 sz81 ag81 zr81 zo81 zd81 by81 el81 sl81 un81 st81 bo81 pt81 sz83 ag83 zr83 zd83 by83 sl83 st83 bo83 pt83 of83_0 fa83_0 of83_1 fa83_1 of83_2 fa83_2 of83_3 fa83_3 pl83 sz108 ag108 zr108 zd108 by108 sl108 st108 bo108 pt108 of108_0 fa108_0 of108_1 fa108_1 pl108 ek108 sz152 ag152 zr152 zo152 zd152 by152 el152 sl152 un152 st152 bo152 pt152 sz156 ag156 by156 sl156 st156 bo156 pt156 mt156
attribute [local go_sem] isKs rhoVs_keys vss_keys
attribute [local go_sem ↓] look_any
theorem con98 (hC : COk cfg98) (f : File) (hp : f.format.fields.length ≤ 1000000 ∧ f.keys.length ≤ 1000000) : Sem Try.prog 98 [.d (encFile f)] (.tup [.d (.i .i64 (fileErr f).1), .d (.i .i64 (fileErr f).2)]) := by
  refine sem_of_awR (C := cfg98) (rs := [.tmp 2, .tmp 3]) (fun _ => []) Try.func98 rfl rfl rfl rfl rfl rfl ?_
  simp only [enterSl, enterHp, inO, inO2, inO1, inOs, List.append_nil, List.nil_append, Nat.mul_zero, List.cons_append, Nat.zero_add, Nat.reduceAdd, Nat.reduceMul, encDType, encVal, List.length_map, encField, encFmt, encKField, encFile, encRec]
  repeat' first
    | (with_reducible first | refine thenS_n ?_ | refine inBlockS_n ?_ | refine AW.seq ?_ | refine AW.block ?_)
    | (refine AW.atR 12 rfl ?_; have hE : keyE f i = 0 := (by rw [← key_eq]; exact h); have hk := keys_snoc (f := f) (i := i) (by omega) hE; have hv := keysV_snoc (f := f) (i := i) (by omega) hE; have hx := keyIdx_none (keyE_ok hE); have hy := keyVs_snoc2 (f := f) (i := i) (by omega); have hz := keyKs_snoc2 (f := f) (i := i) (by omega))
    | (with_reducible first | (refine AWh.runK hC ?_; intro K hK) | (refine AWh.drawK hC (by kernel_rfl) ?_; intro K hK))
    | (with_reducible first | (refine AW.runK hC ?_; intro K hK) | (refine AW.drawK hC (by kernel_rfl) ?_; intro K hK))
    | ((with_reducible first | refine erun_g ?_ | refine edraw_g ?_ | refine exitS_g ?_); (first | (simp (maxSteps := 1000000) only [go_sem, ↓reduceIte, reduceCtorEq, Nat.reduceEqDiff, Nat.reduceLT, Nat.reduceLeDiff, Nat.reduceMul, Nat.reduceAdd, Nat.reduceSub, reduceDIte, Nat.reduceBEq, Nat.reduceBNe, hk, hv, hx, hy, hz]) | (refine siQ ?_)); (try simp (disch := omega) only [w64, wu8]))
    | (with_reducible refine hCheck_g (by kernel_rfl) ?_)
    | ((first | (refine AW.cond rfl (fun h => ?_) (fun h => ?_)) | (refine AW.cond_ub rfl (fun h => ?_) ?_) | (refine AW.cond_nb rfl ?_ (fun h => ?_))) <;> (try replace h := boolH h) <;> (try (exfalso; first | omega | exact absurd h (by decide))))
    | (with_reducible first | refine AW.skip ?_ | refine AW.exit ?_ | refine AW.ret ?_ | refine thenS_r ?_ | refine thenS_e ?_ | refine inBlockS_r ?_ | refine inBlockS_e ?_ | refine inBlockS_e2 rfl ?_ | refine exitQ_r ?_ | refine exitQ_n ?_)
    | (refine AW.loopN 6 rfl (ι := Nat) (fun i => mkS [(1, V.ptr 16 0), (5, V.mref 80), (32, V.d (.sl 2 (f.keys.map encKField))), (33, V.d (.i .i64 (f.keys.length : Int))), (34, V.d (.i .i64 (i : Int)))] ([(16, .live (.box 83 [.d (.s f.name), .d (.s f.format.name), .d (.sl 4 (f.format.fields.map encField)), .d (.sl 2 (f.keys.map encKField)), .d (.b f.unique)])), (80, .live (.mp 156 ((f.keys.take i).map keyD) (keyVs (f.keys.take i))))])) (fun i => i ≤ f.keys.length ∧ (isName f.name = true ∧ (fmtErr f.format).2 = 0 ∧ f.keys.length ≤ 4) ∧ ∀ j, j < i → keyE f j = 0) (fun i => f.keys.length - i) (0) ?_ ?_ (fun i hi => ?_) <;> (try dsimp only) <;> (try dsimp only at hi))
    | (refine LoopNext.mk1 6 (i + 1) ?_ ?_ ?_ <;> (try dsimp only))
    | (refine sub_auto ?_; refine subQ ?_)
    | (with_reducible refine And.intro ?_ ?_)
    | (subst hK)
    | exact trivial
  all_goals (try (intros; assumption))
  all_goals (try simp only [Bool.or_eq_true, Bool.and_eq_true, Bool.or_eq_false_iff, Bool.and_eq_false_iff, Bool.not_eq_true', Bool.not_eq_false', Bool.not_eq_true, Bool.not_eq_false, decide_eq_true_eq, decide_eq_false_iff_not, beq_iff_eq, bne_iff_ne, beq_eq_false_iff_ne, bne_eq_false_iff_eq, ne_eq, Int.not_lt, Int.not_le, D.b.injEq, D.i.injEq, D.s.injEq, D.agg.injEq, D.sl.injEq, true_and, and_true, List.cons.injEq, gt_iff_lt, ge_iff_le,  Bool.cond_true_left, Bool.cond_false_right, Bool.cond_true_right, Bool.cond_false_left, seq_iff, seq_dec, dec_f, dec_t, eqB_t, eqB_f] at *)
  all_goals (try (intros; trivial))
  all_goals (try (intros; omega))
  all_goals (try (rw [w64 (by omega) (by omega)]; first | done | omega))
  all_goals clear hC
  all_goals (try simp only [fhead_eq, key_eq] at *)
  all_goals first
    | rfl
    | exact isKks _
    | exact sh1_keys _
    | (rw [file_head (by assumption)]; done)
    | (rw [file_head (by assumption)]; rfl)
    | exact (fhead_ok (by assumption)).1
    | exact (fhead_ok (by assumption)).2.1
    | exact (fhead_ok (by assumption)).2.2
    | exact hi.2.1.1
    | exact hi.2.1.2.1
    | exact hi.2.1.2.2
    | (rw [file_bad hi.2.1 hi.2.2 (by omega) (by assumption)]; done)
    | exact all_step hi.2.2 (by assumption)
    | (rw [file_end hi.2.1 hi.2.2 (by omega)]; done)
    | (rw [keys_snoc (by omega) (by assumption)]; exact dles_refl _)
    | (intro d hd; first | (subst hd; exact ⟨rfl, by simp [D.cells, D.one]⟩) | (rcases hd with rfl | rfl <;> exact ⟨rfl, by simp [D.cells, D.one]⟩) | (rcases hd with rfl | rfl | rfl <;> exact ⟨rfl, by simp [D.cells, D.one]⟩) | (rcases hd with rfl | rfl | rfl | rfl <;> exact ⟨rfl, by simp [D.cells, D.one]⟩))
end
noncomputable def cfg91 : Cfg := ⟨Try.prog, 11, tab98, (fun _ _ => []), [], (fun _ => none)⟩
theorem cfg91_ti98 : cfg91.ti 98 = none := rfl
theorem cfg91_pins : cfg91.pins = [] := rfl
theorem cfg91_P : cfg91.P = Try.prog := rfl
theorem cfg91_N : cfg91.N = 11 := rfl
theorem cfg91_T98 : cfg91.T 98 = e98 := rfl
theorem cfg91_mv98 : cfg91.mv 98 = (fun _ => []) := rfl
section
attribute [local go_sem] cfg91_P cfg91_N cfg91_pins cfg91_ti98 cfg91_T98 e98 cfg91_mv98 sz4 ag4 zr4 zo4 zd4 by4 sl4 st4 bo4 pt4 sz78 ag78 zr78 zo78 zd78 by78 el78 sl78 un78 st78 bo78 pt78 sz80 ag80 zr80 zd80 by80 sl80 st80 bo80 pt80 of80_0 fa80_0 of80_1 fa80_1 pl80 sz81 ag81 zr81 zo81 zd81 by81 el81 sl81 un81 st81 bo81 pt81 sz83 ag83 zr83 zd83 by83 sl83 st83 bo83 pt83 of83_0 fa83_0 of83_1 fa83_1 of83_2 fa83_2 of83_3 fa83_3 pl83 sz108 ag108 zr108 zd108 by108 sl108 st108 bo108 pt108 of108_0 fa108_0 of108_1 fa108_1 pl108 ek108
theorem con91 (hC : COk cfg91) (f : File) (hp : f.format.fields.length ≤ 1000000 ∧ f.keys.length ≤ 1000000) : Sem Try.prog 91 [.d (encFile f)] (.d (.i .i64 (fileErr f).2)) := by
  refine sem_of_awR (C := cfg91) (rs := [.tmp 2]) (fun _ => []) Try.func91 rfl rfl rfl rfl rfl rfl ?_
  simp only [enterSl, enterHp, inO, inO2, inO1, inOs, List.append_nil, List.nil_append, Nat.mul_zero, List.cons_append, Nat.zero_add, Nat.reduceAdd, Nat.reduceMul, encDType, encVal, List.length_map, encField, encFmt, encKField, encFile, encRec]
  repeat' first
    | (with_reducible first | refine thenS_n ?_ | refine inBlockS_n ?_ | refine AW.seq ?_ | refine AW.block ?_)
    | (with_reducible first | (refine AW.runK hC ?_; intro K hK) | (refine AW.drawK hC (by kernel_rfl) ?_; intro K hK))
    | ((with_reducible first | refine erun_g ?_ | refine edraw_g ?_ | refine exitS_g ?_); refine siQ ?_; (try simp (disch := omega) only [w64, wu8]))
    | (with_reducible refine hCheck_g (by kernel_rfl) ?_)
    | ((first | (refine AW.cond rfl (fun h => ?_) (fun h => ?_)) | (refine AW.cond_ub rfl (fun h => ?_) ?_) | (refine AW.cond_nb rfl ?_ (fun h => ?_))) <;> (try replace h := boolH h) <;> (try (exfalso; first | omega | exact absurd h (by decide))))
    | (with_reducible first | refine AW.skip ?_ | refine AW.exit ?_ | refine AW.ret ?_ | refine thenS_r ?_ | refine thenS_e ?_ | refine inBlockS_r ?_ | refine inBlockS_e ?_ | refine inBlockS_e2 rfl ?_ | refine exitQ_r ?_ | refine exitQ_n ?_)
    | (refine sub_auto ?_; refine subQ ?_)
    | (with_reducible refine And.intro ?_ ?_)
    | (subst hK)
    | exact trivial
  all_goals (try (intros; assumption))
  all_goals (try simp only [Bool.or_eq_true, Bool.and_eq_true, Bool.or_eq_false_iff, Bool.and_eq_false_iff, Bool.not_eq_true', Bool.not_eq_false', Bool.not_eq_true, Bool.not_eq_false, decide_eq_true_eq, decide_eq_false_iff_not, beq_iff_eq, bne_iff_ne, beq_eq_false_iff_ne, bne_eq_false_iff_eq, ne_eq, Int.not_lt, Int.not_le, D.b.injEq, D.i.injEq, D.s.injEq, D.agg.injEq, D.sl.injEq, true_and, and_true, List.cons.injEq, gt_iff_lt, ge_iff_le,  Bool.cond_true_left, Bool.cond_false_right, Bool.cond_true_right, Bool.cond_false_left, seq_iff, seq_dec, dec_f, dec_t, eqB_t, eqB_f] at *)
  all_goals (try (intros; trivial))
  all_goals (try (intros; omega))
  all_goals (try (rw [w64 (by omega) (by omega)]; first | done | omega))
end
noncomputable def cfg107 : Cfg := ⟨Try.prog, 47, tab91, (fun _ _ => []), [], (fun _ => none)⟩
theorem cfg107_ti105 : cfg107.ti 105 = none := rfl
theorem cfg107_ti110 : cfg107.ti 110 = none := rfl
theorem cfg107_pins : cfg107.pins = [] := rfl
theorem cfg107_P : cfg107.P = Try.prog := rfl
theorem cfg107_N : cfg107.N = 47 := rfl
theorem cfg107_T105 : cfg107.T 105 = e105 := rfl
theorem cfg107_mv105 : cfg107.mv 105 = (fun _ => []) := rfl
theorem cfg107_T110 : cfg107.T 110 = e110 := rfl
theorem cfg107_mv110 : cfg107.mv 110 = (fun _ => []) := rfl
section
attribute [local go_sem] cfg107_P cfg107_N cfg107_pins cfg107_ti105 cfg107_ti110 cfg107_T105 e105 cfg107_mv105 cfg107_T110 e110 cfg107_mv110 sz25 ag25 zr25 zo25 zd25 by25 sl25 st25 bo25 pt25 ck25 sz78 ag78 zr78 zo78 zd78 by78 el78 sl78 un78 st78 bo78 pt78 sz80 ag80 zr80 zd80 by80 sl80 st80 bo80 pt80 of80_0 fa80_0 of80_1 fa80_1 pl80 sz159 ag159 zr159 zo159 zd159 by159 el159 sl159 un159 st159 bo159 pt159 sz169 ag169 zr169 zd169 by169 sl169 st169 bo169 pt169 of169_0 fa169_0 of169_1 fa169_1 pl169 ek169
theorem con107 (hC : COk cfg107) (f : Fmt) (b : ByteArray) (hp : f.fields.length ≤ 1000 ∧ (b.size : Int) = sizeF f) : Sem Try.prog 107 [.d (encFmt f), .d (.s b)] (.tup [.d (.sl 2 ((decodedC f b).1.map encVal)), .d (.i .i64 (decodedC f b).2.1), .d (.i .i64 (decodedC f b).2.2)]) := by
  refine sem_of_awR (C := cfg107) (rs := [.tmp 4, .tmp 5, .tmp 6]) (fun _ => []) Try.func107 rfl rfl rfl rfl rfl rfl ?_
  simp only [enterSl, enterHp, inO, inO2, inO1, inOs, List.append_nil, List.nil_append, Nat.mul_zero, List.cons_append, Nat.zero_add, Nat.reduceAdd, Nat.reduceMul, encDType, encVal, List.length_map, encField, encFmt, encKField, encFile, encRec]
  repeat' first
    | (with_reducible first | refine thenS_n ?_ | refine inBlockS_n ?_ | refine AW.seq ?_ | refine AW.block ?_)
    | (with_reducible first | (refine AW.runK hC ?_; intro K hK) | (refine AW.drawK hC (by kernel_rfl) ?_; intro K hK))
    | ((with_reducible first | refine erun_g ?_ | refine edraw_g ?_ | refine exitS_g ?_); refine siQ ?_; (try simp (disch := omega) only [w64, wu8]))
    | (with_reducible refine hCheck_g (by kernel_rfl) ?_)
    | ((first | (refine AW.cond rfl (fun h => ?_) (fun h => ?_)) | (refine AW.cond_ub rfl (fun h => ?_) ?_) | (refine AW.cond_nb rfl ?_ (fun h => ?_))) <;> (try replace h := boolH h) <;> (try (exfalso; first | omega | exact absurd h (by decide))))
    | (with_reducible first | refine AW.skip ?_ | refine AW.exit ?_ | refine AW.ret ?_ | refine thenS_r ?_ | refine thenS_e ?_ | refine inBlockS_r ?_ | refine inBlockS_e ?_ | refine inBlockS_e2 rfl ?_ | refine exitQ_r ?_ | refine exitQ_n ?_)
    | (refine AW.loopN 3 rfl (ι := Nat) (fun i => mkS [(1, V.d (.s (b.extract (offTo f.fields i).toNat b.size))), (7, V.row 112 2 0 (valsTo f b i).length), (15, V.d (.sl 4 (f.fields.map encField))), (16, V.d (.i .i64 (f.fields.length : Int))), (17, V.d (.i .i64 (i : Int)))] ([(112, .live (.row 169 2 false ((valsTo f b i).map encVal)))])) (fun i => i ≤ f.fields.length ∧ ∀ j, j < i → partE f b j = 0) (fun i => f.fields.length - i) (0) ?_ ?_ (fun i hi => ?_) <;> (try dsimp only) <;> (try dsimp only at hi))
    | (refine LoopNext.mk1 3 (i + 1) ?_ ?_ ?_ <;> (try dsimp only))
    | (refine sub_auto ?_; refine subQ ?_)
    | (with_reducible refine And.intro ?_ ?_)
    | (subst hK)
    | exact trivial
  all_goals (try (intros; assumption))
  all_goals (try simp only [Bool.or_eq_true, Bool.and_eq_true, Bool.or_eq_false_iff, Bool.and_eq_false_iff, Bool.not_eq_true', Bool.not_eq_false', Bool.not_eq_true, Bool.not_eq_false, decide_eq_true_eq, decide_eq_false_iff_not, beq_iff_eq, bne_iff_ne, beq_eq_false_iff_ne, bne_eq_false_iff_eq, ne_eq, Int.not_lt, Int.not_le, D.b.injEq, D.i.injEq, D.s.injEq, D.agg.injEq, D.sl.injEq, true_and, and_true, List.cons.injEq, gt_iff_lt, ge_iff_le,  Bool.cond_true_left, Bool.cond_false_right, Bool.cond_true_right, Bool.cond_false_left, seq_iff, seq_dec, dec_f, dec_t, eqB_t, eqB_f] at *)
  all_goals (try (intros; trivial))
  all_goals (try (intros; omega))
  all_goals (try (rw [w64 (by omega) (by omega)]; first | done | omega))
  all_goals (try have O1 := offTo_ok f.fields i)
  all_goals (try have W1 := widthF_ok (f.fields.getD i zField))
  all_goals (try have VL := valsTo_len f b i)
  all_goals (try have PI := part_size (f := f) (b := b) (i := i) hp.2 (by omega))
  all_goals (try have PE := part_err (f := f) (b := b) (i := i) hp.2 (by omega))
  all_goals clear hC
  all_goals (try simp only [PE] at *)
  all_goals first
    | rfl
    | omega
    | exact ext_all b
    | exact PI
    | (rw [dec_bad hi.2 (by omega) (by assumption)]; done)
    | (rw [dec_bad hi.2 (by omega) (by assumption)]; rfl)
    | exact all_step hi.2 (by assumption)
    | exact rest_eq hp.2 (by omega)
    | (rw [rest_eq hp.2 (by omega)]; exact dles_refl _)
    | (rw [valsTo, List.length_append]; rfl)
    | (rw [valsTo, List.map_append]; exact dles_refl _)
    | (rw [dec_end hi.2 (by omega)]; done)
    | (rw [dec_end hi.2 (by omega), show f.fields.length = i by omega]; exact dles_refl _)
    | (intro d hd; first | (subst hd; exact ⟨rfl, by simp [D.cells, D.one]⟩) | (rcases hd with rfl | rfl <;> exact ⟨rfl, by simp [D.cells, D.one]⟩) | (rcases hd with rfl | rfl | rfl <;> exact ⟨rfl, by simp [D.cells, D.one]⟩) | (rcases hd with rfl | rfl | rfl | rfl <;> exact ⟨rfl, by simp [D.cells, D.one]⟩))
end
noncomputable def cfg103 : Cfg := ⟨Try.prog, 24, tab107, (fun _ _ => []), [], (fun _ => none)⟩
theorem cfg103_ti101 : cfg103.ti 101 = none := rfl
theorem cfg103_ti106 : cfg103.ti 106 = none := rfl
theorem cfg103_ti107 : cfg103.ti 107 = none := rfl
theorem cfg103_pins : cfg103.pins = [] := rfl
theorem cfg103_P : cfg103.P = Try.prog := rfl
theorem cfg103_N : cfg103.N = 24 := rfl
theorem cfg103_T101 : cfg103.T 101 = e101 := rfl
theorem cfg103_mv101 : cfg103.mv 101 = (fun _ => []) := rfl
theorem cfg103_T106 : cfg103.T 106 = e106 := rfl
theorem cfg103_mv106 : cfg103.mv 106 = (fun _ => []) := rfl
theorem cfg103_T107 : cfg103.T 107 = e107 := rfl
theorem cfg103_mv107 : cfg103.mv 107 = (fun _ => []) := rfl
section
attribute [local go_sem] cfg103_P cfg103_N cfg103_pins cfg103_ti101 cfg103_ti106 cfg103_ti107 cfg103_T101 e101 cfg103_mv101 cfg103_T106 e106 cfg103_mv106 cfg103_T107 e107 cfg103_mv107 sz25 ag25 zr25 zo25 zd25 by25 sl25 st25 bo25 pt25 ck25 sz78 ag78 zr78 zo78 zd78 by78 el78 sl78 un78 st78 bo78 pt78 sz80 ag80 zr80 zd80 by80 sl80 st80 bo80 pt80 of80_0 fa80_0 of80_1 fa80_1 pl80
theorem con103 (hC : COk cfg103) (f : Fmt) (b : ByteArray) (hp : f.fields.length ≤ 1000000) : Sem Try.prog 103 [.d (encFmt f), .d (.s b)] (.tup [.d (.sl 2 ((valuesC f b).1.map encVal)), .d (.i .i64 (valuesC f b).2.1), .d (.i .i64 (valuesC f b).2.2)]) := by
  refine sem_of_awR (C := cfg103) (rs := [.tmp 4, .tmp 5, .tmp 6]) (fun _ => []) Try.func103 rfl rfl rfl rfl rfl rfl ?_
  simp only [enterSl, enterHp, inO, inO2, inO1, inOs, List.append_nil, List.nil_append, Nat.mul_zero, List.cons_append, Nat.zero_add, Nat.reduceAdd, Nat.reduceMul, encDType, encVal, List.length_map, encField, encFmt, encKField, encFile, encRec]
  repeat' first
    | (with_reducible first | refine thenS_n ?_ | refine inBlockS_n ?_ | refine AW.seq ?_ | refine AW.block ?_)
    | (with_reducible first | (refine AW.runK hC ?_; intro K hK) | (refine AW.drawK hC (by kernel_rfl) ?_; intro K hK))
    | ((with_reducible first | refine erun_g ?_ | refine edraw_g ?_ | refine exitS_g ?_); refine siQ ?_; (try simp (disch := omega) only [w64, wu8]))
    | (with_reducible refine hCheck_g (by kernel_rfl) ?_)
    | ((first | (refine AW.cond rfl (fun h => ?_) (fun h => ?_)) | (refine AW.cond_ub rfl (fun h => ?_) ?_) | (refine AW.cond_nb rfl ?_ (fun h => ?_))) <;> (try replace h := boolH h) <;> (try (exfalso; first | omega | exact absurd h (by decide))))
    | (with_reducible first | refine AW.skip ?_ | refine AW.exit ?_ | refine AW.ret ?_ | refine thenS_r ?_ | refine thenS_e ?_ | refine inBlockS_r ?_ | refine inBlockS_e ?_ | refine inBlockS_e2 rfl ?_ | refine exitQ_r ?_ | refine exitQ_n ?_)
    | (refine sub_auto ?_; refine subQ ?_)
    | (with_reducible refine And.intro ?_ ?_)
    | (subst hK)
    | exact trivial
  all_goals (try (intros; assumption))
  all_goals (try simp only [Bool.or_eq_true, Bool.and_eq_true, Bool.or_eq_false_iff, Bool.and_eq_false_iff, Bool.not_eq_true', Bool.not_eq_false', Bool.not_eq_true, Bool.not_eq_false, decide_eq_true_eq, decide_eq_false_iff_not, beq_iff_eq, bne_iff_ne, beq_eq_false_iff_ne, bne_eq_false_iff_eq, ne_eq, Int.not_lt, Int.not_le, D.b.injEq, D.i.injEq, D.s.injEq, D.agg.injEq, D.sl.injEq, true_and, and_true, List.cons.injEq, gt_iff_lt, ge_iff_le,  Bool.cond_true_left, Bool.cond_false_right, Bool.cond_true_right, Bool.cond_false_left, seq_iff, seq_dec, dec_f, dec_t, eqB_t, eqB_f] at *)
  all_goals (try (intros; trivial))
  all_goals (try (intros; omega))
  all_goals (try (rw [w64 (by omega) (by omega)]; first | done | omega))
  all_goals clear hC
  all_goals (try have FO := fmt_ok (f := f) (by assumption))
  all_goals first
    | omega
    | (rw [val_fmt (by assumption)]; done)
    | (rw [val_fmt (by assumption)]; rfl)
    | (rw [val_len (by assumption) (by assumption)]; done)
    | (rw [val_len (by assumption) (by assumption)]; rfl)
    | (rw [val_dec (by assumption) (by assumption)]; done)
    | (rw [val_dec (by assumption) (by assumption)]; exact dles_refl _)
    | assumption
end
noncomputable def cfg99 : Cfg := ⟨Try.prog, 18, tab103, (fun _ _ => []), [], (fun _ => none)⟩
theorem cfg99_ti103 : cfg99.ti 103 = none := rfl
theorem cfg99_pins : cfg99.pins = [] := rfl
theorem cfg99_P : cfg99.P = Try.prog := rfl
theorem cfg99_N : cfg99.N = 18 := rfl
theorem cfg99_T103 : cfg99.T 103 = e103 := rfl
theorem cfg99_mv103 : cfg99.mv 103 = (fun _ => []) := rfl
section
attribute [local go_sem] cfg99_P cfg99_N cfg99_pins cfg99_ti103 cfg99_T103 e103 cfg99_mv103 sz78 ag78 zr78 zo78 zd78 by78 el78 sl78 un78 st78 bo78 pt78 sz80 ag80 zr80 zd80 by80 sl80 st80 bo80 pt80 of80_0 fa80_0 of80_1 fa80_1 pl80
theorem con99 (hC : COk cfg99) (f : Fmt) (b : ByteArray) (hp : f.fields.length ≤ 1000000) : Sem Try.prog 99 [.d (encFmt f), .d (.s b)] (.tup [.d (.i .i64 (valuesC f b).2.1), .d (.i .i64 (valuesC f b).2.2)]) := by
  refine sem_of_awR (C := cfg99) (rs := [.tmp 4, .tmp 5]) (fun _ => []) Try.func99 rfl rfl rfl rfl rfl rfl ?_
  simp only [enterSl, enterHp, inO, inO2, inO1, inOs, List.append_nil, List.nil_append, Nat.mul_zero, List.cons_append, Nat.zero_add, Nat.reduceAdd, Nat.reduceMul, encDType, encVal, List.length_map, encField, encFmt, encKField, encFile, encRec]
  repeat' first
    | (with_reducible first | refine thenS_n ?_ | refine inBlockS_n ?_ | refine AW.seq ?_ | refine AW.block ?_)
    | (with_reducible first | (refine AW.runK hC ?_; intro K hK) | (refine AW.drawK hC (by kernel_rfl) ?_; intro K hK))
    | ((with_reducible first | refine erun_g ?_ | refine edraw_g ?_ | refine exitS_g ?_); refine siQ ?_; (try simp (disch := omega) only [w64, wu8]))
    | (with_reducible refine hCheck_g (by kernel_rfl) ?_)
    | ((first | (refine AW.cond rfl (fun h => ?_) (fun h => ?_)) | (refine AW.cond_ub rfl (fun h => ?_) ?_) | (refine AW.cond_nb rfl ?_ (fun h => ?_))) <;> (try replace h := boolH h) <;> (try (exfalso; first | omega | exact absurd h (by decide))))
    | (with_reducible first | refine AW.skip ?_ | refine AW.exit ?_ | refine AW.ret ?_ | refine thenS_r ?_ | refine thenS_e ?_ | refine inBlockS_r ?_ | refine inBlockS_e ?_ | refine inBlockS_e2 rfl ?_ | refine exitQ_r ?_ | refine exitQ_n ?_)
    | (refine sub_auto ?_; refine subQ ?_)
    | (with_reducible refine And.intro ?_ ?_)
    | (subst hK)
    | exact trivial
  all_goals (try (intros; assumption))
  all_goals (try simp only [Bool.or_eq_true, Bool.and_eq_true, Bool.or_eq_false_iff, Bool.and_eq_false_iff, Bool.not_eq_true', Bool.not_eq_false', Bool.not_eq_true, Bool.not_eq_false, decide_eq_true_eq, decide_eq_false_iff_not, beq_iff_eq, bne_iff_ne, beq_eq_false_iff_ne, bne_eq_false_iff_eq, ne_eq, Int.not_lt, Int.not_le, D.b.injEq, D.i.injEq, D.s.injEq, D.agg.injEq, D.sl.injEq, true_and, and_true, List.cons.injEq, gt_iff_lt, ge_iff_le,  Bool.cond_true_left, Bool.cond_false_right, Bool.cond_true_right, Bool.cond_false_left, seq_iff, seq_dec, dec_f, dec_t, eqB_t, eqB_f] at *)
  all_goals (try (intros; trivial))
  all_goals (try (intros; omega))
  all_goals (try (rw [w64 (by omega) (by omega)]; first | done | omega))
end
noncomputable def cfg93 : Cfg := ⟨Try.prog, 14, tab99, (fun _ _ => []), [], (fun _ => none)⟩
theorem cfg93_ti99 : cfg93.ti 99 = none := rfl
theorem cfg93_pins : cfg93.pins = [] := rfl
theorem cfg93_P : cfg93.P = Try.prog := rfl
theorem cfg93_N : cfg93.N = 14 := rfl
theorem cfg93_T99 : cfg93.T 99 = e99 := rfl
theorem cfg93_mv99 : cfg93.mv 99 = (fun _ => []) := rfl
section
attribute [local go_sem] cfg93_P cfg93_N cfg93_pins cfg93_ti99 cfg93_T99 e99 cfg93_mv99 sz78 ag78 zr78 zo78 zd78 by78 el78 sl78 un78 st78 bo78 pt78 sz80 ag80 zr80 zd80 by80 sl80 st80 bo80 pt80 of80_0 fa80_0 of80_1 fa80_1 pl80
theorem con93 (hC : COk cfg93) (f : Fmt) (b : ByteArray) (hp : f.fields.length ≤ 1000000) : Sem Try.prog 93 [.d (encFmt f), .d (.s b)] (.d (.i .i64 (valuesC f b).2.2)) := by
  refine sem_of_awR (C := cfg93) (rs := [.tmp 4]) (fun _ => []) Try.func93 rfl rfl rfl rfl rfl rfl ?_
  simp only [enterSl, enterHp, inO, inO2, inO1, inOs, List.append_nil, List.nil_append, Nat.mul_zero, List.cons_append, Nat.zero_add, Nat.reduceAdd, Nat.reduceMul, encDType, encVal, List.length_map, encField, encFmt, encKField, encFile, encRec]
  repeat' first
    | (with_reducible first | refine thenS_n ?_ | refine inBlockS_n ?_ | refine AW.seq ?_ | refine AW.block ?_)
    | (with_reducible first | (refine AW.runK hC ?_; intro K hK) | (refine AW.drawK hC (by kernel_rfl) ?_; intro K hK))
    | ((with_reducible first | refine erun_g ?_ | refine edraw_g ?_ | refine exitS_g ?_); refine siQ ?_; (try simp (disch := omega) only [w64, wu8]))
    | (with_reducible refine hCheck_g (by kernel_rfl) ?_)
    | ((first | (refine AW.cond rfl (fun h => ?_) (fun h => ?_)) | (refine AW.cond_ub rfl (fun h => ?_) ?_) | (refine AW.cond_nb rfl ?_ (fun h => ?_))) <;> (try replace h := boolH h) <;> (try (exfalso; first | omega | exact absurd h (by decide))))
    | (with_reducible first | refine AW.skip ?_ | refine AW.exit ?_ | refine AW.ret ?_ | refine thenS_r ?_ | refine thenS_e ?_ | refine inBlockS_r ?_ | refine inBlockS_e ?_ | refine inBlockS_e2 rfl ?_ | refine exitQ_r ?_ | refine exitQ_n ?_)
    | (refine sub_auto ?_; refine subQ ?_)
    | (with_reducible refine And.intro ?_ ?_)
    | (subst hK)
    | exact trivial
  all_goals (try (intros; assumption))
  all_goals (try simp only [Bool.or_eq_true, Bool.and_eq_true, Bool.or_eq_false_iff, Bool.and_eq_false_iff, Bool.not_eq_true', Bool.not_eq_false', Bool.not_eq_true, Bool.not_eq_false, decide_eq_true_eq, decide_eq_false_iff_not, beq_iff_eq, bne_iff_ne, beq_eq_false_iff_ne, bne_eq_false_iff_eq, ne_eq, Int.not_lt, Int.not_le, D.b.injEq, D.i.injEq, D.s.injEq, D.agg.injEq, D.sl.injEq, true_and, and_true, List.cons.injEq, gt_iff_lt, ge_iff_le,  Bool.cond_true_left, Bool.cond_false_right, Bool.cond_true_right, Bool.cond_false_left, seq_iff, seq_dec, dec_f, dec_t, eqB_t, eqB_f] at *)
  all_goals (try (intros; trivial))
  all_goals (try (intros; omega))
  all_goals (try (rw [w64 (by omega) (by omega)]; first | done | omega))
end
noncomputable def cfg77 : Cfg := ⟨Try.prog, 47, tab93, (fun _ _ => []), [], (fun _ => none)⟩
theorem cfg77_ti90 : cfg77.ti 90 = none := rfl
theorem cfg77_ti91 : cfg77.ti 91 = none := rfl
theorem cfg77_ti92 : cfg77.ti 92 = none := rfl
theorem cfg77_ti93 : cfg77.ti 93 = none := rfl
theorem cfg77_pins : cfg77.pins = [] := rfl
theorem cfg77_P : cfg77.P = Try.prog := rfl
theorem cfg77_N : cfg77.N = 47 := rfl
theorem cfg77_T90 : cfg77.T 90 = e90 := rfl
theorem cfg77_mv90 : cfg77.mv 90 = (fun _ => []) := rfl
theorem cfg77_T91 : cfg77.T 91 = e91 := rfl
theorem cfg77_mv91 : cfg77.mv 91 = (fun _ => []) := rfl
theorem cfg77_T92 : cfg77.T 92 = e92 := rfl
theorem cfg77_mv92 : cfg77.mv 92 = (fun _ => []) := rfl
theorem cfg77_T93 : cfg77.T 93 = e93 := rfl
theorem cfg77_mv93 : cfg77.mv 93 = (fun _ => []) := rfl
section
attribute [local go_sem] cfg77_P cfg77_N cfg77_pins cfg77_ti90 cfg77_ti91 cfg77_ti92 cfg77_ti93 cfg77_T90 e90 cfg77_mv90 cfg77_T91 e91 cfg77_mv91 cfg77_T92 e92 cfg77_mv92 cfg77_T93 e93 cfg77_mv93 sz4 ag4 zr4 zo4 zd4 by4 sl4 st4 bo4 pt4 sz25 ag25 zr25 zo25 zd25 by25 sl25 st25 bo25 pt25 ck25 sz78 ag78 zr78 zo78 zd78 by78 el78 sl78 un78 st78 bo78 pt78 sz80 ag80 zr80 zd80 by80 sl80 st80 bo80 pt80 of80_0 fa80_0 of80_1 fa80_1 pl80 sz81 ag81 zr81 zo81 zd81 by81 el81 sl81 un81 st81 bo81 pt81 sz83 ag83 zr83 zd83 by83 sl83 st83 bo83 pt83 of83_0 fa83_0 of83_1 fa83_1 of83_2 fa83_2 of83_3 fa83_3 pl83 sz84 ag84 zr84 zo84 zd84 by84 el84 sl84 un84 st84 bo84 pt84 sz86 ag86 zr86 zd86 by86 sl86 st86 bo86 pt86 of86_0 fa86_0 of86_1 fa86_1 pl86 sz99 ag99 zr99 zd99 by99 sl99 st99 bo99 pt99 of99_0 fa99_0 of99_1 fa99_1 pl99 ek99 sz108 ag108 zr108 zd108 by108 sl108 st108 bo108 pt108 of108_0 fa108_0 of108_1 fa108_1 pl108 ek108 sz152 ag152 zr152 zo152 zd152 by152 el152 sl152 un152 st152 bo152 pt152
attribute [local go_sem] encTable decTable etaTable zfTable encChange decChange etaChange zfChange dL_Change dM_Change
theorem con77 (hC : COk cfg77) (t : Table) (hp : (t.file.format.fields.length ≤ 1000000 ∧ t.file.keys.length ≤ 1000000 ∧ t.records.length ≤ 1000000)) : Sem Try.prog 77 [.d (encTable t)] (.tup [.d (.i .i64 (tableErr t).1), .d (.i .i64 (tableErr t).2)]) := by
  refine sem_of_awR (C := cfg77) (rs := [.tmp 2, .tmp 3]) (fun _ => []) Try.func77 rfl rfl rfl rfl rfl rfl ?_
  simp only [enterSl, enterHp, inO, inO2, inO1, inOs, List.append_nil, List.nil_append, Nat.mul_zero, List.cons_append, Nat.zero_add, Nat.reduceAdd, Nat.reduceMul, encDType, encVal, List.length_map, encField, encFmt, encKField, encFile, encRec, encTable, encChange]
  repeat' first
    | (with_reducible first | refine thenS_n ?_ | refine inBlockS_n ?_ | refine AW.seq ?_ | refine AW.block ?_)
    | (with_reducible first | (refine AW.runK hC ?_; intro K hK) | (refine AW.drawK hC (by kernel_rfl) ?_; intro K hK))
    | ((with_reducible first | refine erun_g ?_ | refine edraw_g ?_ | refine exitS_g ?_); refine siQ ?_; (try simp (disch := omega) only [w64, wu8]))
    | (with_reducible refine hCheck_g (by kernel_rfl) ?_)
    | ((first | (refine AW.cond rfl (fun h => ?_) (fun h => ?_)) | (refine AW.cond_ub rfl (fun h => ?_) ?_) | (refine AW.cond_nb rfl ?_ (fun h => ?_))) <;> (try replace h := boolH h) <;> (try (exfalso; first | omega | exact absurd h (by decide))))
    | (with_reducible first | refine AW.skip ?_ | refine AW.exit ?_ | refine AW.ret ?_ | refine thenS_r ?_ | refine thenS_e ?_ | refine inBlockS_r ?_ | refine inBlockS_e ?_ | refine inBlockS_e2 rfl ?_ | refine exitQ_r ?_ | refine exitQ_n ?_)
    | (refine AW.loopN 5 rfl (ι := Nat) (fun i => mkS [(1, V.ptr 16 0), (22, V.d (.sl 2 (t.records.map encRec))), (23, V.d (.i .i64 (t.records.length : Int))), (24, V.d (.i .i64 (i : Int)))] ([(16, .live (.box 86 [.d (.s t.file.name), .d (.s t.file.format.name), .d (.sl 4 (t.file.format.fields.map encField)), .d (.sl 2 (t.file.keys.map encKField)), .d (.b t.file.unique), .d (.sl 2 (t.records.map encRec))]))])) (fun i => i ≤ t.records.length ∧ ((fileErr t.file).2 = 0 ∧ t.records.length ≤ 60) ∧ ∀ j, j < i → recE t j = 0) (fun i => t.records.length - i) (0) ?_ ?_ (fun i hi => ?_) <;> (try dsimp only) <;> (try dsimp only at hi))
    | (refine LoopNext.mk1 5 (i + 1) ?_ ?_ ?_ <;> (try dsimp only))
    | (refine sub_auto ?_; refine subQ ?_)
    | (with_reducible refine And.intro ?_ ?_)
    | (subst hK)
    | exact trivial
  all_goals (try (intros; assumption))
  all_goals (try simp only [Bool.or_eq_true, Bool.and_eq_true, Bool.or_eq_false_iff, Bool.and_eq_false_iff, Bool.not_eq_true', Bool.not_eq_false', Bool.not_eq_true, Bool.not_eq_false, decide_eq_true_eq, decide_eq_false_iff_not, beq_iff_eq, bne_iff_ne, beq_eq_false_iff_ne, bne_eq_false_iff_eq, ne_eq, Int.not_lt, Int.not_le, D.b.injEq, D.i.injEq, D.s.injEq, D.agg.injEq, D.sl.injEq, true_and, and_true, List.cons.injEq, gt_iff_lt, ge_iff_le,  Bool.cond_true_left, Bool.cond_false_right, Bool.cond_true_right, Bool.cond_false_left, seq_iff, seq_dec, dec_f, dec_t, eqB_t, eqB_f] at *)
  all_goals (try (intros; trivial))
  all_goals (try (intros; omega))
  all_goals (try (rw [w64 (by omega) (by omega)]; first | done | omega))
  all_goals clear hC
  all_goals (try simp only [thead_eq] at *)
  all_goals first
    | rfl
    | omega
    | (rw [tab_head (by assumption)]; done)
    | (rw [tab_head (by assumption)]; rfl)
    | exact (thead_ok (by assumption)).1
    | exact (thead_ok (by assumption)).2
    | exact hi.2.1.1
    | exact hi.2.1.2
    | (rw [table_bad hi.2.1 hi.2.2 (by omega) (by unfold recE; simp_all)]; unfold recE; simp_all; done)
    | (rw [table_bad hi.2.1 hi.2.2 (by omega) (by unfold recE; simp_all)]; done)
    | exact all_step hi.2.2 (by unfold recE; simp_all)
    | (rw [table_end hi.2.1 hi.2.2 (by omega)]; done)
    | (intro d hd; first | (subst hd; exact ⟨rfl, by simp [D.cells, D.one]⟩) | (rcases hd with rfl | rfl <;> exact ⟨rfl, by simp [D.cells, D.one]⟩) | (rcases hd with rfl | rfl | rfl <;> exact ⟨rfl, by simp [D.cells, D.one]⟩) | (rcases hd with rfl | rfl | rfl | rfl <;> exact ⟨rfl, by simp [D.cells, D.one]⟩))
end
end Go.Ev
