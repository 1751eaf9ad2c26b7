/- Tools and contracts under the laws of this seat: Dxc94 to Dxc59. -/
import Derived.Test.YtkgkgcojfocomaaE05
import Derived.Test.YtkgkgcojfocomaaE07
set_option linter.unusedVariables false
set_option linter.unusedSimpArgs false
namespace Go.Ev
open Go.Proofs Ty
set_option maxRecDepth 10000
set_option maxHeartbeats 4000000
set_option linter.unusedSimpArgs false
set_option linter.unusedVariables false
attribute [local go_sem] erun_nil erun_cons edraw_eq edrun_nil edrun_cons e1_n e1_g guardSlot_eq lkAll_tmp lkAll_nil lkAll_const lkAll_func val_tmp val_const val_func aget getBox_mk getRow_mk liveRow_mk hp_mk eU_move_n eU_assign_n eU_move eU_assign eU_pick eU_alloc eU_box eU_load eU_store eU_nilCheck eU_binOp eU_unOp eU_fieldAddr eU_field eU_indexAddr eU_index eU_build eU_buildSlice eU_slice eU_extract eU_makeFunc eU_builtin eU_call eU_callv V.cells V.one D.one D.cells newObj nm HS.isFree HS.isLive andOk_some andOk_none List.map_cons List.map_nil Option.bind_some Option.bind_none putL List.cons_append List.nil_append thenS_normal thenS_ret thenS_exit inBlockS_normal inBlockS_ret inBlockS_exit true_and and_true justV justO cval Option.map_some Option.map_none loadAt storeAt ldV ldD mkAgg V.asD spliceL List.take_succ_cons List.take_zero List.drop_succ_cons List.drop_zero List.getElem?_cons_zero List.getElem?_cons_succ List.getElem?_nil List.all_cons List.all_nil Bool.and_true Bool.true_and Bool.and_self List.length_cons List.length_nil vals aopCall argsO argO toD3 toD2 toD1 toDs O.ok O.ok2 O.ok1 O.flat O.flat1 D.flat D.flatA inO inO2 inO1 inOs List.filterMap_nil List.filterMap_cons List.filter_nil List.filter_cons List.nodup_nil decide_true decide_false Bool.not_true Bool.not_false not_true_eq_false not_false_eq_true or_false false_or and_false false_and ne_eq List.append_nil optB guardQ guardRes beq_self_eq_true List.mapM_cons List.mapM_nil Option.pure_def Option.bind_eq_bind true_or or_true or_self callHp ite_self not_true not_false_iff ite_true ite_false if_true if_false Bool.false_eq_true Bool.true_eq_false List.any_nil List.any_cons List.contains_nil List.contains_cons eq_self aopAppend builtinV elems aopBin nilEqS nilEqP aopSlice bound natOf lenOf binD intBin unD bindEq eU_makeMap eU_convert eU_makeSlice aopConv aopMake isShift shiftD eU_lookup eU_mapUpdate getMp_mk List.range_zero Nat.zero_le Nat.zero_mul Nat.zero_add Nat.add_zero List.length_append List.take_length List.isEmpty_nil List.isEmpty_cons V.neg List.flatMap_nil and_self List.range_succ forall_const implies_true Nat.not_lt_zero exitQ_normal exitQ_ret exitS_eq exitO resVs resV_tmp resV_cell takeRow argCells mvAt dle_same dles_same ole_same ole oles dle dles List.nodup_cons List.mem_cons List.not_mem_nil List.drop_length Nat.le_refl Nat.lt_irrefl id_eq Option.some.injEq Bool.or_false Bool.false_or Bool.or_self Bool.or_true Bool.true_or false_implies Bool.and_false Bool.false_and List.reverse_cons List.reverse_nil sh1 mget1 mget aopLookup aopMapUpdate mapOf msetK msetV Option.isSome_some Option.isSome_none Bool.cond_true_left Bool.cond_false_right Bool.cond_true_right Bool.cond_false_left beq_true beq_false Bool.not_not imp_self guardVal notB strBin aopSliceS buildV argOk D.splice kEq Option.toList_some Option.toList_none adel List.getD_cons_zero List.getD_cons_succ bxIds bxId backHp hget one1 aopCall0 aopTurn
attribute [local go_sem] sz9 ag9 zr9 zo9 zd9 by9 sl9 un9 st9 bo9 pt9 ck9 encDType decDType etaDType zfDType encVal decVal etaVal zfVal Int.toNat_natCast chr_eq dL_int dM_int getDz_int decL_sl decM_cons decM_nil decI List.length_map nc0 bytesD_len bytesD_get encField decField etaField zfField encFmt decFmt etaFmt zfFmt encKField decKField etaKField zfKField encFile decFile etaFile zfFile encRec decRec etaRec zfRec getDz_Field getDz_KField getDz_Rec dL_Field dL_KField dL_Rec dM_Field dM_KField dM_Rec ceqField ceqKField ceqRec List.length_take decL_nil Int.toNat_zero Nat.sub_zero List.drop_zero encTable decTable etaTable zfTable encChange decChange etaChange zfChange dL_Change dM_Change
attribute [local go_sem ←] List.map_take List.map_drop
noncomputable def cfg94 : Cfg := ⟨Try.prog, 11, tab77, (fun _ _ => []), [], (fun _ => none)⟩
theorem cfg94_ti77 : cfg94.ti 77 = none := rfl
theorem cfg94_pins : cfg94.pins = [] := rfl
theorem cfg94_P : cfg94.P = Try.prog := rfl
theorem cfg94_N : cfg94.N = 11 := rfl
theorem cfg94_T77 : cfg94.T 77 = e77 := rfl
theorem cfg94_mv77 : cfg94.mv 77 = (fun _ => []) := rfl
section
attribute [local go_sem] cfg94_P cfg94_N cfg94_pins cfg94_ti77 cfg94_T77 e77 cfg94_mv77 sz3 ag3 zr3 zo3 zd3 by3 sl3 st3 bo3 pt3 ck3 sz4 ag4 zr4 zo4 zd4 by4 sl4 st4 bo4 pt4 sz78 ag78 zr78 zo78 zd78 by78 el78 sl78 un78 st78 bo78 pt78 sz80 ag80 zr80 zd80 by80 sl80 st80 bo80 pt80 of80_0 fa80_0 of80_1 fa80_1 pl80 sz81 ag81 zr81 zo81 zd81 by81 el81 sl81 un81 st81 bo81 pt81 sz83 ag83 zr83 zd83 by83 sl83 st83 bo83 pt83 of83_0 fa83_0 of83_1 fa83_1 of83_2 fa83_2 of83_3 fa83_3 pl83 sz84 ag84 zr84 zo84 zd84 by84 el84 sl84 un84 st84 bo84 pt84 sz86 ag86 zr86 zd86 by86 sl86 st86 bo86 pt86 of86_0 fa86_0 of86_1 fa86_1 pl86 sz99 ag99 zr99 zd99 by99 sl99 st99 bo99 pt99 of99_0 fa99_0 of99_1 fa99_1 pl99 ek99 sz103 ag103 zr103 zd103 by103 sl103 st103 bo103 pt103 of103_0 fa103_0 of103_1 fa103_1 of103_2 fa103_2 pl103 ek103 sz105 ag105 zr105 zd105 by105 sl105 st105 bo105 pt105 of105_0 fa105_0 of105_1 fa105_1 pl105 ek105 sz108 ag108 zr108 zd108 by108 sl108 st108 bo108 pt108 of108_0 fa108_0 of108_1 fa108_1 pl108 ek108
theorem con94 (hC : COk cfg94) (t : Table) (hp : (t.file.format.fields.length ≤ 1000000 ∧ t.file.keys.length ≤ 1000000 ∧ t.records.length ≤ 1000000)) : Sem Try.prog 94 [.d (encTable t)] (.d (.i .i64 (tableErr t).2)) := by
  refine sem_of_awR (C := cfg94) (rs := [.tmp 2]) (fun _ => []) Try.func94 rfl rfl rfl rfl rfl rfl ?_
  simp only [enterSl, enterHp, inO, inO2, inO1, inOs, List.append_nil, List.nil_append, Nat.mul_zero, List.cons_append, Nat.zero_add, Nat.reduceAdd, Nat.reduceMul, encDType, encVal, List.length_map, encField, encFmt, encKField, encFile, encRec, encTable, encChange]
  repeat' first
    | (with_reducible first | refine thenS_n ?_ | refine inBlockS_n ?_ | refine AW.seq ?_ | refine AW.block ?_)
    | (with_reducible first | (refine AW.runK hC ?_; intro K hK) | (refine AW.drawK hC (by kernel_rfl) ?_; intro K hK))
    | ((with_reducible first | refine erun_g ?_ | refine edraw_g ?_ | refine exitS_g ?_); refine siQ ?_; (try simp (disch := omega) only [w64, wu8]))
    | (with_reducible refine hCheck_g (by kernel_rfl) ?_)
    | ((first | (refine AW.cond rfl (fun h => ?_) (fun h => ?_)) | (refine AW.cond_ub rfl (fun h => ?_) ?_) | (refine AW.cond_nb rfl ?_ (fun h => ?_))) <;> (try replace h := boolH h) <;> (try (exfalso; first | omega | exact absurd h (by decide))))
    | (with_reducible first | refine AW.skip ?_ | refine AW.exit ?_ | refine AW.ret ?_ | refine thenS_r ?_ | refine thenS_e ?_ | refine inBlockS_r ?_ | refine inBlockS_e ?_ | refine inBlockS_e2 rfl ?_ | refine exitQ_r ?_ | refine exitQ_n ?_)
    | (refine sub_auto ?_; refine subQ ?_)
    | (with_reducible refine And.intro ?_ ?_)
    | (subst hK)
    | exact trivial
  all_goals (try (intros; assumption))
  all_goals (try simp only [Bool.or_eq_true, Bool.and_eq_true, Bool.or_eq_false_iff, Bool.and_eq_false_iff, Bool.not_eq_true', Bool.not_eq_false', Bool.not_eq_true, Bool.not_eq_false, decide_eq_true_eq, decide_eq_false_iff_not, beq_iff_eq, bne_iff_ne, beq_eq_false_iff_ne, bne_eq_false_iff_eq, ne_eq, Int.not_lt, Int.not_le, D.b.injEq, D.i.injEq, D.s.injEq, D.agg.injEq, D.sl.injEq, true_and, and_true, List.cons.injEq, gt_iff_lt, ge_iff_le,  Bool.cond_true_left, Bool.cond_false_right, Bool.cond_true_right, Bool.cond_false_left, seq_iff, seq_dec, dec_f, dec_t, eqB_t, eqB_f] at *)
  all_goals (try (intros; trivial))
  all_goals (try (intros; omega))
  all_goals (try (rw [w64 (by omega) (by omega)]; first | done | omega))
end
noncomputable def cfg56 : Cfg := ⟨Try.prog, 8, tab94, (fun _ _ => []), [], (fun _ => none)⟩
theorem cfg56_pins : cfg56.pins = [] := rfl
theorem cfg56_P : cfg56.P = Try.prog := rfl
theorem cfg56_N : cfg56.N = 8 := rfl
section
attribute [local go_sem] cfg56_P cfg56_N cfg56_pins sz3 ag3 zr3 zo3 zd3 by3 sl3 st3 bo3 pt3 ck3 sz78 ag78 zr78 zo78 zd78 by78 el78 sl78 un78 st78 bo78 pt78 sz103 ag103 zr103 zd103 by103 sl103 st103 bo103 pt103 of103_0 fa103_0 of103_1 fa103_1 of103_2 fa103_2 pl103 ek103 sz105 ag105 zr105 zd105 by105 sl105 st105 bo105 pt105 of105_0 fa105_0 of105_1 fa105_1 pl105 ek105
theorem con56 (hC : COk cfg56) (l : List Field) (hp : l.length ≤ 1000000) : Sem Try.prog 56 [.d (.sl 4 (l.map encField))] (.own 105 4 (l.map encField)) := by
  refine sem_of_awR (C := cfg56) (rs := [.tmp 2]) (fun _ => [(0, 105, 4)]) Try.func56 rfl rfl rfl rfl rfl rfl ?_
  simp only [enterSl, enterHp, inO, inO2, inO1, inOs, List.append_nil, List.nil_append, Nat.mul_zero, List.cons_append, Nat.zero_add, Nat.reduceAdd, Nat.reduceMul, encDType, encVal, List.length_map, encField, encFmt, encKField, encFile, encRec, encTable, encChange]
  repeat' first
    | (with_reducible first | refine thenS_n ?_ | refine inBlockS_n ?_ | refine AW.seq ?_ | refine AW.block ?_)
    | (with_reducible first | (refine AW.runK hC ?_; intro K hK) | (refine AW.drawK hC (by kernel_rfl) ?_; intro K hK))
    | ((with_reducible first | refine erun_g ?_ | refine edraw_g ?_ | refine exitS_g ?_); refine siQ ?_; (try simp (disch := omega) only [w64, wu8]))
    | (with_reducible refine hCheck_g (by kernel_rfl) ?_)
    | ((first | (refine AW.cond rfl (fun h => ?_) (fun h => ?_)) | (refine AW.cond_ub rfl (fun h => ?_) ?_) | (refine AW.cond_nb rfl ?_ (fun h => ?_))) <;> (try replace h := boolH h) <;> (try (exfalso; first | omega | exact absurd h (by decide))))
    | (with_reducible first | refine AW.skip ?_ | refine AW.exit ?_ | refine AW.ret ?_ | refine thenS_r ?_ | refine thenS_e ?_ | refine inBlockS_r ?_ | refine inBlockS_e ?_ | refine inBlockS_e2 rfl ?_ | refine exitQ_r ?_ | refine exitQ_n ?_)
    | (refine sub_auto ?_; refine subQ ?_)
    | (with_reducible refine And.intro ?_ ?_)
    | (subst hK)
    | exact trivial
  all_goals (try (intros; assumption))
  all_goals (try simp only [Bool.or_eq_true, Bool.and_eq_true, Bool.or_eq_false_iff, Bool.and_eq_false_iff, Bool.not_eq_true', Bool.not_eq_false', Bool.not_eq_true, Bool.not_eq_false, decide_eq_true_eq, decide_eq_false_iff_not, beq_iff_eq, bne_iff_ne, beq_eq_false_iff_ne, bne_eq_false_iff_eq, ne_eq, Int.not_lt, Int.not_le, D.b.injEq, D.i.injEq, D.s.injEq, D.agg.injEq, D.sl.injEq, true_and, and_true, List.cons.injEq, gt_iff_lt, ge_iff_le,  Bool.cond_true_left, Bool.cond_false_right, Bool.cond_true_right, Bool.cond_false_left, seq_iff, seq_dec, dec_f, dec_t, eqB_t, eqB_f] at *)
  all_goals (try (intros; trivial))
  all_goals (try (intros; omega))
  all_goals (try (rw [w64 (by omega) (by omega)]; first | done | omega))
  all_goals first | omega | (simp_all [dles]; done)
end
noncomputable def cfg57 : Cfg := ⟨Try.prog, 8, tab56, (fun _ _ => []), [], (fun _ => none)⟩
theorem cfg57_pins : cfg57.pins = [] := rfl
theorem cfg57_P : cfg57.P = Try.prog := rfl
theorem cfg57_N : cfg57.N = 8 := rfl
section
attribute [local go_sem] cfg57_P cfg57_N cfg57_pins sz4 ag4 zr4 zo4 zd4 by4 sl4 st4 bo4 pt4 sz81 ag81 zr81 zo81 zd81 by81 el81 sl81 un81 st81 bo81 pt81 sz108 ag108 zr108 zd108 by108 sl108 st108 bo108 pt108 of108_0 fa108_0 of108_1 fa108_1 pl108 ek108
theorem con57 (hC : COk cfg57) (l : List KField) (hp : l.length ≤ 1000000) : Sem Try.prog 57 [.d (.sl 2 (l.map encKField))] (.own 108 2 (l.map encKField)) := by
  refine sem_of_awR (C := cfg57) (rs := [.tmp 2]) (fun _ => [(0, 108, 2)]) Try.func57 rfl rfl rfl rfl rfl rfl ?_
  simp only [enterSl, enterHp, inO, inO2, inO1, inOs, List.append_nil, List.nil_append, Nat.mul_zero, List.cons_append, Nat.zero_add, Nat.reduceAdd, Nat.reduceMul, encDType, encVal, List.length_map, encField, encFmt, encKField, encFile, encRec, encTable, encChange]
  repeat' first
    | (with_reducible first | refine thenS_n ?_ | refine inBlockS_n ?_ | refine AW.seq ?_ | refine AW.block ?_)
    | (with_reducible first | (refine AW.runK hC ?_; intro K hK) | (refine AW.drawK hC (by kernel_rfl) ?_; intro K hK))
    | ((with_reducible first | refine erun_g ?_ | refine edraw_g ?_ | refine exitS_g ?_); refine siQ ?_; (try simp (disch := omega) only [w64, wu8]))
    | (with_reducible refine hCheck_g (by kernel_rfl) ?_)
    | ((first | (refine AW.cond rfl (fun h => ?_) (fun h => ?_)) | (refine AW.cond_ub rfl (fun h => ?_) ?_) | (refine AW.cond_nb rfl ?_ (fun h => ?_))) <;> (try replace h := boolH h) <;> (try (exfalso; first | omega | exact absurd h (by decide))))
    | (with_reducible first | refine AW.skip ?_ | refine AW.exit ?_ | refine AW.ret ?_ | refine thenS_r ?_ | refine thenS_e ?_ | refine inBlockS_r ?_ | refine inBlockS_e ?_ | refine inBlockS_e2 rfl ?_ | refine exitQ_r ?_ | refine exitQ_n ?_)
    | (refine sub_auto ?_; refine subQ ?_)
    | (with_reducible refine And.intro ?_ ?_)
    | (subst hK)
    | exact trivial
  all_goals (try (intros; assumption))
  all_goals (try simp only [Bool.or_eq_true, Bool.and_eq_true, Bool.or_eq_false_iff, Bool.and_eq_false_iff, Bool.not_eq_true', Bool.not_eq_false', Bool.not_eq_true, Bool.not_eq_false, decide_eq_true_eq, decide_eq_false_iff_not, beq_iff_eq, bne_iff_ne, beq_eq_false_iff_ne, bne_eq_false_iff_eq, ne_eq, Int.not_lt, Int.not_le, D.b.injEq, D.i.injEq, D.s.injEq, D.agg.injEq, D.sl.injEq, true_and, and_true, List.cons.injEq, gt_iff_lt, ge_iff_le,  Bool.cond_true_left, Bool.cond_false_right, Bool.cond_true_right, Bool.cond_false_left, seq_iff, seq_dec, dec_f, dec_t, eqB_t, eqB_f] at *)
  all_goals (try (intros; trivial))
  all_goals (try (intros; omega))
  all_goals (try (rw [w64 (by omega) (by omega)]; first | done | omega))
  all_goals first | omega | (simp_all [dles]; done)
end
noncomputable def cfg58 : Cfg := ⟨Try.prog, 8, tab57, (fun _ _ => []), [], (fun _ => none)⟩
theorem cfg58_pins : cfg58.pins = [] := rfl
theorem cfg58_P : cfg58.P = Try.prog := rfl
theorem cfg58_N : cfg58.N = 8 := rfl
section
attribute [local go_sem] cfg58_P cfg58_N cfg58_pins sz4 ag4 zr4 zo4 zd4 by4 sl4 st4 bo4 pt4 sz84 ag84 zr84 zo84 zd84 by84 el84 sl84 un84 st84 bo84 pt84 sz99 ag99 zr99 zd99 by99 sl99 st99 bo99 pt99 of99_0 fa99_0 of99_1 fa99_1 pl99 ek99
theorem con58 (hC : COk cfg58) (l : List Rec) (hp : l.length ≤ 1000000) : Sem Try.prog 58 [.d (.sl 2 (l.map encRec))] (.own 99 2 (l.map encRec)) := by
  refine sem_of_awR (C := cfg58) (rs := [.tmp 2]) (fun _ => [(0, 99, 2)]) Try.func58 rfl rfl rfl rfl rfl rfl ?_
  simp only [enterSl, enterHp, inO, inO2, inO1, inOs, List.append_nil, List.nil_append, Nat.mul_zero, List.cons_append, Nat.zero_add, Nat.reduceAdd, Nat.reduceMul, encDType, encVal, List.length_map, encField, encFmt, encKField, encFile, encRec, encTable, encChange]
  repeat' first
    | (with_reducible first | refine thenS_n ?_ | refine inBlockS_n ?_ | refine AW.seq ?_ | refine AW.block ?_)
    | (with_reducible first | (refine AW.runK hC ?_; intro K hK) | (refine AW.drawK hC (by kernel_rfl) ?_; intro K hK))
    | ((with_reducible first | refine erun_g ?_ | refine edraw_g ?_ | refine exitS_g ?_); refine siQ ?_; (try simp (disch := omega) only [w64, wu8]))
    | (with_reducible refine hCheck_g (by kernel_rfl) ?_)
    | ((first | (refine AW.cond rfl (fun h => ?_) (fun h => ?_)) | (refine AW.cond_ub rfl (fun h => ?_) ?_) | (refine AW.cond_nb rfl ?_ (fun h => ?_))) <;> (try replace h := boolH h) <;> (try (exfalso; first | omega | exact absurd h (by decide))))
    | (with_reducible first | refine AW.skip ?_ | refine AW.exit ?_ | refine AW.ret ?_ | refine thenS_r ?_ | refine thenS_e ?_ | refine inBlockS_r ?_ | refine inBlockS_e ?_ | refine inBlockS_e2 rfl ?_ | refine exitQ_r ?_ | refine exitQ_n ?_)
    | (refine sub_auto ?_; refine subQ ?_)
    | (with_reducible refine And.intro ?_ ?_)
    | (subst hK)
    | exact trivial
  all_goals (try (intros; assumption))
  all_goals (try simp only [Bool.or_eq_true, Bool.and_eq_true, Bool.or_eq_false_iff, Bool.and_eq_false_iff, Bool.not_eq_true', Bool.not_eq_false', Bool.not_eq_true, Bool.not_eq_false, decide_eq_true_eq, decide_eq_false_iff_not, beq_iff_eq, bne_iff_ne, beq_eq_false_iff_ne, bne_eq_false_iff_eq, ne_eq, Int.not_lt, Int.not_le, D.b.injEq, D.i.injEq, D.s.injEq, D.agg.injEq, D.sl.injEq, true_and, and_true, List.cons.injEq, gt_iff_lt, ge_iff_le,  Bool.cond_true_left, Bool.cond_false_right, Bool.cond_true_right, Bool.cond_false_left, seq_iff, seq_dec, dec_f, dec_t, eqB_t, eqB_f] at *)
  all_goals (try (intros; trivial))
  all_goals (try (intros; omega))
  all_goals (try (rw [w64 (by omega) (by omega)]; first | done | omega))
  all_goals first | omega | (simp_all [dles]; done)
end
noncomputable def cfg95 : Cfg := ⟨Try.prog, 50, tab58, (fun _ _ => []), [], (fun _ => none)⟩
theorem cfg95_ti90 : cfg95.ti 90 = none := rfl
theorem cfg95_ti92 : cfg95.ti 92 = none := rfl
theorem cfg95_pins : cfg95.pins = [] := rfl
theorem cfg95_P : cfg95.P = Try.prog := rfl
theorem cfg95_N : cfg95.N = 50 := rfl
theorem cfg95_T90 : cfg95.T 90 = e90 := rfl
theorem cfg95_mv90 : cfg95.mv 90 = (fun _ => []) := rfl
theorem cfg95_T92 : cfg95.T 92 = e92 := rfl
theorem cfg95_mv92 : cfg95.mv 92 = (fun _ => []) := rfl
section
attribute [local go_sem] cfg95_P cfg95_N cfg95_pins cfg95_ti90 cfg95_ti92 cfg95_T90 e90 cfg95_mv90 cfg95_T92 e92 cfg95_mv92 sz3 ag3 zr3 zo3 zd3 by3 sl3 st3 bo3 pt3 ck3 sz4 ag4 zr4 zo4 zd4 by4 sl4 st4 bo4 pt4 sz25 ag25 zr25 zo25 zd25 by25 sl25 st25 bo25 pt25 ck25 sz49 ag49 zr49 zd49 by49 sl49 st49 bo49 pt49 of49_0 fa49_0 of49_1 fa49_1 of49_2 fa49_2 of49_3 fa49_3 of49_4 fa49_4 pl49 ek49 sz78 ag78 zr78 zo78 zd78 by78 el78 sl78 un78 st78 bo78 pt78 sz80 ag80 zr80 zd80 by80 sl80 st80 bo80 pt80 of80_0 fa80_0 of80_1 fa80_1 pl80 sz81 ag81 zr81 zo81 zd81 by81 el81 sl81 un81 st81 bo81 pt81 sz83 ag83 zr83 zd83 by83 sl83 st83 bo83 pt83 of83_0 fa83_0 of83_1 fa83_1 of83_2 fa83_2 of83_3 fa83_3 pl83 sz84 ag84 zr84 zo84 zd84 by84 el84 sl84 un84 st84 bo84 pt84 sz86 ag86 zr86 zd86 by86 sl86 st86 bo86 pt86 of86_0 fa86_0 of86_1 fa86_1 pl86 sz99 ag99 zr99 zd99 by99 sl99 st99 bo99 pt99 of99_0 fa99_0 of99_1 fa99_1 pl99 ek99 sz103 ag103 zr103 zd103 by103 sl103 st103 bo103 pt103 of103_0 fa103_0 of103_1 fa103_1 of103_2 fa103_2 pl103 ek103 sz105 ag105 zr105 zd105 by105 sl105 st105 bo105 pt105 of105_0 fa105_0 of105_1 fa105_1 pl105 ek105 sz108 ag108 zr108 zd108 by108 sl108 st108 bo108 pt108 of108_0 fa108_0 of108_1 fa108_1 pl108 ek108 sz152 ag152 zr152 zo152 zd152 by152 el152 sl152 un152 st152 bo152 pt152
theorem con95 (hC : COk cfg95) (t : Table) (c : Change) (hp : 1 ≤ c.rrn ∧ c.rrn ≤ (t.records.length : Int) + 1 ∧ t.records.length ≤ 1000000) : Sem Try.prog 95 [.d (encTable t), .d (encChange c)] (.d (.i .i64 (placeErr t c))) := by
  refine sem_of_awR (C := cfg95) (rs := [.tmp 4]) (fun _ => []) Try.func95 rfl rfl rfl rfl rfl rfl ?_
  simp only [enterSl, enterHp, inO, inO2, inO1, inOs, List.append_nil, List.nil_append, Nat.mul_zero, List.cons_append, Nat.zero_add, Nat.reduceAdd, Nat.reduceMul, encDType, encVal, List.length_map, encField, encFmt, encKField, encFile, encRec, encTable, encChange]
  repeat' first
    | (with_reducible first | refine thenS_n ?_ | refine inBlockS_n ?_ | refine AW.seq ?_ | refine AW.block ?_)
    | (with_reducible first | (refine AW.runK hC ?_; intro K hK) | (refine AW.drawK hC (by kernel_rfl) ?_; intro K hK))
    | ((with_reducible first | refine erun_g ?_ | refine edraw_g ?_ | refine exitS_g ?_); refine siQ ?_; (try simp (disch := omega) only [w64, wu8]))
    | (with_reducible refine hCheck_g (by kernel_rfl) ?_)
    | ((first | (refine AW.cond rfl (fun h => ?_) (fun h => ?_)) | (refine AW.cond_ub rfl (fun h => ?_) ?_) | (refine AW.cond_nb rfl ?_ (fun h => ?_))) <;> (try replace h := boolH h) <;> (try (exfalso; first | omega | exact absurd h (by decide))))
    | (with_reducible first | refine AW.skip ?_ | refine AW.exit ?_ | refine AW.ret ?_ | refine thenS_r ?_ | refine thenS_e ?_ | refine inBlockS_r ?_ | refine inBlockS_e ?_ | refine inBlockS_e2 rfl ?_ | refine exitQ_r ?_ | refine exitQ_n ?_)
    | (refine sub_auto ?_; refine subQ ?_)
    | (with_reducible refine And.intro ?_ ?_)
    | (subst hK)
    | exact trivial
  all_goals (try (intros; assumption))
  all_goals (try simp only [Bool.or_eq_true, Bool.and_eq_true, Bool.or_eq_false_iff, Bool.and_eq_false_iff, Bool.not_eq_true', Bool.not_eq_false', Bool.not_eq_true, Bool.not_eq_false, decide_eq_true_eq, decide_eq_false_iff_not, beq_iff_eq, bne_iff_ne, beq_eq_false_iff_ne, bne_eq_false_iff_eq, ne_eq, Int.not_lt, Int.not_le, D.b.injEq, D.i.injEq, D.s.injEq, D.agg.injEq, D.sl.injEq, true_and, and_true, List.cons.injEq, gt_iff_lt, ge_iff_le,  Bool.cond_true_left, Bool.cond_false_right, Bool.cond_true_right, Bool.cond_false_left, seq_iff, seq_dec, dec_f, dec_t, eqB_t, eqB_f] at *)
  all_goals (try (intros; trivial))
  all_goals (try (intros; omega))
  all_goals (try (rw [w64 (by omega) (by omega)]; first | done | omega))
  all_goals clear hC
  all_goals first
    | omega
    | (intro d hd; first | (subst hd; exact ⟨rfl, by simp [D.cells, D.one]⟩) | (rcases hd with rfl | rfl <;> exact ⟨rfl, by simp [D.cells, D.one]⟩) | (rcases hd with rfl | rfl | rfl <;> exact ⟨rfl, by simp [D.cells, D.one]⟩) | (rcases hd with rfl | rfl | rfl | rfl <;> exact ⟨rfl, by simp [D.cells, D.one]⟩))
    | (unfold placeErr goneAt recAt; simp_all; done)
end
noncomputable def cfg80 : Cfg := ⟨Try.prog, 87, tab95, (fun _ _ => []), [], (fun _ => none)⟩
theorem cfg80_ti90 : cfg80.ti 90 = none := rfl
theorem cfg80_ti92 : cfg80.ti 92 = none := rfl
theorem cfg80_ti93 : cfg80.ti 93 = none := rfl
theorem cfg80_ti94 : cfg80.ti 94 = none := rfl
theorem cfg80_ti95 : cfg80.ti 95 = none := rfl
theorem cfg80_pins : cfg80.pins = [] := rfl
theorem cfg80_P : cfg80.P = Try.prog := rfl
theorem cfg80_N : cfg80.N = 87 := rfl
theorem cfg80_T90 : cfg80.T 90 = e90 := rfl
theorem cfg80_mv90 : cfg80.mv 90 = (fun _ => []) := rfl
theorem cfg80_T92 : cfg80.T 92 = e92 := rfl
theorem cfg80_mv92 : cfg80.mv 92 = (fun _ => []) := rfl
theorem cfg80_T93 : cfg80.T 93 = e93 := rfl
theorem cfg80_mv93 : cfg80.mv 93 = (fun _ => []) := rfl
theorem cfg80_T94 : cfg80.T 94 = e94 := rfl
theorem cfg80_mv94 : cfg80.mv 94 = (fun _ => []) := rfl
theorem cfg80_T95 : cfg80.T 95 = e95 := rfl
theorem cfg80_mv95 : cfg80.mv 95 = (fun _ => []) := rfl
section
attribute [local go_sem] cfg80_P cfg80_N cfg80_pins cfg80_ti90 cfg80_ti92 cfg80_ti93 cfg80_ti94 cfg80_ti95 cfg80_T90 e90 cfg80_mv90 cfg80_T92 e92 cfg80_mv92 cfg80_T93 e93 cfg80_mv93 cfg80_T94 e94 cfg80_mv94 cfg80_T95 e95 cfg80_mv95 sz3 ag3 zr3 zo3 zd3 by3 sl3 st3 bo3 pt3 ck3 sz4 ag4 zr4 zo4 zd4 by4 sl4 st4 bo4 pt4 sz25 ag25 zr25 zo25 zd25 by25 sl25 st25 bo25 pt25 ck25 sz49 ag49 zr49 zd49 by49 sl49 st49 bo49 pt49 of49_0 fa49_0 of49_1 fa49_1 of49_2 fa49_2 of49_3 fa49_3 of49_4 fa49_4 pl49 ek49 sz78 ag78 zr78 zo78 zd78 by78 el78 sl78 un78 st78 bo78 pt78 sz80 ag80 zr80 zd80 by80 sl80 st80 bo80 pt80 of80_0 fa80_0 of80_1 fa80_1 pl80 sz81 ag81 zr81 zo81 zd81 by81 el81 sl81 un81 st81 bo81 pt81 sz83 ag83 zr83 zd83 by83 sl83 st83 bo83 pt83 of83_0 fa83_0 of83_1 fa83_1 of83_2 fa83_2 of83_3 fa83_3 pl83 sz84 ag84 zr84 zo84 zd84 by84 el84 sl84 un84 st84 bo84 pt84 sz86 ag86 zr86 zd86 by86 sl86 st86 bo86 pt86 of86_0 fa86_0 of86_1 fa86_1 pl86 sz99 ag99 zr99 zd99 by99 sl99 st99 bo99 pt99 of99_0 fa99_0 of99_1 fa99_1 pl99 ek99 sz103 ag103 zr103 zd103 by103 sl103 st103 bo103 pt103 of103_0 fa103_0 of103_1 fa103_1 of103_2 fa103_2 pl103 ek103 sz105 ag105 zr105 zd105 by105 sl105 st105 bo105 pt105 of105_0 fa105_0 of105_1 fa105_1 pl105 ek105 sz108 ag108 zr108 zd108 by108 sl108 st108 bo108 pt108 of108_0 fa108_0 of108_1 fa108_1 pl108 ek108 sz152 ag152 zr152 zo152 zd152 by152 el152 sl152 un152 st152 bo152 pt152
attribute [local go_sem] List.length_set Nat.le_refl
theorem con80 (hC : COk cfg80) (t : Table) (c : Change) (hp : (t.file.format.fields.length ≤ 1000000 ∧ t.file.keys.length ≤ 1000000 ∧ t.records.length ≤ 1000000)) : Sem Try.prog 80 [.d (encTable t), .d (encChange c)] (.d (.i .i64 (chgErr t c))) := by
  refine sem_of_awR (C := cfg80) (rs := [.tmp 4]) (fun _ => []) Try.func80 rfl rfl rfl rfl rfl rfl ?_
  simp only [enterSl, enterHp, inO, inO2, inO1, inOs, List.append_nil, List.nil_append, Nat.mul_zero, List.cons_append, Nat.zero_add, Nat.reduceAdd, Nat.reduceMul, encDType, encVal, List.length_map, encField, encFmt, encKField, encFile, encRec, encTable, encChange]
  repeat' first
    | (with_reducible first | refine thenS_n ?_ | refine inBlockS_n ?_ | refine AW.seq ?_ | refine AW.block ?_)
    | (with_reducible first | (refine AW.runK hC ?_; intro K hK) | (refine AW.drawK hC (by kernel_rfl) ?_; intro K hK))
    | ((with_reducible first | refine erun_g ?_ | refine edraw_g ?_ | refine exitS_g ?_); refine siQ ?_; (try simp (disch := omega) only [w64, wu8]))
    | (with_reducible refine hCheck_g (by kernel_rfl) ?_)
    | ((first | (refine AW.cond rfl (fun h => ?_) (fun h => ?_)) | (refine AW.cond_ub rfl (fun h => ?_) ?_) | (refine AW.cond_nb rfl ?_ (fun h => ?_))) <;> (try replace h := boolH h) <;> (try (exfalso; first | omega | exact absurd h (by decide))))
    | (with_reducible first | refine AW.skip ?_ | refine AW.exit ?_ | refine AW.ret ?_ | refine thenS_r ?_ | refine thenS_e ?_ | refine inBlockS_r ?_ | refine inBlockS_e ?_ | refine inBlockS_e2 rfl ?_ | refine exitQ_r ?_ | refine exitQ_n ?_)
    | (refine sub_auto ?_; refine subQ ?_)
    | (with_reducible refine And.intro ?_ ?_)
    | (subst hK)
    | exact trivial
  all_goals (try (intros; assumption))
  all_goals (try simp only [Bool.or_eq_true, Bool.and_eq_true, Bool.or_eq_false_iff, Bool.and_eq_false_iff, Bool.not_eq_true', Bool.not_eq_false', Bool.not_eq_true, Bool.not_eq_false, decide_eq_true_eq, decide_eq_false_iff_not, beq_iff_eq, bne_iff_ne, beq_eq_false_iff_ne, bne_eq_false_iff_eq, ne_eq, Int.not_lt, Int.not_le, D.b.injEq, D.i.injEq, D.s.injEq, D.agg.injEq, D.sl.injEq, true_and, and_true, List.cons.injEq, gt_iff_lt, ge_iff_le,  Bool.cond_true_left, Bool.cond_false_right, Bool.cond_true_right, Bool.cond_false_left, seq_iff, seq_dec, dec_f, dec_t, eqB_t, eqB_f] at *)
  all_goals (try (intros; trivial))
  all_goals (try (intros; omega))
  all_goals (try (rw [w64 (by omega) (by omega)]; first | done | omega))
  all_goals clear hC
  all_goals (try simp only [chead_in t c (by assumption)] at *)
  all_goals (try simp only [chead_at t c (by assumption)] at *)
  all_goals first
    | omega
    | (intro d hd; rcases hd with rfl | rfl | rfl | rfl | rfl <;> exact ⟨rfl, by simp [D.cells, D.one]⟩)
    | exact chgErr_head (by assumption)
    | exact (chHead_pos (by assumption)).1
    | exact (chHead_pos (by assumption)).2
    | exact chgErr_place (by assumption) (by assumption)
    | exact chgErr_bytes (by assumption) (by assumption)
end
noncomputable def cfg81 : Cfg := ⟨Try.prog, 29, tab80, (fun _ _ => []), [], (fun _ => none)⟩
theorem cfg81_ti58 : cfg81.ti 58 = none := rfl
theorem cfg81_pins : cfg81.pins = [] := rfl
theorem cfg81_P : cfg81.P = Try.prog := rfl
theorem cfg81_N : cfg81.N = 29 := rfl
theorem cfg81_T58 : cfg81.T 58 = e58 := rfl
theorem cfg81_mv58 : cfg81.mv 58 = (fun _ => []) := rfl
section
attribute [local go_sem] cfg81_P cfg81_N cfg81_pins cfg81_ti58 cfg81_T58 e58 cfg81_mv58 sz3 ag3 zr3 zo3 zd3 by3 sl3 st3 bo3 pt3 ck3 sz4 ag4 zr4 zo4 zd4 by4 sl4 st4 bo4 pt4 sz78 ag78 zr78 zo78 zd78 by78 el78 sl78 un78 st78 bo78 pt78 sz80 ag80 zr80 zd80 by80 sl80 st80 bo80 pt80 of80_0 fa80_0 of80_1 fa80_1 pl80 sz81 ag81 zr81 zo81 zd81 by81 el81 sl81 un81 st81 bo81 pt81 sz83 ag83 zr83 zd83 by83 sl83 st83 bo83 pt83 of83_0 fa83_0 of83_1 fa83_1 of83_2 fa83_2 of83_3 fa83_3 pl83 sz84 ag84 zr84 zo84 zd84 by84 el84 sl84 un84 st84 bo84 pt84 sz86 ag86 zr86 zd86 by86 sl86 st86 bo86 pt86 of86_0 fa86_0 of86_1 fa86_1 pl86 sz99 ag99 zr99 zd99 by99 sl99 st99 bo99 pt99 of99_0 fa99_0 of99_1 fa99_1 pl99 ek99 sz103 ag103 zr103 zd103 by103 sl103 st103 bo103 pt103 of103_0 fa103_0 of103_1 fa103_1 of103_2 fa103_2 pl103 ek103 sz105 ag105 zr105 zd105 by105 sl105 st105 bo105 pt105 of105_0 fa105_0 of105_1 fa105_1 pl105 ek105 sz108 ag108 zr108 zd108 by108 sl108 st108 bo108 pt108 of108_0 fa108_0 of108_1 fa108_1 pl108 ek108
attribute [local go_sem] List.length_set Nat.le_refl
theorem con81 (hC : COk cfg81) (t : Table) (n : Int) (r : Rec) (hp : 1 ≤ n ∧ n ≤ (t.records.length : Int) + 1 ∧ t.records.length ≤ 1000000) : Sem Try.prog 81 [.d (encTable t), .d (.i .i64 n), .d (encRec r)] (.d (encTable (withT t n r))) := by
  refine sem_of_awR (C := cfg81) (rs := [.cell 6 86]) (fun _ => []) Try.func81 rfl rfl rfl rfl rfl rfl ?_
  simp only [enterSl, enterHp, inO, inO2, inO1, inOs, List.append_nil, List.nil_append, Nat.mul_zero, List.cons_append, Nat.zero_add, Nat.reduceAdd, Nat.reduceMul, encDType, encVal, List.length_map, encField, encFmt, encKField, encFile, encRec, encTable, encChange]
  repeat' first
    | (with_reducible first | refine thenS_n ?_ | refine inBlockS_n ?_ | refine AW.seq ?_ | refine AW.block ?_)
    | (with_reducible first | (refine AW.runK hC ?_; intro K hK) | (refine AW.drawK hC (by kernel_rfl) ?_; intro K hK))
    | ((with_reducible first | refine erun_g ?_ | refine edraw_g ?_ | refine exitS_g ?_); refine siQ ?_; (try simp (disch := omega) only [w64, wu8]))
    | (with_reducible refine hCheck_g (by kernel_rfl) ?_)
    | ((first | (refine AW.cond rfl (fun h => ?_) (fun h => ?_)) | (refine AW.cond_ub rfl (fun h => ?_) ?_) | (refine AW.cond_nb rfl ?_ (fun h => ?_))) <;> (try replace h := boolH h) <;> (try (exfalso; first | omega | exact absurd h (by decide))))
    | (with_reducible first | refine AW.skip ?_ | refine AW.exit ?_ | refine AW.ret ?_ | refine thenS_r ?_ | refine thenS_e ?_ | refine inBlockS_r ?_ | refine inBlockS_e ?_ | refine inBlockS_e2 rfl ?_ | refine exitQ_r ?_ | refine exitQ_n ?_)
    | (refine sub_auto ?_; refine subQ ?_)
    | (with_reducible refine And.intro ?_ ?_)
    | (subst hK)
    | exact trivial
  all_goals (try (intros; assumption))
  all_goals (try simp only [Bool.or_eq_true, Bool.and_eq_true, Bool.or_eq_false_iff, Bool.and_eq_false_iff, Bool.not_eq_true', Bool.not_eq_false', Bool.not_eq_true, Bool.not_eq_false, decide_eq_true_eq, decide_eq_false_iff_not, beq_iff_eq, bne_iff_ne, beq_eq_false_iff_ne, bne_eq_false_iff_eq, ne_eq, Int.not_lt, Int.not_le, D.b.injEq, D.i.injEq, D.s.injEq, D.agg.injEq, D.sl.injEq, true_and, and_true, List.cons.injEq, gt_iff_lt, ge_iff_le,  Bool.cond_true_left, Bool.cond_false_right, Bool.cond_true_right, Bool.cond_false_left, seq_iff, seq_dec, dec_f, dec_t, eqB_t, eqB_f] at *)
  all_goals (try (intros; trivial))
  all_goals (try (intros; omega))
  all_goals (try (rw [w64 (by omega) (by omega)]; first | done | omega))
  all_goals clear hC
  all_goals first
    | omega
    | rfl
    | exact dles_refl _
    | exact dles_of_eq (withT_app (by assumption))
    | exact dles_of_eq (withT_set (by assumption))
    | (intro d hd; first | (subst hd; exact ⟨rfl, by simp [D.cells, D.one]⟩) | (rcases hd with rfl | rfl <;> exact ⟨rfl, by simp [D.cells, D.one]⟩) | (rcases hd with rfl | rfl | rfl <;> exact ⟨rfl, by simp [D.cells, D.one]⟩) | (rcases hd with rfl | rfl | rfl | rfl <;> exact ⟨rfl, by simp [D.cells, D.one]⟩))
end
noncomputable def cfg60 : Cfg := ⟨Try.prog, 24, tab81, (fun _ _ => []), [], (fun _ => none)⟩
theorem cfg60_ti80 : cfg60.ti 80 = none := rfl
theorem cfg60_ti81 : cfg60.ti 81 = none := rfl
theorem cfg60_pins : cfg60.pins = [] := rfl
theorem cfg60_P : cfg60.P = Try.prog := rfl
theorem cfg60_N : cfg60.N = 24 := rfl
theorem cfg60_T80 : cfg60.T 80 = e80 := rfl
theorem cfg60_mv80 : cfg60.mv 80 = (fun _ => []) := rfl
theorem cfg60_T81 : cfg60.T 81 = e81 := rfl
theorem cfg60_mv81 : cfg60.mv 81 = (fun _ => []) := rfl
section
attribute [local go_sem] cfg60_P cfg60_N cfg60_pins cfg60_ti80 cfg60_ti81 cfg60_T80 e80 cfg60_mv80 cfg60_T81 e81 cfg60_mv81 sz3 ag3 zr3 zo3 zd3 by3 sl3 st3 bo3 pt3 ck3 sz4 ag4 zr4 zo4 zd4 by4 sl4 st4 bo4 pt4 sz25 ag25 zr25 zo25 zd25 by25 sl25 st25 bo25 pt25 ck25 sz49 ag49 zr49 zd49 by49 sl49 st49 bo49 pt49 of49_0 fa49_0 of49_1 fa49_1 of49_2 fa49_2 of49_3 fa49_3 of49_4 fa49_4 pl49 ek49 sz78 ag78 zr78 zo78 zd78 by78 el78 sl78 un78 st78 bo78 pt78 sz80 ag80 zr80 zd80 by80 sl80 st80 bo80 pt80 of80_0 fa80_0 of80_1 fa80_1 pl80 sz81 ag81 zr81 zo81 zd81 by81 el81 sl81 un81 st81 bo81 pt81 sz83 ag83 zr83 zd83 by83 sl83 st83 bo83 pt83 of83_0 fa83_0 of83_1 fa83_1 of83_2 fa83_2 of83_3 fa83_3 pl83 sz84 ag84 zr84 zo84 zd84 by84 el84 sl84 un84 st84 bo84 pt84 sz86 ag86 zr86 zd86 by86 sl86 st86 bo86 pt86 of86_0 fa86_0 of86_1 fa86_1 pl86 sz99 ag99 zr99 zd99 by99 sl99 st99 bo99 pt99 of99_0 fa99_0 of99_1 fa99_1 pl99 ek99 sz103 ag103 zr103 zd103 by103 sl103 st103 bo103 pt103 of103_0 fa103_0 of103_1 fa103_1 of103_2 fa103_2 pl103 ek103 sz105 ag105 zr105 zd105 by105 sl105 st105 bo105 pt105 of105_0 fa105_0 of105_1 fa105_1 pl105 ek105 sz108 ag108 zr108 zd108 by108 sl108 st108 bo108 pt108 of108_0 fa108_0 of108_1 fa108_1 pl108 ek108
attribute [local go_sem] List.length_set Nat.le_refl
theorem con60 (hC : COk cfg60) (t : Table) (c : Change) (hp : (t.file.format.fields.length ≤ 1000000 ∧ t.file.keys.length ≤ 1000000 ∧ t.records.length ≤ 1000000)) : Sem Try.prog 60 [.d (encTable t), .d (encChange c)] (.tup [.d (encTable (changedT t c).1), .d (.i .i64 (changedT t c).2)]) := by
  refine sem_of_awR (C := cfg60) (rs := [.cell 4 86, .tmp 5]) (fun _ => []) Try.func60 rfl rfl rfl rfl rfl rfl ?_
  simp only [enterSl, enterHp, inO, inO2, inO1, inOs, List.append_nil, List.nil_append, Nat.mul_zero, List.cons_append, Nat.zero_add, Nat.reduceAdd, Nat.reduceMul, encDType, encVal, List.length_map, encField, encFmt, encKField, encFile, encRec, encTable, encChange]
  repeat' first
    | (with_reducible first | refine thenS_n ?_ | refine inBlockS_n ?_ | refine AW.seq ?_ | refine AW.block ?_)
    | (with_reducible first | (refine AW.runK hC ?_; intro K hK) | (refine AW.drawK hC (by kernel_rfl) ?_; intro K hK))
    | ((with_reducible first | refine erun_g ?_ | refine edraw_g ?_ | refine exitS_g ?_); refine siQ ?_; (try simp (disch := omega) only [w64, wu8]))
    | (with_reducible refine hCheck_g (by kernel_rfl) ?_)
    | ((first | (refine AW.cond rfl (fun h => ?_) (fun h => ?_)) | (refine AW.cond_ub rfl (fun h => ?_) ?_) | (refine AW.cond_nb rfl ?_ (fun h => ?_))) <;> (try replace h := boolH h) <;> (try (exfalso; first | omega | exact absurd h (by decide))))
    | (with_reducible first | refine AW.skip ?_ | refine AW.exit ?_ | refine AW.ret ?_ | refine thenS_r ?_ | refine thenS_e ?_ | refine inBlockS_r ?_ | refine inBlockS_e ?_ | refine inBlockS_e2 rfl ?_ | refine exitQ_r ?_ | refine exitQ_n ?_)
    | (refine sub_auto ?_; refine subQ ?_)
    | (with_reducible refine And.intro ?_ ?_)
    | (subst hK)
    | exact trivial
  all_goals (try (intros; assumption))
  all_goals (try simp only [Bool.or_eq_true, Bool.and_eq_true, Bool.or_eq_false_iff, Bool.and_eq_false_iff, Bool.not_eq_true', Bool.not_eq_false', Bool.not_eq_true, Bool.not_eq_false, decide_eq_true_eq, decide_eq_false_iff_not, beq_iff_eq, bne_iff_ne, beq_eq_false_iff_ne, bne_eq_false_iff_eq, ne_eq, Int.not_lt, Int.not_le, D.b.injEq, D.i.injEq, D.s.injEq, D.agg.injEq, D.sl.injEq, true_and, and_true, List.cons.injEq, gt_iff_lt, ge_iff_le,  Bool.cond_true_left, Bool.cond_false_right, Bool.cond_true_right, Bool.cond_false_left, seq_iff, seq_dec, dec_f, dec_t, eqB_t, eqB_f] at *)
  all_goals (try (intros; trivial))
  all_goals (try (intros; omega))
  all_goals (try (rw [w64 (by omega) (by omega)]; first | done | omega))
  all_goals clear hC
  all_goals first
    | omega
    | exact (chgErr_pos (by assumption)).1
    | exact (chgErr_pos (by assumption)).2
    | (rw [changed_err (by assumption)]; done)
    | (rw [changed_err (by assumption)]; rfl)
    | (rw [changed_ok (by assumption)]; done)
    | (rw [changed_ok (by assumption)]; rfl)
    | (rw [changed_ok (by assumption)]; exact dles_refl _)
end
noncomputable def cfg61 : Cfg := ⟨Try.prog, 22, tab60, (fun _ _ => []), [], (fun _ => none)⟩
theorem cfg61_pins : cfg61.pins = [] := rfl
theorem cfg61_P : cfg61.P = Try.prog := rfl
theorem cfg61_N : cfg61.N = 22 := rfl
section
attribute [local go_sem] cfg61_P cfg61_N cfg61_pins sz3 ag3 zr3 zo3 zd3 by3 sl3 st3 bo3 pt3 ck3 sz49 ag49 zr49 zd49 by49 sl49 st49 bo49 pt49 of49_0 fa49_0 of49_1 fa49_1 of49_2 fa49_2 of49_3 fa49_3 of49_4 fa49_4 pl49 ek49
attribute [local go_sem] List.length_set Nat.le_refl
theorem con61 (hC : COk cfg61) (c : Change) : Sem Try.prog 61 [.d (encChange c)] (.tup [.d (encChange (reversedC c).1), .d (.i .i64 (reversedC c).2)]) := by
  refine sem_of_awR (C := cfg61) (rs := [.cell 2 49, .tmp 3]) (fun _ => []) Try.func61 rfl rfl rfl rfl rfl rfl ?_
  simp only [enterSl, enterHp, inO, inO2, inO1, inOs, List.append_nil, List.nil_append, Nat.mul_zero, List.cons_append, Nat.zero_add, Nat.reduceAdd, Nat.reduceMul, encDType, encVal, List.length_map, encField, encFmt, encKField, encFile, encRec, encTable, encChange]
  repeat' first
    | (with_reducible first | refine thenS_n ?_ | refine inBlockS_n ?_ | refine AW.seq ?_ | refine AW.block ?_)
    | (with_reducible first | (refine AW.runK hC ?_; intro K hK) | (refine AW.drawK hC (by kernel_rfl) ?_; intro K hK))
    | ((with_reducible first | refine erun_g ?_ | refine edraw_g ?_ | refine exitS_g ?_); refine siQ ?_; (try simp (disch := omega) only [w64, wu8]))
    | (with_reducible refine hCheck_g (by kernel_rfl) ?_)
    | ((first | (refine AW.cond rfl (fun h => ?_) (fun h => ?_)) | (refine AW.cond_ub rfl (fun h => ?_) ?_) | (refine AW.cond_nb rfl ?_ (fun h => ?_))) <;> (try replace h := boolH h) <;> (try (exfalso; first | omega | exact absurd h (by decide))))
    | (with_reducible first | refine AW.skip ?_ | refine AW.exit ?_ | refine AW.ret ?_ | refine thenS_r ?_ | refine thenS_e ?_ | refine inBlockS_r ?_ | refine inBlockS_e ?_ | refine inBlockS_e2 rfl ?_ | refine exitQ_r ?_ | refine exitQ_n ?_)
    | (refine sub_auto ?_; refine subQ ?_)
    | (with_reducible refine And.intro ?_ ?_)
    | (subst hK)
    | exact trivial
  all_goals (try (intros; assumption))
  all_goals (try simp only [Bool.or_eq_true, Bool.and_eq_true, Bool.or_eq_false_iff, Bool.and_eq_false_iff, Bool.not_eq_true', Bool.not_eq_false', Bool.not_eq_true, Bool.not_eq_false, decide_eq_true_eq, decide_eq_false_iff_not, beq_iff_eq, bne_iff_ne, beq_eq_false_iff_ne, bne_eq_false_iff_eq, ne_eq, Int.not_lt, Int.not_le, D.b.injEq, D.i.injEq, D.s.injEq, D.agg.injEq, D.sl.injEq, true_and, and_true, List.cons.injEq, gt_iff_lt, ge_iff_le,  Bool.cond_true_left, Bool.cond_false_right, Bool.cond_true_right, Bool.cond_false_left, seq_iff, seq_dec, dec_f, dec_t, eqB_t, eqB_f] at *)
  all_goals (try (intros; trivial))
  all_goals (try (intros; omega))
  all_goals (try (rw [w64 (by omega) (by omega)]; first | done | omega))
  all_goals clear hC
  all_goals first
    | omega
    | (simp [reversedC, revKind, zChange, *]; done)
    | (simp_all [reversedC, revKind]; done)
    | (unfold reversedC revKind; grind)
end
noncomputable def cfg79 : Cfg := ⟨Try.prog, 9, tab61, (fun _ _ => []), [], (fun _ => none)⟩
theorem cfg79_pins : cfg79.pins = [] := rfl
theorem cfg79_P : cfg79.P = Try.prog := rfl
theorem cfg79_N : cfg79.N = 9 := rfl
section
attribute [local go_sem] cfg79_P cfg79_N cfg79_pins sz3 ag3 zr3 zo3 zd3 by3 sl3 st3 bo3 pt3 ck3 sz4 ag4 zr4 zo4 zd4 by4 sl4 st4 bo4 pt4 sz78 ag78 zr78 zo78 zd78 by78 el78 sl78 un78 st78 bo78 pt78 sz80 ag80 zr80 zd80 by80 sl80 st80 bo80 pt80 of80_0 fa80_0 of80_1 fa80_1 pl80 sz81 ag81 zr81 zo81 zd81 by81 el81 sl81 un81 st81 bo81 pt81 sz83 ag83 zr83 zd83 by83 sl83 st83 bo83 pt83 of83_0 fa83_0 of83_1 fa83_1 of83_2 fa83_2 of83_3 fa83_3 pl83 sz84 ag84 zr84 zo84 zd84 by84 el84 sl84 un84 st84 bo84 pt84 sz86 ag86 zr86 zd86 by86 sl86 st86 bo86 pt86 of86_0 fa86_0 of86_1 fa86_1 pl86 sz99 ag99 zr99 zd99 by99 sl99 st99 bo99 pt99 of99_0 fa99_0 of99_1 fa99_1 pl99 ek99 sz103 ag103 zr103 zd103 by103 sl103 st103 bo103 pt103 of103_0 fa103_0 of103_1 fa103_1 of103_2 fa103_2 pl103 ek103 sz105 ag105 zr105 zd105 by105 sl105 st105 bo105 pt105 of105_0 fa105_0 of105_1 fa105_1 pl105 ek105 sz108 ag108 zr108 zd108 by108 sl108 st108 bo108 pt108 of108_0 fa108_0 of108_1 fa108_1 pl108 ek108
attribute [local go_sem] List.length_set Nat.le_refl dL_Table dM_Table
theorem con79 (hC : COk cfg79) (t : Table) (n : ByteArray) : Sem Try.prog 79 [.d (encTable t), .d (.cp [.s n])] (.d (.b (decide (t.file.name = n)))) := by
  refine sem_of_awR (C := cfg79) (rs := [.tmp 3]) (fun _ => []) Try.func79 rfl rfl rfl rfl rfl rfl ?_
  simp only [enterSl, enterHp, inO, inO2, inO1, inOs, List.append_nil, List.nil_append, Nat.mul_zero, List.cons_append, Nat.zero_add, Nat.reduceAdd, Nat.reduceMul, encDType, encVal, List.length_map, encField, encFmt, encKField, encFile, encRec, encTable, encChange]
  repeat' first
    | (with_reducible first | refine thenS_n ?_ | refine inBlockS_n ?_ | refine AW.seq ?_ | refine AW.block ?_)
    | (with_reducible first | (refine AW.runK hC ?_; intro K hK) | (refine AW.drawK hC (by kernel_rfl) ?_; intro K hK))
    | ((with_reducible first | refine erun_g ?_ | refine edraw_g ?_ | refine exitS_g ?_); refine siQ ?_; (try simp (disch := omega) only [w64, wu8]))
    | (with_reducible refine hCheck_g (by kernel_rfl) ?_)
    | ((first | (refine AW.cond rfl (fun h => ?_) (fun h => ?_)) | (refine AW.cond_ub rfl (fun h => ?_) ?_) | (refine AW.cond_nb rfl ?_ (fun h => ?_))) <;> (try replace h := boolH h) <;> (try (exfalso; first | omega | exact absurd h (by decide))))
    | (with_reducible first | refine AW.skip ?_ | refine AW.exit ?_ | refine AW.ret ?_ | refine thenS_r ?_ | refine thenS_e ?_ | refine inBlockS_r ?_ | refine inBlockS_e ?_ | refine inBlockS_e2 rfl ?_ | refine exitQ_r ?_ | refine exitQ_n ?_)
    | (refine sub_auto ?_; refine subQ ?_)
    | (with_reducible refine And.intro ?_ ?_)
    | (subst hK)
    | exact trivial
  all_goals (try (intros; assumption))
  all_goals (try simp only [Bool.or_eq_true, Bool.and_eq_true, Bool.or_eq_false_iff, Bool.and_eq_false_iff, Bool.not_eq_true', Bool.not_eq_false', Bool.not_eq_true, Bool.not_eq_false, decide_eq_true_eq, decide_eq_false_iff_not, beq_iff_eq, bne_iff_ne, beq_eq_false_iff_ne, bne_eq_false_iff_eq, ne_eq, Int.not_lt, Int.not_le, D.b.injEq, D.i.injEq, D.s.injEq, D.agg.injEq, D.sl.injEq, true_and, and_true, List.cons.injEq, gt_iff_lt, ge_iff_le,  Bool.cond_true_left, Bool.cond_false_right, Bool.cond_true_right, Bool.cond_false_left, seq_iff, seq_dec, dec_f, dec_t, eqB_t, eqB_f] at *)
  all_goals (try (intros; trivial))
  all_goals (try (intros; omega))
  all_goals (try (rw [w64 (by omega) (by omega)]; first | done | omega))
end
noncomputable def cfg78 : Cfg := ⟨Try.prog, 19, tab79, (fun _ _ => []), [], (fun _ => none)⟩
theorem cfg78_ti79 : cfg78.ti 79 = none := rfl
theorem cfg78_pins : cfg78.pins = [] := rfl
theorem cfg78_P : cfg78.P = Try.prog := rfl
theorem cfg78_N : cfg78.N = 19 := rfl
theorem cfg78_T79 : cfg78.T 79 = e79 := rfl
theorem cfg78_mv79 : cfg78.mv 79 = (fun _ => []) := rfl
section
attribute [local go_sem] cfg78_P cfg78_N cfg78_pins cfg78_ti79 cfg78_T79 e79 cfg78_mv79 sz3 ag3 zr3 zo3 zd3 by3 sl3 st3 bo3 pt3 ck3 sz4 ag4 zr4 zo4 zd4 by4 sl4 st4 bo4 pt4 sz43 ag43 zr43 zo43 zd43 by43 el43 sl43 un43 st43 bo43 pt43 sz78 ag78 zr78 zo78 zd78 by78 el78 sl78 un78 st78 bo78 pt78 sz80 ag80 zr80 zd80 by80 sl80 st80 bo80 pt80 of80_0 fa80_0 of80_1 fa80_1 pl80 sz81 ag81 zr81 zo81 zd81 by81 el81 sl81 un81 st81 bo81 pt81 sz83 ag83 zr83 zd83 by83 sl83 st83 bo83 pt83 of83_0 fa83_0 of83_1 fa83_1 of83_2 fa83_2 of83_3 fa83_3 pl83 sz84 ag84 zr84 zo84 zd84 by84 el84 sl84 un84 st84 bo84 pt84 sz86 ag86 zr86 zd86 by86 sl86 st86 bo86 pt86 of86_0 fa86_0 of86_1 fa86_1 pl86 sz99 ag99 zr99 zd99 by99 sl99 st99 bo99 pt99 of99_0 fa99_0 of99_1 fa99_1 pl99 ek99 sz103 ag103 zr103 zd103 by103 sl103 st103 bo103 pt103 of103_0 fa103_0 of103_1 fa103_1 of103_2 fa103_2 pl103 ek103 sz105 ag105 zr105 zd105 by105 sl105 st105 bo105 pt105 of105_0 fa105_0 of105_1 fa105_1 pl105 ek105 sz108 ag108 zr108 zd108 by108 sl108 st108 bo108 pt108 of108_0 fa108_0 of108_1 fa108_1 pl108 ek108
attribute [local go_sem] List.length_set Nat.le_refl dL_Table dM_Table
theorem con78 (hC : COk cfg78) (l : List Table) (n : ByteArray) (hp : l.length ≤ 1000000) : Sem Try.prog 78 [.d (.sl 6 (l.map encTable)), .d (.fn 79 [.cp [.s n]])] (.d (.i .i64 (findT l n))) := by
  refine sem_of_awR (C := cfg78) (rs := [.tmp 4]) (fun _ => []) Try.func78 rfl rfl rfl rfl rfl rfl ?_
  simp only [enterSl, enterHp, inO, inO2, inO1, inOs, List.append_nil, List.nil_append, Nat.mul_zero, List.cons_append, Nat.zero_add, Nat.reduceAdd, Nat.reduceMul, encDType, encVal, List.length_map, encField, encFmt, encKField, encFile, encRec, encTable, encChange]
  repeat' first
    | (with_reducible first | refine thenS_n ?_ | refine inBlockS_n ?_ | refine AW.seq ?_ | refine AW.block ?_)
    | (refine AW.atR 4 rfl ?_; have hg : ∀ z, (l.map encTable).getD i z = encTable (l.getD i zTable) := fun z => getD_mapT (by omega) z)
    | (with_reducible first | (refine AWh.runK hC ?_; intro K hK) | (refine AWh.drawK hC (by kernel_rfl) ?_; intro K hK))
    | (with_reducible first | (refine AW.runK hC ?_; intro K hK) | (refine AW.drawK hC (by kernel_rfl) ?_; intro K hK))
    | ((with_reducible first | refine erun_g ?_ | refine edraw_g ?_ | refine exitS_g ?_); (first | (simp (maxSteps := 1000000) only [go_sem, ↓reduceIte, reduceCtorEq, Nat.reduceEqDiff, Nat.reduceLT, Nat.reduceLeDiff, Nat.reduceMul, Nat.reduceAdd, Nat.reduceSub, reduceDIte, Nat.reduceBEq, Nat.reduceBNe, hg]) | (refine siQ ?_)); (try simp (disch := omega) only [w64, wu8]))
    | (with_reducible refine hCheck_g (by kernel_rfl) ?_)
    | ((first | (refine AW.cond rfl (fun h => ?_) (fun h => ?_)) | (refine AW.cond_ub rfl (fun h => ?_) ?_) | (refine AW.cond_nb rfl ?_ (fun h => ?_))) <;> (try replace h := boolH h) <;> (try (exfalso; first | omega | exact absurd h (by decide))))
    | (with_reducible first | refine AW.skip ?_ | refine AW.exit ?_ | refine AW.ret ?_ | refine thenS_r ?_ | refine thenS_e ?_ | refine inBlockS_r ?_ | refine inBlockS_e ?_ | refine inBlockS_e2 rfl ?_ | refine exitQ_r ?_ | refine exitQ_n ?_)
    | (refine AW.loopN 2 rfl (ι := Nat) (fun i => mkS [(0, V.d (.sl 6 (l.map encTable))), (1, V.d (.fn 79 [.cp [.s n]])), (7, V.d (.i .i64 (l.length : Int))), (8, V.d (.i .i64 (i : Int)))] ([])) (fun i => i ≤ l.length ∧ ∀ j, j < i → nameHit l n j = 0) (fun i => l.length - i) (0) ?_ ?_ (fun i hi => ?_) <;> (try dsimp only) <;> (try dsimp only at hi))
    | (refine LoopNext.mk1 2 (i + 1) ?_ ?_ ?_ <;> (try dsimp only))
    | (refine sub_auto ?_; refine subQ ?_)
    | (with_reducible refine And.intro ?_ ?_)
    | (subst hK)
    | exact trivial
  all_goals (try (intros; assumption))
  all_goals (try simp only [Bool.or_eq_true, Bool.and_eq_true, Bool.or_eq_false_iff, Bool.and_eq_false_iff, Bool.not_eq_true', Bool.not_eq_false', Bool.not_eq_true, Bool.not_eq_false, decide_eq_true_eq, decide_eq_false_iff_not, beq_iff_eq, bne_iff_ne, beq_eq_false_iff_ne, bne_eq_false_iff_eq, ne_eq, Int.not_lt, Int.not_le, D.b.injEq, D.i.injEq, D.s.injEq, D.agg.injEq, D.sl.injEq, true_and, and_true, List.cons.injEq, gt_iff_lt, ge_iff_le,  Bool.cond_true_left, Bool.cond_false_right, Bool.cond_true_right, Bool.cond_false_left, seq_iff, seq_dec, dec_f, dec_t, eqB_t, eqB_f] at *)
  all_goals (try (intros; trivial))
  all_goals (try (intros; omega))
  all_goals (try (rw [w64 (by omega) (by omega)]; first | done | omega))
  all_goals clear hC
  all_goals first
    | omega
    | (rw [find_yes hi.2 (by omega) (by assumption)]; done)
    | (rw [find_end hi.2 (by omega)]; done)
    | exact all_step hi.2 (hit_no (by assumption))
end
noncomputable def cfg59 : Cfg := ⟨Try.prog, 8, tab78, (fun _ _ => []), [], (fun _ => none)⟩
theorem cfg59_ti78 : cfg59.ti 78 = none := rfl
theorem cfg59_ti79 : cfg59.ti 79 = none := rfl
theorem cfg59_pins : cfg59.pins = [] := rfl
theorem cfg59_P : cfg59.P = Try.prog := rfl
theorem cfg59_N : cfg59.N = 8 := rfl
theorem cfg59_T78 : cfg59.T 78 = e78 := rfl
theorem cfg59_mv78 : cfg59.mv 78 = (fun _ => []) := rfl
theorem cfg59_T79 : cfg59.T 79 = e79 := rfl
theorem cfg59_mv79 : cfg59.mv 79 = (fun _ => []) := rfl
section
attribute [local go_sem] cfg59_P cfg59_N cfg59_pins cfg59_ti78 cfg59_ti79 cfg59_T78 e78 cfg59_mv78 cfg59_T79 e79 cfg59_mv79 sz3 ag3 zr3 zo3 zd3 by3 sl3 st3 bo3 pt3 ck3 sz4 ag4 zr4 zo4 zd4 by4 sl4 st4 bo4 pt4 sz43 ag43 zr43 zo43 zd43 by43 el43 sl43 un43 st43 bo43 pt43 sz78 ag78 zr78 zo78 zd78 by78 el78 sl78 un78 st78 bo78 pt78 sz80 ag80 zr80 zd80 by80 sl80 st80 bo80 pt80 of80_0 fa80_0 of80_1 fa80_1 pl80 sz81 ag81 zr81 zo81 zd81 by81 el81 sl81 un81 st81 bo81 pt81 sz83 ag83 zr83 zd83 by83 sl83 st83 bo83 pt83 of83_0 fa83_0 of83_1 fa83_1 of83_2 fa83_2 of83_3 fa83_3 pl83 sz84 ag84 zr84 zo84 zd84 by84 el84 sl84 un84 st84 bo84 pt84 sz86 ag86 zr86 zd86 by86 sl86 st86 bo86 pt86 of86_0 fa86_0 of86_1 fa86_1 pl86 sz99 ag99 zr99 zd99 by99 sl99 st99 bo99 pt99 of99_0 fa99_0 of99_1 fa99_1 pl99 ek99 sz103 ag103 zr103 zd103 by103 sl103 st103 bo103 pt103 of103_0 fa103_0 of103_1 fa103_1 of103_2 fa103_2 pl103 ek103 sz105 ag105 zr105 zd105 by105 sl105 st105 bo105 pt105 of105_0 fa105_0 of105_1 fa105_1 pl105 ek105 sz108 ag108 zr108 zd108 by108 sl108 st108 bo108 pt108 of108_0 fa108_0 of108_1 fa108_1 pl108 ek108
attribute [local go_sem] List.length_set Nat.le_refl dL_Table dM_Table
theorem con59 (hC : COk cfg59) (l : List Table) (n : ByteArray) (hp : l.length ≤ 1000000) : Sem Try.prog 59 [.d (.sl 6 (l.map encTable)), .d (.s n)] (.d (.i .i64 (findT l n))) := by
  refine sem_of_awR (C := cfg59) (rs := [.tmp 4]) (fun _ => []) Try.func59 rfl rfl rfl rfl rfl rfl ?_
  simp only [enterSl, enterHp, inO, inO2, inO1, inOs, List.append_nil, List.nil_append, Nat.mul_zero, List.cons_append, Nat.zero_add, Nat.reduceAdd, Nat.reduceMul, encDType, encVal, List.length_map, encField, encFmt, encKField, encFile, encRec, encTable, encChange]
  repeat' first
    | (with_reducible first | refine thenS_n ?_ | refine inBlockS_n ?_ | refine AW.seq ?_ | refine AW.block ?_)
    | (with_reducible first | (refine AW.runK hC ?_; intro K hK) | (refine AW.drawK hC (by kernel_rfl) ?_; intro K hK))
    | ((with_reducible first | refine erun_g ?_ | refine edraw_g ?_ | refine exitS_g ?_); refine siQ ?_; (try simp (disch := omega) only [w64, wu8]))
    | (with_reducible refine hCheck_g (by kernel_rfl) ?_)
    | ((first | (refine AW.cond rfl (fun h => ?_) (fun h => ?_)) | (refine AW.cond_ub rfl (fun h => ?_) ?_) | (refine AW.cond_nb rfl ?_ (fun h => ?_))) <;> (try replace h := boolH h) <;> (try (exfalso; first | omega | exact absurd h (by decide))))
    | (with_reducible first | refine AW.skip ?_ | refine AW.exit ?_ | refine AW.ret ?_ | refine thenS_r ?_ | refine thenS_e ?_ | refine inBlockS_r ?_ | refine inBlockS_e ?_ | refine inBlockS_e2 rfl ?_ | refine exitQ_r ?_ | refine exitQ_n ?_)
    | (refine sub_auto ?_; refine subQ ?_)
    | (with_reducible refine And.intro ?_ ?_)
    | (subst hK)
    | exact trivial
  all_goals (try (intros; assumption))
  all_goals (try simp only [Bool.or_eq_true, Bool.and_eq_true, Bool.or_eq_false_iff, Bool.and_eq_false_iff, Bool.not_eq_true', Bool.not_eq_false', Bool.not_eq_true, Bool.not_eq_false, decide_eq_true_eq, decide_eq_false_iff_not, beq_iff_eq, bne_iff_ne, beq_eq_false_iff_ne, bne_eq_false_iff_eq, ne_eq, Int.not_lt, Int.not_le, D.b.injEq, D.i.injEq, D.s.injEq, D.agg.injEq, D.sl.injEq, true_and, and_true, List.cons.injEq, gt_iff_lt, ge_iff_le,  Bool.cond_true_left, Bool.cond_false_right, Bool.cond_true_right, Bool.cond_false_left, seq_iff, seq_dec, dec_f, dec_t, eqB_t, eqB_f] at *)
  all_goals (try (intros; trivial))
  all_goals (try (intros; omega))
  all_goals (try (rw [w64 (by omega) (by omega)]; first | done | omega))
end
end Go.Ev
