/- Tools and contracts under the laws of this seat: Dxc55, Dxc39, Dxc41, Dxc36, Dxc62, Dxc38, Dxc37, Dxc19, Dxc23, Dxc82. -/
import Derived.Test.YtkgkgcojfocomaaE07
import Derived.Test.YtkgkgcojfocomaaE09
set_option linter.unusedVariables false
set_option linter.unusedSimpArgs false
namespace Go.Ev
open Go.Proofs Ty
set_option maxRecDepth 10000
set_option maxHeartbeats 4000000
set_option linter.unusedSimpArgs false
set_option linter.unusedVariables false
attribute [local go_sem] erun_nil erun_cons edraw_eq edrun_nil edrun_cons e1_n e1_g guardSlot_eq lkAll_tmp lkAll_nil lkAll_const lkAll_func val_tmp val_const val_func aget getBox_mk getRow_mk liveRow_mk hp_mk eU_move_n eU_assign_n eU_move eU_assign eU_pick eU_alloc eU_box eU_load eU_store eU_nilCheck eU_binOp eU_unOp eU_fieldAddr eU_field eU_indexAddr eU_index eU_build eU_buildSlice eU_slice eU_extract eU_makeFunc eU_builtin eU_call eU_callv V.cells V.one D.one D.cells newObj nm HS.isFree HS.isLive andOk_some andOk_none List.map_cons List.map_nil Option.bind_some Option.bind_none putL List.cons_append List.nil_append thenS_normal thenS_ret thenS_exit inBlockS_normal inBlockS_ret inBlockS_exit true_and and_true justV justO cval Option.map_some Option.map_none loadAt storeAt ldV ldD mkAgg V.asD spliceL List.take_succ_cons List.take_zero List.drop_succ_cons List.drop_zero List.getElem?_cons_zero List.getElem?_cons_succ List.getElem?_nil List.all_cons List.all_nil Bool.and_true Bool.true_and Bool.and_self List.length_cons List.length_nil vals aopCall argsO argO toD3 toD2 toD1 toDs O.ok O.ok2 O.ok1 O.flat O.flat1 D.flat D.flatA inO inO2 inO1 inOs List.filterMap_nil List.filterMap_cons List.filter_nil List.filter_cons List.nodup_nil decide_true decide_false Bool.not_true Bool.not_false not_true_eq_false not_false_eq_true or_false false_or and_false false_and ne_eq List.append_nil optB guardQ guardRes beq_self_eq_true List.mapM_cons List.mapM_nil Option.pure_def Option.bind_eq_bind true_or or_true or_self callHp ite_self not_true not_false_iff ite_true ite_false if_true if_false Bool.false_eq_true Bool.true_eq_false List.any_nil List.any_cons List.contains_nil List.contains_cons eq_self aopAppend builtinV elems aopBin nilEqS nilEqP aopSlice bound natOf lenOf binD intBin unD bindEq eU_makeMap eU_convert eU_makeSlice aopConv aopMake isShift shiftD eU_lookup eU_mapUpdate getMp_mk List.range_zero Nat.zero_le Nat.zero_mul Nat.zero_add Nat.add_zero List.length_append List.take_length List.isEmpty_nil List.isEmpty_cons V.neg List.flatMap_nil and_self List.range_succ forall_const implies_true Nat.not_lt_zero exitQ_normal exitQ_ret exitS_eq exitO resVs resV_tmp resV_cell takeRow argCells mvAt dle_same dles_same ole_same ole oles dle dles List.nodup_cons List.mem_cons List.not_mem_nil List.drop_length Nat.le_refl Nat.lt_irrefl id_eq Option.some.injEq Bool.or_false Bool.false_or Bool.or_self Bool.or_true Bool.true_or false_implies Bool.and_false Bool.false_and List.reverse_cons List.reverse_nil sh1 mget1 mget aopLookup aopMapUpdate mapOf msetK msetV Option.isSome_some Option.isSome_none Bool.cond_true_left Bool.cond_false_right Bool.cond_true_right Bool.cond_false_left beq_true beq_false Bool.not_not imp_self guardVal notB strBin aopSliceS buildV argOk D.splice kEq Option.toList_some Option.toList_none adel List.getD_cons_zero List.getD_cons_succ bxIds bxId backHp hget one1 aopCall0 aopTurn
attribute [local go_sem] sz3 ag3 zr3 zo3 zd3 by3 sl3 st3 bo3 pt3 ck3 sz9 ag9 zr9 zo9 zd9 by9 sl9 un9 st9 bo9 pt9 ck9 encDType decDType etaDType zfDType encVal decVal etaVal zfVal Int.toNat_natCast chr_eq dL_int dM_int getDz_int decL_sl decM_cons decM_nil decI List.length_map nc0 bytesD_len bytesD_get encField decField etaField zfField encFmt decFmt etaFmt zfFmt encKField decKField etaKField zfKField encFile decFile etaFile zfFile encRec decRec etaRec zfRec getDz_Field getDz_KField getDz_Rec dL_Field dL_KField dL_Rec dM_Field dM_KField dM_Rec ceqField ceqKField ceqRec List.length_take decL_nil Int.toNat_zero Nat.sub_zero List.drop_zero encTable decTable etaTable zfTable encChange decChange etaChange zfChange dL_Change dM_Change List.length_set Nat.le_refl
attribute [local go_sem ←] List.map_take List.map_drop
noncomputable def cfg55 : Cfg := ⟨Try.prog, 33, tab59, (fun _ _ => []), [], (fun _ => none)⟩
theorem cfg55_ti59 : cfg55.ti 59 = none := rfl
theorem cfg55_ti77 : cfg55.ti 77 = none := rfl
theorem cfg55_pins : cfg55.pins = [] := rfl
theorem cfg55_P : cfg55.P = Try.prog := rfl
theorem cfg55_N : cfg55.N = 33 := rfl
theorem cfg55_T59 : cfg55.T 59 = e59 := rfl
theorem cfg55_mv59 : cfg55.mv 59 = (fun _ => []) := rfl
theorem cfg55_T77 : cfg55.T 77 = e77 := rfl
theorem cfg55_mv77 : cfg55.mv 77 = (fun _ => []) := rfl
section
attribute [local go_sem] cfg55_P cfg55_N cfg55_pins cfg55_ti59 cfg55_ti77 cfg55_T59 e59 cfg55_mv59 cfg55_T77 e77 cfg55_mv77 sz4 ag4 zr4 zo4 zd4 by4 sl4 st4 bo4 pt4 sz25 ag25 zr25 zo25 zd25 by25 sl25 st25 bo25 pt25 ck25 sz43 ag43 zr43 zo43 zd43 by43 el43 sl43 un43 st43 bo43 pt43 sz78 ag78 zr78 zo78 zd78 by78 el78 sl78 un78 st78 bo78 pt78 sz80 ag80 zr80 zd80 by80 sl80 st80 bo80 pt80 of80_0 fa80_0 of80_1 fa80_1 pl80 sz81 ag81 zr81 zo81 zd81 by81 el81 sl81 un81 st81 bo81 pt81 sz83 ag83 zr83 zd83 by83 sl83 st83 bo83 pt83 of83_0 fa83_0 of83_1 fa83_1 of83_2 fa83_2 of83_3 fa83_3 pl83 sz84 ag84 zr84 zo84 zd84 by84 el84 sl84 un84 st84 bo84 pt84 sz86 ag86 zr86 zd86 by86 sl86 st86 bo86 pt86 of86_0 fa86_0 of86_1 fa86_1 pl86 sz99 ag99 zr99 zd99 by99 sl99 st99 bo99 pt99 of99_0 fa99_0 of99_1 fa99_1 pl99 ek99 sz103 ag103 zr103 zd103 by103 sl103 st103 bo103 pt103 of103_0 fa103_0 of103_1 fa103_1 of103_2 fa103_2 pl103 ek103 sz105 ag105 zr105 zd105 by105 sl105 st105 bo105 pt105 of105_0 fa105_0 of105_1 fa105_1 pl105 ek105 sz108 ag108 zr108 zd108 by108 sl108 st108 bo108 pt108 of108_0 fa108_0 of108_1 fa108_1 pl108 ek108
attribute [local go_sem] dL_Table dM_Table
theorem con55 (hC : COk cfg55) (l : List Table) (hp : okTs l) : Sem Try.prog 55 [.d (.sl 6 (l.map encTable))] (.d (.i .i64 (tablesErr l))) := by
  refine sem_of_awR (C := cfg55) (rs := [.tmp 2]) (fun _ => []) Try.func55 rfl rfl rfl rfl rfl rfl ?_
  simp only [enterSl, enterHp, inO, inO2, inO1, inOs, List.append_nil, List.nil_append, Nat.mul_zero, List.cons_append, Nat.zero_add, Nat.reduceAdd, Nat.reduceMul, encDType, encVal, List.length_map, encField, encFmt, encKField, encFile, encRec, encTable, encChange]
  repeat' first
    | (with_reducible first | refine thenS_n ?_ | refine inBlockS_n ?_ | refine AW.seq ?_ | refine AW.block ?_)
    | (refine AW.atR 5 rfl ?_; have hg : ∀ z, (l.map encTable).getD i z = encTable (l.getD i zTable) := fun z => getD_mapT (by omega) z)
    | (with_reducible first | (refine AWh.runK hC ?_; intro K hK) | (refine AWh.drawK hC (by kernel_rfl) ?_; intro K hK))
    | (with_reducible first | (refine AW.runK hC ?_; intro K hK) | (refine AW.drawK hC (by kernel_rfl) ?_; intro K hK))
    | ((with_reducible first | refine erun_g ?_ | refine edraw_g ?_ | refine exitS_g ?_); (first | (simp (maxSteps := 1000000) only [go_sem, ↓reduceIte, reduceCtorEq, Nat.reduceEqDiff, Nat.reduceLT, Nat.reduceLeDiff, Nat.reduceMul, Nat.reduceAdd, Nat.reduceSub, reduceDIte, Nat.reduceBEq, Nat.reduceBNe, hg]) | (refine siQ ?_)); (try simp (disch := omega) only [w64, wu8]))
    | (with_reducible refine hCheck_g (by kernel_rfl) ?_)
    | ((first | (refine AW.cond rfl (fun h => ?_) (fun h => ?_)) | (refine AW.cond_ub rfl (fun h => ?_) ?_) | (refine AW.cond_nb rfl ?_ (fun h => ?_))) <;> (try replace h := boolH h) <;> (try (exfalso; first | omega | exact absurd h (by decide))))
    | (with_reducible first | refine AW.skip ?_ | refine AW.exit ?_ | refine AW.ret ?_ | refine thenS_r ?_ | refine thenS_e ?_ | refine inBlockS_r ?_ | refine inBlockS_e ?_ | refine inBlockS_e2 rfl ?_ | refine exitQ_r ?_ | refine exitQ_n ?_)
    | (refine AW.loopN 4 rfl (ι := Nat) (fun i => mkS [(0, V.d (.sl 6 (l.map encTable))), (10, V.d (.sl 6 (l.map encTable))), (11, V.d (.i .i64 (l.length : Int))), (12, V.d (.i .i64 (i : Int)))] ([])) (fun i => i ≤ l.length ∧ l.length ≤ 8 ∧ ∀ j, j < i → tabE l j = 0) (fun i => l.length - i) (0) ?_ ?_ (fun i hi => ?_) <;> (try dsimp only) <;> (try dsimp only at hi))
    | (refine LoopNext.mk1 4 (i + 1) ?_ ?_ ?_ <;> (try dsimp only))
    | (refine sub_auto ?_; refine subQ ?_)
    | (with_reducible refine And.intro ?_ ?_)
    | (subst hK)
    | exact trivial
  all_goals (try (intros; assumption))
  all_goals (try simp only [Bool.or_eq_true, Bool.and_eq_true, Bool.or_eq_false_iff, Bool.and_eq_false_iff, Bool.not_eq_true', Bool.not_eq_false', Bool.not_eq_true, Bool.not_eq_false, decide_eq_true_eq, decide_eq_false_iff_not, beq_iff_eq, bne_iff_ne, beq_eq_false_iff_ne, bne_eq_false_iff_eq, ne_eq, Int.not_lt, Int.not_le, D.b.injEq, D.i.injEq, D.s.injEq, D.agg.injEq, D.sl.injEq, true_and, and_true, List.cons.injEq, gt_iff_lt, ge_iff_le,  Bool.cond_true_left, Bool.cond_false_right, Bool.cond_true_right, Bool.cond_false_left, seq_iff, seq_dec, dec_f, dec_t, eqB_t, eqB_f] at *)
  all_goals (try (intros; trivial))
  all_goals (try (intros; omega))
  all_goals (try (rw [w64 (by omega) (by omega)]; first | done | omega))
  all_goals clear hC
  all_goals first
    | omega
    | exact hp.1
    | exact hp.2 i
    | exact (hp.2 i).1
    | exact (hp.2 i).2.1
    | exact (hp.2 i).2.2
    | (rw [tabs_many (by assumption)]; done)
    | (rw [tabs_bad hi.2.1 hi.2.2 (by omega) (by rw [tabE_err (by assumption)]; assumption), tabE_err (by assumption)]; done)
    | (rw [tabs_bad hi.2.1 hi.2.2 (by omega) (by rw [tabE_dup (by assumption) (by assumption)]; decide), tabE_dup (by assumption) (by assumption)]; done)
    | (rw [tabs_end hi.2.1 hi.2.2 (by omega)]; done)
    | exact all_step hi.2.2 (tabE_ok (by assumption) (by assumption))
end
noncomputable def cfg39 : Cfg := ⟨Try.prog, 8, tab55, (fun _ _ => []), [], (fun _ => none)⟩
theorem cfg39_pins : cfg39.pins = [] := rfl
theorem cfg39_P : cfg39.P = Try.prog := rfl
theorem cfg39_N : cfg39.N = 8 := rfl
section
attribute [local go_sem] cfg39_P cfg39_N cfg39_pins sz49 ag49 zr49 zd49 by49 sl49 st49 bo49 pt49 of49_0 fa49_0 of49_1 fa49_1 of49_2 fa49_2 of49_3 fa49_3 of49_4 fa49_4 pl49 ek49 sz51 ag51 zr51 zd51 by51 sl51 st51 bo51 pt51 of51_0 fa51_0 of51_1 fa51_1 of51_2 fa51_2 of51_3 fa51_3 pl51 ek51
attribute [local go_sem] dL_Table dM_Table encEntry decEntry etaEntry zfEntry getDz_Entry dL_Entry dM_Entry
theorem con39 (hC : COk cfg39) (x : Entry) (n : Int) : Sem Try.prog 39 [.d (encEntry x), .d (.cp [.i .i64 n])] (.d (.b (decide (x.number ≤ n)))) := by
  refine sem_of_awR (C := cfg39) (rs := [.tmp 3]) (fun _ => []) Try.func39 rfl rfl rfl rfl rfl rfl ?_
  simp only [enterSl, enterHp, inO, inO2, inO1, inOs, List.append_nil, List.nil_append, Nat.mul_zero, List.cons_append, Nat.zero_add, Nat.reduceAdd, Nat.reduceMul, encDType, encVal, List.length_map, encField, encFmt, encKField, encFile, encRec, encTable, encChange, encEntry]
  repeat' first
    | (with_reducible first | refine thenS_n ?_ | refine inBlockS_n ?_ | refine AW.seq ?_ | refine AW.block ?_)
    | (with_reducible first | (refine AW.runK hC ?_; intro K hK) | (refine AW.drawK hC (by kernel_rfl) ?_; intro K hK))
    | ((with_reducible first | refine erun_g ?_ | refine edraw_g ?_ | refine exitS_g ?_); refine siQ ?_; (try simp (disch := omega) only [w64, wu8]))
    | (with_reducible refine hCheck_g (by kernel_rfl) ?_)
    | ((first | (refine AW.cond rfl (fun h => ?_) (fun h => ?_)) | (refine AW.cond_ub rfl (fun h => ?_) ?_) | (refine AW.cond_nb rfl ?_ (fun h => ?_))) <;> (try replace h := boolH h) <;> (try (exfalso; first | omega | exact absurd h (by decide))))
    | (with_reducible first | refine AW.skip ?_ | refine AW.exit ?_ | refine AW.ret ?_ | refine thenS_r ?_ | refine thenS_e ?_ | refine inBlockS_r ?_ | refine inBlockS_e ?_ | refine inBlockS_e2 rfl ?_ | refine exitQ_r ?_ | refine exitQ_n ?_)
    | (refine sub_auto ?_; refine subQ ?_)
    | (with_reducible refine And.intro ?_ ?_)
    | (subst hK)
    | exact trivial
  all_goals (try (intros; assumption))
  all_goals (try simp only [Bool.or_eq_true, Bool.and_eq_true, Bool.or_eq_false_iff, Bool.and_eq_false_iff, Bool.not_eq_true', Bool.not_eq_false', Bool.not_eq_true, Bool.not_eq_false, decide_eq_true_eq, decide_eq_false_iff_not, beq_iff_eq, bne_iff_ne, beq_eq_false_iff_ne, bne_eq_false_iff_eq, ne_eq, Int.not_lt, Int.not_le, D.b.injEq, D.i.injEq, D.s.injEq, D.agg.injEq, D.sl.injEq, true_and, and_true, List.cons.injEq, gt_iff_lt, ge_iff_le,  Bool.cond_true_left, Bool.cond_false_right, Bool.cond_true_right, Bool.cond_false_left, seq_iff, seq_dec, dec_f, dec_t, eqB_t, eqB_f] at *)
  all_goals (try (intros; trivial))
  all_goals (try (intros; omega))
  all_goals (try (rw [w64 (by omega) (by omega)]; first | done | omega))
end
noncomputable def cfg41 : Cfg := ⟨Try.prog, 8, tab39, (fun _ _ => []), [], (fun _ => none)⟩
theorem cfg41_pins : cfg41.pins = [] := rfl
theorem cfg41_P : cfg41.P = Try.prog := rfl
theorem cfg41_N : cfg41.N = 8 := rfl
section
attribute [local go_sem] cfg41_P cfg41_N cfg41_pins sz49 ag49 zr49 zd49 by49 sl49 st49 bo49 pt49 of49_0 fa49_0 of49_1 fa49_1 of49_2 fa49_2 of49_3 fa49_3 of49_4 fa49_4 pl49 ek49 sz51 ag51 zr51 zd51 by51 sl51 st51 bo51 pt51 of51_0 fa51_0 of51_1 fa51_1 of51_2 fa51_2 of51_3 fa51_3 pl51 ek51
attribute [local go_sem] dL_Table dM_Table encEntry decEntry etaEntry zfEntry getDz_Entry dL_Entry dM_Entry
theorem con41 (hC : COk cfg41) (x : Entry) (n : Int) : Sem Try.prog 41 [.d (encEntry x), .d (.cp [.i .i64 n])] (.d (.b (decide (n ≤ x.number)))) := by
  refine sem_of_awR (C := cfg41) (rs := [.tmp 3]) (fun _ => []) Try.func41 rfl rfl rfl rfl rfl rfl ?_
  simp only [enterSl, enterHp, inO, inO2, inO1, inOs, List.append_nil, List.nil_append, Nat.mul_zero, List.cons_append, Nat.zero_add, Nat.reduceAdd, Nat.reduceMul, encDType, encVal, List.length_map, encField, encFmt, encKField, encFile, encRec, encTable, encChange, encEntry]
  repeat' first
    | (with_reducible first | refine thenS_n ?_ | refine inBlockS_n ?_ | refine AW.seq ?_ | refine AW.block ?_)
    | (with_reducible first | (refine AW.runK hC ?_; intro K hK) | (refine AW.drawK hC (by kernel_rfl) ?_; intro K hK))
    | ((with_reducible first | refine erun_g ?_ | refine edraw_g ?_ | refine exitS_g ?_); refine siQ ?_; (try simp (disch := omega) only [w64, wu8]))
    | (with_reducible refine hCheck_g (by kernel_rfl) ?_)
    | ((first | (refine AW.cond rfl (fun h => ?_) (fun h => ?_)) | (refine AW.cond_ub rfl (fun h => ?_) ?_) | (refine AW.cond_nb rfl ?_ (fun h => ?_))) <;> (try replace h := boolH h) <;> (try (exfalso; first | omega | exact absurd h (by decide))))
    | (with_reducible first | refine AW.skip ?_ | refine AW.exit ?_ | refine AW.ret ?_ | refine thenS_r ?_ | refine thenS_e ?_ | refine inBlockS_r ?_ | refine inBlockS_e ?_ | refine inBlockS_e2 rfl ?_ | refine exitQ_r ?_ | refine exitQ_n ?_)
    | (refine sub_auto ?_; refine subQ ?_)
    | (with_reducible refine And.intro ?_ ?_)
    | (subst hK)
    | exact trivial
  all_goals (try (intros; assumption))
  all_goals (try simp only [Bool.or_eq_true, Bool.and_eq_true, Bool.or_eq_false_iff, Bool.and_eq_false_iff, Bool.not_eq_true', Bool.not_eq_false', Bool.not_eq_true, Bool.not_eq_false, decide_eq_true_eq, decide_eq_false_iff_not, beq_iff_eq, bne_iff_ne, beq_eq_false_iff_ne, bne_eq_false_iff_eq, ne_eq, Int.not_lt, Int.not_le, D.b.injEq, D.i.injEq, D.s.injEq, D.agg.injEq, D.sl.injEq, true_and, and_true, List.cons.injEq, gt_iff_lt, ge_iff_le,  Bool.cond_true_left, Bool.cond_false_right, Bool.cond_true_right, Bool.cond_false_left, seq_iff, seq_dec, dec_f, dec_t, eqB_t, eqB_f] at *)
  all_goals (try (intros; trivial))
  all_goals (try (intros; omega))
  all_goals (try (rw [w64 (by omega) (by omega)]; first | done | omega))
end
noncomputable def cfg36 : Cfg := ⟨Try.prog, 23, tab41, (fun _ _ => []), [], (fun _ => none)⟩
theorem cfg36_ti25 : cfg36.ti 25 = none := rfl
theorem cfg36_ti55 : cfg36.ti 55 = none := rfl
theorem cfg36_pins : cfg36.pins = [] := rfl
theorem cfg36_P : cfg36.P = Try.prog := rfl
theorem cfg36_N : cfg36.N = 23 := rfl
theorem cfg36_T25 : cfg36.T 25 = e25 := rfl
theorem cfg36_mv25 : cfg36.mv 25 = (fun _ => []) := rfl
theorem cfg36_T55 : cfg36.T 55 = e55 := rfl
theorem cfg36_mv55 : cfg36.mv 55 = (fun _ => []) := rfl
section
attribute [local go_sem] cfg36_P cfg36_N cfg36_pins cfg36_ti25 cfg36_ti55 cfg36_T25 e25 cfg36_mv25 cfg36_T55 e55 cfg36_mv55 sz4 ag4 zr4 zo4 zd4 by4 sl4 st4 bo4 pt4 sz22 ag22 zr22 zo22 zd22 by22 el22 sl22 un22 st22 bo22 pt22 sz25 ag25 zr25 zo25 zd25 by25 sl25 st25 bo25 pt25 ck25 sz43 ag43 zr43 zo43 zd43 by43 el43 sl43 un43 st43 bo43 pt43 sz49 ag49 zr49 zd49 by49 sl49 st49 bo49 pt49 of49_0 fa49_0 of49_1 fa49_1 of49_2 fa49_2 of49_3 fa49_3 of49_4 fa49_4 pl49 ek49 sz51 ag51 zr51 zd51 by51 sl51 st51 bo51 pt51 of51_0 fa51_0 of51_1 fa51_1 of51_2 fa51_2 of51_3 fa51_3 pl51 ek51 sz78 ag78 zr78 zo78 zd78 by78 el78 sl78 un78 st78 bo78 pt78 sz80 ag80 zr80 zd80 by80 sl80 st80 bo80 pt80 of80_0 fa80_0 of80_1 fa80_1 pl80 sz81 ag81 zr81 zo81 zd81 by81 el81 sl81 un81 st81 bo81 pt81 sz83 ag83 zr83 zd83 by83 sl83 st83 bo83 pt83 of83_0 fa83_0 of83_1 fa83_1 of83_2 fa83_2 of83_3 fa83_3 pl83 sz84 ag84 zr84 zo84 zd84 by84 el84 sl84 un84 st84 bo84 pt84 sz86 ag86 zr86 zd86 by86 sl86 st86 bo86 pt86 of86_0 fa86_0 of86_1 fa86_1 pl86 sz99 ag99 zr99 zd99 by99 sl99 st99 bo99 pt99 of99_0 fa99_0 of99_1 fa99_1 pl99 ek99 sz103 ag103 zr103 zd103 by103 sl103 st103 bo103 pt103 of103_0 fa103_0 of103_1 fa103_1 of103_2 fa103_2 pl103 ek103 sz105 ag105 zr105 zd105 by105 sl105 st105 bo105 pt105 of105_0 fa105_0 of105_1 fa105_1 pl105 ek105 sz108 ag108 zr108 zd108 by108 sl108 st108 bo108 pt108 of108_0 fa108_0 of108_1 fa108_1 pl108 ek108
attribute [local go_sem] dL_Table dM_Table encEntry decEntry etaEntry zfEntry getDz_Entry dL_Entry dM_Entry
theorem con36 (hC : COk cfg36) (ts : List Table) (l : List Entry) (hp : okTs ts ∧ l.length ≤ 1000000) : Sem Try.prog 36 [.d (.sl 6 (ts.map encTable)), .d (.sl 8 (l.map encEntry))] (.tup [.d (.mp ((chkL ts l).map keyU) ((chkL ts l).map fun u => .cp (cellsU u))), .d (.i .i64 (chkE ts l))]) := by
  refine sem_of_awR (C := cfg36) (rs := [.tmp 4, .tmp 5]) (fun _ => []) Try.func36 rfl rfl rfl rfl rfl rfl ?_
  simp only [enterSl, enterHp, inO, inO2, inO1, inOs, List.append_nil, List.nil_append, Nat.mul_zero, List.cons_append, Nat.zero_add, Nat.reduceAdd, Nat.reduceMul, encDType, encVal, List.length_map, encField, encFmt, encKField, encFile, encRec, encTable, encChange, encEntry]
  repeat' first
    | (with_reducible first | refine thenS_n ?_ | refine inBlockS_n ?_ | refine AW.seq ?_ | refine AW.block ?_)
    | (with_reducible first | (refine AW.runK hC ?_; intro K hK) | (refine AW.drawK hC (by kernel_rfl) ?_; intro K hK))
    | ((with_reducible first | refine erun_g ?_ | refine edraw_g ?_ | refine exitS_g ?_); refine siQ ?_; (try simp (disch := omega) only [w64, wu8]))
    | (with_reducible refine hCheck_g (by kernel_rfl) ?_)
    | ((first | (refine AW.cond rfl (fun h => ?_) (fun h => ?_)) | (refine AW.cond_ub rfl (fun h => ?_) ?_) | (refine AW.cond_nb rfl ?_ (fun h => ?_))) <;> (try replace h := boolH h) <;> (try (exfalso; first | omega | exact absurd h (by decide))))
    | (with_reducible first | refine AW.skip ?_ | refine AW.exit ?_ | refine AW.ret ?_ | refine thenS_r ?_ | refine thenS_e ?_ | refine inBlockS_r ?_ | refine inBlockS_e ?_ | refine inBlockS_e2 rfl ?_ | refine exitQ_r ?_ | refine exitQ_n ?_)
    | (refine sub_auto ?_; refine subQ ?_)
    | (with_reducible refine And.intro ?_ ?_)
    | (subst hK)
    | exact trivial
  all_goals (try (intros; assumption))
  all_goals (try simp only [Bool.or_eq_true, Bool.and_eq_true, Bool.or_eq_false_iff, Bool.and_eq_false_iff, Bool.not_eq_true', Bool.not_eq_false', Bool.not_eq_true, Bool.not_eq_false, decide_eq_true_eq, decide_eq_false_iff_not, beq_iff_eq, bne_iff_ne, beq_eq_false_iff_ne, bne_eq_false_iff_eq, ne_eq, Int.not_lt, Int.not_le, D.b.injEq, D.i.injEq, D.s.injEq, D.agg.injEq, D.sl.injEq, true_and, and_true, List.cons.injEq, gt_iff_lt, ge_iff_le,  Bool.cond_true_left, Bool.cond_false_right, Bool.cond_true_right, Bool.cond_false_left, seq_iff, seq_dec, dec_f, dec_t, eqB_t, eqB_f] at *)
  all_goals (try (intros; trivial))
  all_goals (try (intros; omega))
  all_goals (try (rw [w64 (by omega) (by omega)]; first | done | omega))
  all_goals clear hC
  all_goals first
    | omega
    | exact hp.1
    | exact hp.2
    | (rw [(chk_bad (by assumption)).1]; exact dles_refl _)
    | (rw [(chk_bad (by assumption)).1]; rfl)
    | (rw [(chk_bad (by assumption)).2]; done)
    | (rw [(chk_good (by assumption)).1]; exact dles_refl _)
    | (rw [(chk_good (by assumption)).2]; done)
    | (rw [(chk_good (by assumption)).1]; done)
end
noncomputable def cfg62 : Cfg := ⟨Try.prog, 28, (fun _ _ => none), (fun _ _ => []), [0], (fun _ => none)⟩
theorem cfg62_pins : cfg62.pins = [0] := rfl
theorem cfg62_P : cfg62.P = Try.prog := rfl
theorem cfg62_N : cfg62.N = 28 := rfl
section
attribute [local go_sem] cfg62_P cfg62_N cfg62_pins sz49 ag49 zr49 zd49 by49 sl49 st49 bo49 pt49 of49_0 fa49_0 of49_1 fa49_1 of49_2 fa49_2 of49_3 fa49_3 of49_4 fa49_4 pl49 ek49 sz75 ag75 zr75 zo75 zd75 by75 el75 sl75 un75 st75 bo75 pt75
attribute [local go_sem] getDz_Change
theorem con62 (hC : COk cfg62)  (l : List Change) (hp : l.length ≤ 1000000) : SemJ Try.prog 62 49 5 (l.map encChange) (l.reverse.map encChange) := by
  refine semJ_of_aw (C := cfg62) Try.func62 rfl rfl (by decide) rfl rfl (flatCh l) (flatCh _) (by simp) ?_
  simp only [enterS, enterSl, enterHp, inO, inO2, inO1, inOs, List.append_nil, List.nil_append, Nat.mul_zero, List.cons_append, Nat.zero_add, Nat.reduceAdd, Nat.reduceMul, encDType, decDType, etaDType, zfDType, encVal, decVal, etaVal, zfVal, Int.toNat_natCast, chr_eq, dL_int, dM_int, getDz_int, decL_sl, decM_cons, decM_nil, decI, List.length_map, nc0, bytesD_len, bytesD_get, encField, decField, etaField, zfField, encFmt, decFmt, etaFmt, zfFmt, encKField, decKField, etaKField, zfKField, encFile, decFile, etaFile, zfFile, encRec, decRec, etaRec, zfRec, getDz_Field, getDz_KField, getDz_Rec, dL_Field, dL_KField, dL_Rec, dM_Field, dM_KField, dM_Rec, ceqField, ceqKField, ceqRec, ← List.map_take, ← List.map_drop, List.length_take, decL_nil, Int.toNat_zero, Nat.sub_zero, List.drop_zero, encTable, decTable, etaTable, zfTable, encChange, decChange, etaChange, zfChange, dL_Change, dM_Change, List.length_set, Nat.le_refl, getDz_Change]
  repeat' first
    | (with_reducible first | refine thenS_n ?_ | refine inBlockS_n ?_ | refine AW.seq ?_ | refine AW.block ?_)
    | (refine AW.atR 3 rfl ?_; have hj : ((l.length : Int) - 1 - (i : Int)).toNat = l.length - 1 - i := (by omega); have hl := revTo_len l zChange i; have hs := revTo_at (l := l) (i := i) (by omega) (by omega))
    | (with_reducible first | (refine AWh.runK hC ?_; intro K hK) | (refine AWh.drawK hC (by kernel_rfl) ?_; intro K hK))
    | (with_reducible first | (refine AW.runK hC ?_; intro K hK) | (refine AW.drawK hC (by kernel_rfl) ?_; intro K hK))
    | ((with_reducible first | refine erun_g ?_ | refine edraw_g ?_ | refine exitS_g ?_); (first | (simp (maxSteps := 1000000) only [go_sem, ↓reduceIte, reduceCtorEq, Nat.reduceEqDiff, Nat.reduceLT, Nat.reduceLeDiff, Nat.reduceMul, Nat.reduceAdd, Nat.reduceSub, reduceDIte, Nat.reduceBEq, Nat.reduceBNe, hj, hl, hs]) | (refine siQ ?_)); (try simp (disch := omega) only [w64, wu8]))
    | (with_reducible refine hCheck_g (by kernel_rfl) ?_)
    | ((first | (refine AW.cond rfl (fun h => ?_) (fun h => ?_)) | (refine AW.cond_ub rfl (fun h => ?_) ?_) | (refine AW.cond_nb rfl ?_ (fun h => ?_))) <;> (try replace h := boolH h) <;> (try (exfalso; first | omega | exact absurd h (by decide))))
    | (with_reducible first | refine AW.skip ?_ | refine AW.exit ?_ | refine AW.ret ?_ | refine thenS_r ?_ | refine thenS_e ?_ | refine inBlockS_r ?_ | refine inBlockS_e ?_ | refine inBlockS_e2 rfl ?_ | refine exitQ_r ?_ | refine exitQ_n ?_)
    | (refine AW.loopN 1 rfl (ι := Nat) (fun i => mkS [(0, V.row 0 5 0 l.length), (2, V.d (.i .i64 (i : Int))), (3, V.d (.i .i64 ((l.length : Int) - 1 - (i : Int))))] ([(0, .live (.row 49 5 false ((revTo l zChange i).map encChange)))])) (fun i => 2 * i ≤ l.length) (fun i => l.length - 2 * i) (0) ?_ ?_ (fun i hi => ?_) <;> (try dsimp only) <;> (try dsimp only at hi))
    | (refine LoopNext.mk1 1 (i + 1) ?_ ?_ ?_ <;> (try dsimp only))
    | (refine sub_auto ?_; refine subQ ?_)
    | (with_reducible refine And.intro ?_ ?_)
    | (subst hK)
    | exact trivial
  all_goals (try (intros; assumption))
  all_goals (try simp only [Bool.or_eq_true, Bool.and_eq_true, Bool.or_eq_false_iff, Bool.and_eq_false_iff, Bool.not_eq_true', Bool.not_eq_false', Bool.not_eq_true, Bool.not_eq_false, decide_eq_true_eq, decide_eq_false_iff_not, beq_iff_eq, bne_iff_ne, beq_eq_false_iff_ne, bne_eq_false_iff_eq, ne_eq, Int.not_lt, Int.not_le, D.b.injEq, D.i.injEq, D.s.injEq, D.agg.injEq, D.sl.injEq, true_and, and_true, List.cons.injEq, gt_iff_lt, ge_iff_le,  Bool.cond_true_left, Bool.cond_false_right, Bool.cond_true_right, Bool.cond_false_left, seq_iff, seq_dec, dec_f, dec_t, eqB_t, eqB_f] at *)
  all_goals (try (intros; trivial))
  all_goals (try (intros; omega))
  all_goals (try (rw [w64 (by omega) (by omega)]; first | done | omega))
  all_goals (try have hl := revTo_len l zChange i)
  all_goals first
    | omega
    | exact .inl trivial
    | exact .inl rfl
    | exact .inr rfl
    | exact dles_refl _
    | exact dles_of_eq revTo_step
    | exact ⟨false, by rw [← revTo_end l zChange hi (by omega)]; rfl⟩
end
theorem rev62 (l : List Change) (h : l.length ≤ 1000000) : SemJ Try.prog 62 49 5 (l.map encChange) (l.reverse.map encChange) := con62 (cok_of (TabOk.nil _) follows) l h
noncomputable def cfg38 : Cfg := ⟨Try.prog, 43, tab36, (fun _ _ => []), [], (fun _ => none)⟩
theorem cfg38_ti61 : cfg38.ti 61 = none := rfl
theorem cfg38_ti62 : cfg38.ti 62 = none := rfl
theorem cfg38_ti39 : cfg38.ti 39 = none := rfl
theorem cfg38_ti41 : cfg38.ti 41 = none := rfl
theorem cfg38_pins : cfg38.pins = [] := rfl
theorem cfg38_P : cfg38.P = Try.prog := rfl
theorem cfg38_N : cfg38.N = 43 := rfl
theorem cfg38_T61 : cfg38.T 61 = e61 := rfl
theorem cfg38_mv61 : cfg38.mv 61 = (fun _ => []) := rfl
theorem cfg38_T39 : cfg38.T 39 = e39 := rfl
theorem cfg38_mv39 : cfg38.mv 39 = (fun _ => []) := rfl
theorem cfg38_T41 : cfg38.T 41 = e41 := rfl
theorem cfg38_mv41 : cfg38.mv 41 = (fun _ => []) := rfl
section
attribute [local go_sem] cfg38_P cfg38_N cfg38_pins cfg38_ti61 cfg38_ti62 cfg38_ti39 cfg38_ti41 cfg38_T61 e61 cfg38_mv61 cfg38_T39 e39 cfg38_mv39 cfg38_T41 e41 cfg38_mv41 sz4 ag4 zr4 zo4 zd4 by4 sl4 st4 bo4 pt4 sz22 ag22 zr22 zo22 zd22 by22 el22 sl22 un22 st22 bo22 pt22 sz49 ag49 zr49 zd49 by49 sl49 st49 bo49 pt49 of49_0 fa49_0 of49_1 fa49_1 of49_2 fa49_2 of49_3 fa49_3 of49_4 fa49_4 pl49 ek49 sz51 ag51 zr51 zd51 by51 sl51 st51 bo51 pt51 of51_0 fa51_0 of51_1 fa51_1 of51_2 fa51_2 of51_3 fa51_3 pl51 ek51 sz75 ag75 zr75 zo75 zd75 by75 el75 sl75 un75 st75 bo75 pt75
attribute [local go_sem] dL_Table dM_Table encEntry decEntry etaEntry zfEntry getDz_Entry dL_Entry dM_Entry encWant List.length_reverse
theorem con38 (hC : COk cfg38) (l : List Entry) (back : Bool) (w : Want) (hp : l.length ≤ 1000000) : Sem Try.prog 38 [.d (.sl 8 (l.map encEntry)), .d (.b back), .d (encWant w)] (.d (.sl 5 ((changesOf w back l).map encChange))) := by
  refine sem_of_awR (C := cfg38) (rs := [.tmp 6]) (fun _ => []) Try.func38 rfl rfl rfl rfl rfl rfl ?_
  simp only [enterSl, enterHp, inO, inO2, inO1, inOs, List.append_nil, List.nil_append, Nat.mul_zero, List.cons_append, Nat.zero_add, Nat.reduceAdd, Nat.reduceMul, encDType, encVal, List.length_map, encField, encFmt, encKField, encFile, encRec, encTable, encChange, encEntry, encWant]
  repeat' first
    | (refine AW.turnJ (id := 112) (rev62 (chgsOf w back (l.take i)) (by have := chgs_len (w := w) (back := back) (l := l) (i := i); omega)) ⟨_, Try.func62, rfl, rfl⟩ (flatCh _) (by simp) (flatCh _) rfl rfl rfl rfl rfl rfl (by show _ < 43; decide) (by rw [List.length_map]; rfl) rfl rfl rfl ?_)
    | (with_reducible first | refine thenS_n ?_ | refine inBlockS_n ?_ | refine AW.seq ?_ | refine AW.block ?_)
    | (refine AW.atR 5 rfl ?_; obtain ⟨up, n⟩ := w; cases up)
    | (with_reducible first | (refine AWh.runK hC ?_; intro K hK) | (refine AWh.drawK hC (by kernel_rfl) ?_; intro K hK))
    | (with_reducible first | (refine AW.runK hC ?_; intro K hK) | (refine AW.drawK hC (by kernel_rfl) ?_; intro K hK))
    | ((with_reducible first | refine erun_g ?_ | refine edraw_g ?_ | refine exitS_g ?_); refine siQ ?_; (try simp (disch := omega) only [w64, wu8]))
    | (with_reducible refine hCheck_g (by kernel_rfl) ?_)
    | ((first | (refine AW.cond rfl (fun h => ?_) (fun h => ?_)) | (refine AW.cond_ub rfl (fun h => ?_) ?_) | (refine AW.cond_nb rfl ?_ (fun h => ?_))) <;> (try replace h := boolH h) <;> (try (exfalso; first | omega | exact absurd h (by decide))))
    | (with_reducible first | refine AW.skip ?_ | refine AW.exit ?_ | refine AW.ret ?_ | refine thenS_r ?_ | refine thenS_e ?_ | refine inBlockS_r ?_ | refine inBlockS_e ?_ | refine inBlockS_e2 rfl ?_ | refine exitQ_r ?_ | refine exitQ_n ?_)
    | (refine AW.loopN 3 rfl (ι := Nat) (fun i => mkS [(1, V.d (.b back)), (2, V.d (encWant w)), (7, V.row 112 5 0 (chgsOf w back (l.take i)).length), (11, V.d (.sl 8 (l.map encEntry))), (12, V.d (.i .i64 (l.length : Int))), (13, V.d (.i .i64 (i : Int)))] ([(112, .live (.row 49 5 false ((chgsOf w back (l.take i)).map encChange)))])) (fun i => i ≤ l.length) (fun i => l.length - i) (0) ?_ ?_ (fun i hi => ?_) <;> (try dsimp only) <;> (try dsimp only at hi))
    | (refine LoopNext.mk1 3 (i + 1) ?_ ?_ ?_ <;> (try dsimp only))
    | (refine sub_auto ?_; refine subQ ?_)
    | (with_reducible refine And.intro ?_ ?_)
    | (subst hK)
    | exact trivial
  all_goals (try (intros; assumption))
  all_goals (try simp only [Bool.or_eq_true, Bool.and_eq_true, Bool.or_eq_false_iff, Bool.and_eq_false_iff, Bool.not_eq_true', Bool.not_eq_false', Bool.not_eq_true, Bool.not_eq_false, decide_eq_true_eq, decide_eq_false_iff_not, beq_iff_eq, bne_iff_ne, beq_eq_false_iff_ne, bne_eq_false_iff_eq, ne_eq, Int.not_lt, Int.not_le, D.b.injEq, D.i.injEq, D.s.injEq, D.agg.injEq, D.sl.injEq, true_and, and_true, List.cons.injEq, gt_iff_lt, ge_iff_le,  Bool.cond_true_left, Bool.cond_false_right, Bool.cond_true_right, Bool.cond_false_left, seq_iff, seq_dec, dec_f, dec_t, eqB_t, eqB_f] at *)
  all_goals (try (intros; trivial))
  all_goals (try (intros; omega))
  all_goals (try (rw [w64 (by omega) (by omega)]; first | done | omega))
  all_goals clear hC
  all_goals first
    | omega
    | (intro d hd; subst hd; exact ⟨rfl, by simp [D.cells, D.one]⟩)
    | (have := chgs_len (w := ⟨true, n⟩) (back := back) (l := l) (i := i); omega)
    | (have := chgs_len (w := ⟨false, n⟩) (back := back) (l := l) (i := i); omega)
    | exact dles_refl _
    | (rw [chgs_no (by omega) (by rw [takenE_f]; omega)]; done)
    | (rw [chgs_no (by omega) (by rw [takenE_f]; omega)]; exact dles_refl _)
    | (subst h; rw [chgs_yes (by omega) (by rw [takenE_f]; omega), List.length_append]; rfl)
    | (subst h; rw [chgs_yes (by omega) (by rw [takenE_f]; omega), List.map_append]; exact dles_refl _)
    | (rw [chgs_no (by omega) (by rw [takenE_t]; omega)]; done)
    | (rw [chgs_no (by omega) (by rw [takenE_t]; omega)]; exact dles_refl _)
    | (subst h; rw [chgs_yes (by omega) (by rw [takenE_t]; omega), List.length_append]; rfl)
    | (subst h; rw [chgs_yes (by omega) (by rw [takenE_t]; omega), List.map_append]; exact dles_refl _)
    | (subst h; rw [changes_t (by omega)]; exact dles_refl _)
    | (subst h; rw [changes_f (by omega)]; exact dles_refl _)
    | (subst h; rw [changes_t2 (by omega)]; exact dles_refl _)
end
noncomputable def cfg37 : Cfg := ⟨Try.prog, 78, tab38, (fun _ _ => []), [], (fun _ => none)⟩
theorem cfg37_ti56 : cfg37.ti 56 = none := rfl
theorem cfg37_ti57 : cfg37.ti 57 = none := rfl
theorem cfg37_ti58 : cfg37.ti 58 = none := rfl
theorem cfg37_ti59 : cfg37.ti 59 = none := rfl
theorem cfg37_ti60 : cfg37.ti 60 = none := rfl
theorem cfg37_pins : cfg37.pins = [] := rfl
theorem cfg37_P : cfg37.P = Try.prog := rfl
theorem cfg37_N : cfg37.N = 78 := rfl
theorem cfg37_T56 : cfg37.T 56 = e56 := rfl
theorem cfg37_mv56 : cfg37.mv 56 = (fun _ => []) := rfl
theorem cfg37_T57 : cfg37.T 57 = e57 := rfl
theorem cfg37_mv57 : cfg37.mv 57 = (fun _ => []) := rfl
theorem cfg37_T58 : cfg37.T 58 = e58 := rfl
theorem cfg37_mv58 : cfg37.mv 58 = (fun _ => []) := rfl
theorem cfg37_T59 : cfg37.T 59 = e59 := rfl
theorem cfg37_mv59 : cfg37.mv 59 = (fun _ => []) := rfl
theorem cfg37_T60 : cfg37.T 60 = e60 := rfl
theorem cfg37_mv60 : cfg37.mv 60 = (fun _ => []) := rfl
section
attribute [local go_sem] cfg37_P cfg37_N cfg37_pins cfg37_ti56 cfg37_ti57 cfg37_ti58 cfg37_ti59 cfg37_ti60 cfg37_T56 e56 cfg37_mv56 cfg37_T57 e57 cfg37_mv57 cfg37_T58 e58 cfg37_mv58 cfg37_T59 e59 cfg37_mv59 cfg37_T60 e60 cfg37_mv60 sz4 ag4 zr4 zo4 zd4 by4 sl4 st4 bo4 pt4 sz25 ag25 zr25 zo25 zd25 by25 sl25 st25 bo25 pt25 ck25 sz43 ag43 zr43 zo43 zd43 by43 el43 sl43 un43 st43 bo43 pt43 sz49 ag49 zr49 zd49 by49 sl49 st49 bo49 pt49 of49_0 fa49_0 of49_1 fa49_1 of49_2 fa49_2 of49_3 fa49_3 of49_4 fa49_4 pl49 ek49 sz75 ag75 zr75 zo75 zd75 by75 el75 sl75 un75 st75 bo75 pt75 sz78 ag78 zr78 zo78 zd78 by78 el78 sl78 un78 st78 bo78 pt78 sz80 ag80 zr80 zd80 by80 sl80 st80 bo80 pt80 of80_0 fa80_0 of80_1 fa80_1 pl80 sz81 ag81 zr81 zo81 zd81 by81 el81 sl81 un81 st81 bo81 pt81 sz83 ag83 zr83 zd83 by83 sl83 st83 bo83 pt83 of83_0 fa83_0 of83_1 fa83_1 of83_2 fa83_2 of83_3 fa83_3 pl83 sz84 ag84 zr84 zo84 zd84 by84 el84 sl84 un84 st84 bo84 pt84 sz86 ag86 zr86 zd86 by86 sl86 st86 bo86 pt86 of86_0 fa86_0 of86_1 fa86_1 pl86 sz99 ag99 zr99 zd99 by99 sl99 st99 bo99 pt99 of99_0 fa99_0 of99_1 fa99_1 pl99 ek99 sz103 ag103 zr103 zd103 by103 sl103 st103 bo103 pt103 of103_0 fa103_0 of103_1 fa103_1 of103_2 fa103_2 pl103 ek103 sz105 ag105 zr105 zd105 by105 sl105 st105 bo105 pt105 of105_0 fa105_0 of105_1 fa105_1 pl105 ek105 sz108 ag108 zr108 zd108 by108 sl108 st108 bo108 pt108 of108_0 fa108_0 of108_1 fa108_1 pl108 ek108
attribute [local go_sem] dL_Table dM_Table getDz_Change List.take_length
theorem con37 (hC : COk cfg37) (ts : List Table) (cs : List Change) (hp : okTs ts ∧ cs.length ≤ 1000000) : Sem Try.prog 37 [.d (.sl 6 (ts.map encTable)), .d (.sl 5 (cs.map encChange))] (.tup [.d (.sl 6 ((madeT ts cs).1.map encTable)), .d (.i .i64 (madeT ts cs).2.1), .d (.i .i64 (madeT ts cs).2.2)]) := by
  have hB : ts.length ≤ 1000000 := hp.1.1
  refine sem_of_awR (C := cfg37) (rs := [.tmp 4, .tmp 5, .tmp 6]) (fun _ => []) Try.func37 rfl rfl rfl rfl rfl rfl ?_
  simp only [enterSl, enterHp, inO, inO2, inO1, inOs, List.append_nil, List.nil_append, Nat.mul_zero, List.cons_append, Nat.zero_add, Nat.reduceAdd, Nat.reduceMul, encDType, encVal, List.length_map, encField, encFmt, encKField, encFile, encRec, encTable, encChange]
  repeat' first
    | (with_reducible first | refine thenS_n ?_ | refine inBlockS_n ?_ | refine AW.seq ?_ | refine AW.block ?_)
    | (refine AW.atR 4 rfl ?_; have hg : ∀ z, (ts.map encTable).getD i z = encTable (ts.getD i zTable) := fun z => getD_mapT (by omega) z)
    | (refine AW.atR 8 rfl ?_; refine AWh.mk ?_; refine AW.frzBox 144 [.s (ts.getD i zTable).file.name, .s (ts.getD i zTable).file.format.name, .sl 4 ((ts.getD i zTable).file.format.fields.map encField), .sl 2 ((ts.getD i zTable).file.keys.map encKField), .b (ts.getD i zTable).file.unique, .sl 2 ((ts.getD i zTable).records.map encRec)] [416, 528, 608] rfl (by simp (maxSteps := 1000000) only [toDs, toD1, go_sem, ↓reduceIte, reduceCtorEq, Nat.reduceEqDiff, Nat.reduceLT, Nat.reduceLeDiff, Nat.reduceMul, Nat.reduceAdd, Nat.reduceSub, reduceDIte, Nat.reduceBEq, Nat.reduceBNe, encDType, decDType, etaDType, zfDType, encVal, decVal, etaVal, zfVal, Int.toNat_natCast, chr_eq, dL_int, dM_int, getDz_int, decL_sl, decM_cons, decM_nil, decI, List.length_map, nc0, bytesD_len, bytesD_get, encField, decField, etaField, zfField, encFmt, decFmt, etaFmt, zfFmt, encKField, decKField, etaKField, zfKField, encFile, decFile, etaFile, zfFile, encRec, decRec, etaRec, zfRec, getDz_Field, getDz_KField, getDz_Rec, dL_Field, dL_KField, dL_Rec, dM_Field, dM_KField, dM_Rec, ceqField, ceqKField, ceqRec, ← List.map_take, ← List.map_drop, List.length_take, decL_nil, Int.toNat_zero, Nat.sub_zero, List.drop_zero, encTable, decTable, etaTable, zfTable, encChange, decChange, etaChange, zfChange, dL_Change, dM_Change, List.length_set, Nat.le_refl, dL_Table, dM_Table, encEntry, decEntry, etaEntry, zfEntry, getDz_Entry, dL_Entry, dM_Entry]) rfl rfl ?_; simp only [frzL, HS.frz, List.map_cons, List.map_nil, List.contains_cons, List.contains_nil, List.elem_cons, List.elem_nil, Nat.reduceEqDiff, Nat.reduceBEq, Bool.or_false, Bool.false_or, Bool.or_true, Bool.true_or, ↓reduceIte, Bool.false_eq_true]; refine AW.atR 8 rfl ?_)
    | (refine AW.atR 16 rfl ?_; have hb := findT_lt (mTo ts cs k).1 (cs.getD k zChange).file; have hg : ∀ z, ((mTo ts cs k).1.map encTable).getD (findT (mTo ts cs k).1 (cs.getD k zChange).file).toNat z = encTable ((mTo ts cs k).1.getD (findT (mTo ts cs k).1 (cs.getD k zChange).file).toNat zTable) := fun z => getD_mapT (by omega) z)
    | (with_reducible first | (refine AWh.runK hC ?_; intro K hK) | (refine AWh.drawK hC (by kernel_rfl) ?_; intro K hK))
    | (with_reducible first | (refine AW.runK hC ?_; intro K hK) | (refine AW.drawK hC (by kernel_rfl) ?_; intro K hK))
    | ((with_reducible first | refine erun_g ?_ | refine edraw_g ?_ | refine exitS_g ?_); (first | (simp (maxSteps := 1000000) only [go_sem, ↓reduceIte, reduceCtorEq, Nat.reduceEqDiff, Nat.reduceLT, Nat.reduceLeDiff, Nat.reduceMul, Nat.reduceAdd, Nat.reduceSub, reduceDIte, Nat.reduceBEq, Nat.reduceBNe, hg]) | (refine siQ ?_)); (try simp (disch := omega) only [w64, wu8]))
    | (with_reducible refine hCheck_g (by kernel_rfl) ?_)
    | ((first | (refine AW.cond rfl (fun h => ?_) (fun h => ?_)) | (refine AW.cond_ub rfl (fun h => ?_) ?_) | (refine AW.cond_nb rfl ?_ (fun h => ?_))) <;> (try replace h := boolH h) <;> (try (exfalso; first | omega | exact absurd h (by decide))))
    | (with_reducible first | refine AW.skip ?_ | refine AW.exit ?_ | refine AW.ret ?_ | refine thenS_r ?_ | refine thenS_e ?_ | refine inBlockS_r ?_ | refine inBlockS_e ?_ | refine inBlockS_e2 rfl ?_ | refine exitQ_r ?_ | refine exitQ_n ?_)
    | (refine AW.loopN 3 rfl (ι := Nat) (fun i => mkS [(1, V.d (.sl 5 (cs.map encChange))), (7, V.row 112 6 0 (ts.take i).length), (16, V.d (.sl 6 (ts.map encTable))), (17, V.d (.i .i64 (ts.length : Int))), (18, V.d (.i .i64 (i : Int)))] ([(112, .live (.row 86 6 false ((ts.take i).map encTable)))])) (fun i => i ≤ ts.length) (fun i => ts.length - i) (0) ?_ ?_ (fun i hi => ?_) <;> (try dsimp only) <;> (try dsimp only at hi))
    | (refine LoopNext.mk1 3 (i + 1) ?_ ?_ ?_ <;> (try dsimp only))
    | (refine AW.loopN 12 rfl (ι := Nat) (fun k => mkS [(7, V.row 112 6 0 (mTo ts cs k).1.length), (10, V.d (.i .i64 (mTo ts cs k).2)), (45, V.d (.sl 5 (cs.map encChange))), (46, V.d (.i .i64 (cs.length : Int))), (47, V.d (.i .i64 (k : Int)))] ([(112, .live (.row 86 6 false ((mTo ts cs k).1.map encTable)))])) (fun k => k ≤ cs.length ∧ ∀ j, j < k → mErr ts cs j = 0) (fun k => cs.length - k) (0) ?_ ?_ (fun k hk => ?_) <;> (try dsimp only) <;> (try dsimp only at hk))
    | (refine LoopNext.mk1 12 (k + 1) ?_ ?_ ?_ <;> (try dsimp only))
    | (refine sub_auto ?_; refine subQ ?_)
    | (with_reducible refine And.intro ?_ ?_)
    | (subst hK)
    | exact trivial
  all_goals (try (intros; assumption))
  all_goals (try simp only [Bool.or_eq_true, Bool.and_eq_true, Bool.or_eq_false_iff, Bool.and_eq_false_iff, Bool.not_eq_true', Bool.not_eq_false', Bool.not_eq_true, Bool.not_eq_false, decide_eq_true_eq, decide_eq_false_iff_not, beq_iff_eq, bne_iff_ne, beq_eq_false_iff_ne, bne_eq_false_iff_eq, ne_eq, Int.not_lt, Int.not_le, D.b.injEq, D.i.injEq, D.s.injEq, D.agg.injEq, D.sl.injEq, true_and, and_true, List.cons.injEq, gt_iff_lt, ge_iff_le,  Bool.cond_true_left, Bool.cond_false_right, Bool.cond_true_right, Bool.cond_false_left, seq_iff, seq_dec, dec_f, dec_t, eqB_t, eqB_f] at *)
  all_goals (try (intros; trivial))
  all_goals (try (intros; omega))
  all_goals (try (rw [w64 (by omega) (by omega)]; first | done | omega))
  all_goals clear hC
  all_goals (try have OK := mTo_ok (cs := cs) hp.1 hk.2)
  all_goals (try have CN := mTo_cnt ts cs k)
  all_goals (try have LN := mTo_len ts cs k)
  all_goals (try simp only [changed_snd] at *)
  all_goals first
    | omega
    | exact (hp.1.2 i).1
    | exact (hp.1.2 i).2.1
    | exact (hp.1.2 i).2.2
    | exact hp.1.1
    | exact OK.1
    | exact (OK.2 _).1
    | exact (OK.2 _).2.1
    | exact (OK.2 _).2.2
    | (rw [List.take_of_length_le (by omega)]; exact dles_refl _)
    | (rw [List.take_take, List.take_of_length_le (by omega)]; exact dles_refl _)
    | (rw [take_getD zTable (by omega), List.map_append]; exact dles_refl _)
    | (intro d hd; subst hd; exact ⟨rfl, by simp [D.cells, D.one]⟩)
    | (rw [made_bad hk.2 (by omega) (by rw [mErr_at (by omega)]; assumption)]; done)
    | (rw [made_bad hk.2 (by omega) (by rw [mErr_at (by omega)]; assumption)]; rfl)
    | (rw [made_bad hk.2 (by omega) (by rw [mErr_at (by omega)]; assumption), mErr_at (by omega)]; done)
    | exact all_step hk.2 (mErr_skip (by omega))
    | exact all_step hk.2 (by rw [mErr_at (by omega)]; assumption)
    | (have L0 := mTo_len ts cs 0; have L1 := mTo_len ts cs (k + 1); omega)
    | (have L0 := mTo_len ts cs 0; omega)
    | (rw [mTo_skip (by omega)]; done)
    | (rw [mTo_skip (by omega)]; exact dles_refl _)
    | (rw [mTo_at (by omega)]; done)
    | (rw [mTo_at (by omega), w64 (by omega) (by omega)]; done)
    | (rw [mTo_at (by omega), w64 (by omega) (by omega)]; rfl)
    | (rw [mTo_at (by omega), List.map_set]; exact dles_refl _)
    | (rw [changed_ok (by assumption), mTo_at (by omega), List.map_set]; exact dles_refl _)
    | (rw [made_end hk.2 (by omega)]; done)
    | (rw [made_end hk.2 (by omega)]; exact dles_refl _)
end
noncomputable def cfg19 : Cfg := ⟨Try.prog, 53, tab37, (fun _ _ => []), [], (fun _ => none)⟩
theorem cfg19_ti36 : cfg19.ti 36 = none := rfl
theorem cfg19_ti37 : cfg19.ti 37 = none := rfl
theorem cfg19_ti38 : cfg19.ti 38 = none := rfl
theorem cfg19_ti39 : cfg19.ti 39 = none := rfl
theorem cfg19_pins : cfg19.pins = [] := rfl
theorem cfg19_P : cfg19.P = Try.prog := rfl
theorem cfg19_N : cfg19.N = 53 := rfl
theorem cfg19_T36 : cfg19.T 36 = e36 := rfl
theorem cfg19_mv36 : cfg19.mv 36 = (fun _ => []) := rfl
theorem cfg19_T37 : cfg19.T 37 = e37 := rfl
theorem cfg19_mv37 : cfg19.mv 37 = (fun _ => []) := rfl
theorem cfg19_T38 : cfg19.T 38 = e38 := rfl
theorem cfg19_mv38 : cfg19.mv 38 = (fun _ => []) := rfl
theorem cfg19_T39 : cfg19.T 39 = e39 := rfl
theorem cfg19_mv39 : cfg19.mv 39 = (fun _ => []) := rfl
section
attribute [local go_sem] cfg19_P cfg19_N cfg19_pins cfg19_ti36 cfg19_ti37 cfg19_ti38 cfg19_ti39 cfg19_T36 e36 cfg19_mv36 cfg19_T37 e37 cfg19_mv37 cfg19_T38 e38 cfg19_mv38 cfg19_T39 e39 cfg19_mv39 sz4 ag4 zr4 zo4 zd4 by4 sl4 st4 bo4 pt4 sz22 ag22 zr22 zo22 zd22 by22 el22 sl22 un22 st22 bo22 pt22 sz25 ag25 zr25 zo25 zd25 by25 sl25 st25 bo25 pt25 ck25 sz43 ag43 zr43 zo43 zd43 by43 el43 sl43 un43 st43 bo43 pt43 sz49 ag49 zr49 zd49 by49 sl49 st49 bo49 pt49 of49_0 fa49_0 of49_1 fa49_1 of49_2 fa49_2 of49_3 fa49_3 of49_4 fa49_4 pl49 ek49 sz51 ag51 zr51 zd51 by51 sl51 st51 bo51 pt51 of51_0 fa51_0 of51_1 fa51_1 of51_2 fa51_2 of51_3 fa51_3 pl51 ek51 sz75 ag75 zr75 zo75 zd75 by75 el75 sl75 un75 st75 bo75 pt75 sz78 ag78 zr78 zo78 zd78 by78 el78 sl78 un78 st78 bo78 pt78 sz80 ag80 zr80 zd80 by80 sl80 st80 bo80 pt80 of80_0 fa80_0 of80_1 fa80_1 pl80 sz81 ag81 zr81 zo81 zd81 by81 el81 sl81 un81 st81 bo81 pt81 sz83 ag83 zr83 zd83 by83 sl83 st83 bo83 pt83 of83_0 fa83_0 of83_1 fa83_1 of83_2 fa83_2 of83_3 fa83_3 pl83 sz84 ag84 zr84 zo84 zd84 by84 el84 sl84 un84 st84 bo84 pt84 sz86 ag86 zr86 zd86 by86 sl86 st86 bo86 pt86 of86_0 fa86_0 of86_1 fa86_1 pl86 sz99 ag99 zr99 zd99 by99 sl99 st99 bo99 pt99 of99_0 fa99_0 of99_1 fa99_1 pl99 ek99 sz103 ag103 zr103 zd103 by103 sl103 st103 bo103 pt103 of103_0 fa103_0 of103_1 fa103_1 of103_2 fa103_2 pl103 ek103 sz105 ag105 zr105 zd105 by105 sl105 st105 bo105 pt105 of105_0 fa105_0 of105_1 fa105_1 pl105 ek105 sz108 ag108 zr108 zd108 by108 sl108 st108 bo108 pt108 of108_0 fa108_0 of108_1 fa108_1 pl108 ek108
attribute [local go_sem] dL_Table dM_Table encEntry decEntry etaEntry zfEntry getDz_Entry dL_Entry dM_Entry encWant decWant
theorem con19 (hC : COk cfg19) (ts : List Table) (l : List Entry) (n : Int) (hp : okTs ts ∧ l.length ≤ 1000000) : Sem Try.prog 19 [.d (.sl 6 (ts.map encTable)), .d (.sl 8 (l.map encEntry)), .d (.i .i64 n)] (.tup [.d (.sl 6 ((applyT ts l n).1.map encTable)), .d (.i .i64 (applyT ts l n).2.1), .d (.i .i64 (applyT ts l n).2.2)]) := by
  refine sem_of_awR (C := cfg19) (rs := [.tmp 6, .tmp 7, .tmp 8]) (fun _ => []) Try.func19 rfl rfl rfl rfl rfl rfl ?_
  simp only [enterSl, enterHp, inO, inO2, inO1, inOs, List.append_nil, List.nil_append, Nat.mul_zero, List.cons_append, Nat.zero_add, Nat.reduceAdd, Nat.reduceMul, encDType, encVal, List.length_map, encField, encFmt, encKField, encFile, encRec, encTable, encChange, encEntry, encWant]
  repeat' first
    | (with_reducible first | refine thenS_n ?_ | refine inBlockS_n ?_ | refine AW.seq ?_ | refine AW.block ?_)
    | (refine AW.atR 6 rfl ?_; have hq := (chkE_ok (ts := ts) (l := l) (by assumption)).2; have h0 := num_chk hq (j := 0) (by omega); have h1 := num_chk hq (j := l.length - 1) (by omega); have hj : ((l.length : Int) - 1).toNat = l.length - 1 := (by omega))
    | (with_reducible first | (refine AWh.runK hC ?_; intro K hK) | (refine AWh.drawK hC (by kernel_rfl) ?_; intro K hK))
    | (with_reducible first | (refine AW.runK hC ?_; intro K hK) | (refine AW.drawK hC (by kernel_rfl) ?_; intro K hK))
    | ((with_reducible first | refine erun_g ?_ | refine edraw_g ?_ | refine exitS_g ?_); (first | (simp (maxSteps := 1000000) only [go_sem, ↓reduceIte, reduceCtorEq, Nat.reduceEqDiff, Nat.reduceLT, Nat.reduceLeDiff, Nat.reduceMul, Nat.reduceAdd, Nat.reduceSub, reduceDIte, Nat.reduceBEq, Nat.reduceBNe, hj]) | (refine siQ ?_)); (try simp (disch := omega) only [w64, wu8]))
    | (with_reducible refine hCheck_g (by kernel_rfl) ?_)
    | ((first | (refine AW.cond rfl (fun h => ?_) (fun h => ?_)) | (refine AW.cond_ub rfl (fun h => ?_) ?_) | (refine AW.cond_nb rfl ?_ (fun h => ?_))) <;> (try replace h := boolH h) <;> (try (exfalso; first | omega | exact absurd h (by decide))))
    | (with_reducible first | refine AW.skip ?_ | refine AW.exit ?_ | refine AW.ret ?_ | refine thenS_r ?_ | refine thenS_e ?_ | refine inBlockS_r ?_ | refine inBlockS_e ?_ | refine inBlockS_e2 rfl ?_ | refine exitQ_r ?_ | refine exitQ_n ?_)
    | (refine sub_auto ?_; refine subQ ?_)
    | (with_reducible refine And.intro ?_ ?_)
    | (subst hK)
    | exact trivial
  all_goals (try (intros; assumption))
  all_goals (try simp only [Bool.or_eq_true, Bool.and_eq_true, Bool.or_eq_false_iff, Bool.and_eq_false_iff, Bool.not_eq_true', Bool.not_eq_false', Bool.not_eq_true, Bool.not_eq_false, decide_eq_true_eq, decide_eq_false_iff_not, beq_iff_eq, bne_iff_ne, beq_eq_false_iff_ne, bne_eq_false_iff_eq, ne_eq, Int.not_lt, Int.not_le, D.b.injEq, D.i.injEq, D.s.injEq, D.agg.injEq, D.sl.injEq, true_and, and_true, List.cons.injEq, gt_iff_lt, ge_iff_le,  Bool.cond_true_left, Bool.cond_false_right, Bool.cond_true_right, Bool.cond_false_left, seq_iff, seq_dec, dec_f, dec_t, eqB_t, eqB_f] at *)
  all_goals (try (intros; trivial))
  all_goals (try (intros; omega))
  all_goals (try (rw [w64 (by omega) (by omega)]; first | done | omega))
  all_goals clear hC
  all_goals (try have ES := edge_some (l := l) (by omega))
  all_goals (try have EN := edge_none (l := l) (by omega))
  all_goals first
    | omega
    | exact hp.1
    | exact hp.2
    | exact hp.1.1
    | (rw [apply_err (by assumption)]; done)
    | (rw [apply_err (by assumption)]; rfl)
    | (rw [apply_err (by assumption)]; exact dles_refl _)
    | (rw [apply_out (by assumption) (by omega)]; done)
    | (rw [apply_out (by assumption) (by omega)]; rfl)
    | (rw [apply_out (by assumption) (by omega)]; exact dles_refl _)
    | (rw [apply_in (by assumption) (by omega)]; done)
    | (rw [apply_in (by assumption) (by omega)]; exact dles_refl _)
    | (have := changes_len ⟨true, n⟩ false l; omega)
    | (have := changes_len ⟨false, n⟩ true l; omega)
end
noncomputable def cfg23 : Cfg := ⟨Try.prog, 53, tab19, (fun _ _ => []), [], (fun _ => none)⟩
theorem cfg23_ti36 : cfg23.ti 36 = none := rfl
theorem cfg23_ti37 : cfg23.ti 37 = none := rfl
theorem cfg23_ti38 : cfg23.ti 38 = none := rfl
theorem cfg23_ti41 : cfg23.ti 41 = none := rfl
theorem cfg23_pins : cfg23.pins = [] := rfl
theorem cfg23_P : cfg23.P = Try.prog := rfl
theorem cfg23_N : cfg23.N = 53 := rfl
theorem cfg23_T36 : cfg23.T 36 = e36 := rfl
theorem cfg23_mv36 : cfg23.mv 36 = (fun _ => []) := rfl
theorem cfg23_T37 : cfg23.T 37 = e37 := rfl
theorem cfg23_mv37 : cfg23.mv 37 = (fun _ => []) := rfl
theorem cfg23_T38 : cfg23.T 38 = e38 := rfl
theorem cfg23_mv38 : cfg23.mv 38 = (fun _ => []) := rfl
theorem cfg23_T41 : cfg23.T 41 = e41 := rfl
theorem cfg23_mv41 : cfg23.mv 41 = (fun _ => []) := rfl
section
attribute [local go_sem] cfg23_P cfg23_N cfg23_pins cfg23_ti36 cfg23_ti37 cfg23_ti38 cfg23_ti41 cfg23_T36 e36 cfg23_mv36 cfg23_T37 e37 cfg23_mv37 cfg23_T38 e38 cfg23_mv38 cfg23_T41 e41 cfg23_mv41 sz4 ag4 zr4 zo4 zd4 by4 sl4 st4 bo4 pt4 sz22 ag22 zr22 zo22 zd22 by22 el22 sl22 un22 st22 bo22 pt22 sz25 ag25 zr25 zo25 zd25 by25 sl25 st25 bo25 pt25 ck25 sz43 ag43 zr43 zo43 zd43 by43 el43 sl43 un43 st43 bo43 pt43 sz49 ag49 zr49 zd49 by49 sl49 st49 bo49 pt49 of49_0 fa49_0 of49_1 fa49_1 of49_2 fa49_2 of49_3 fa49_3 of49_4 fa49_4 pl49 ek49 sz51 ag51 zr51 zd51 by51 sl51 st51 bo51 pt51 of51_0 fa51_0 of51_1 fa51_1 of51_2 fa51_2 of51_3 fa51_3 pl51 ek51 sz75 ag75 zr75 zo75 zd75 by75 el75 sl75 un75 st75 bo75 pt75 sz78 ag78 zr78 zo78 zd78 by78 el78 sl78 un78 st78 bo78 pt78 sz80 ag80 zr80 zd80 by80 sl80 st80 bo80 pt80 of80_0 fa80_0 of80_1 fa80_1 pl80 sz81 ag81 zr81 zo81 zd81 by81 el81 sl81 un81 st81 bo81 pt81 sz83 ag83 zr83 zd83 by83 sl83 st83 bo83 pt83 of83_0 fa83_0 of83_1 fa83_1 of83_2 fa83_2 of83_3 fa83_3 pl83 sz84 ag84 zr84 zo84 zd84 by84 el84 sl84 un84 st84 bo84 pt84 sz86 ag86 zr86 zd86 by86 sl86 st86 bo86 pt86 of86_0 fa86_0 of86_1 fa86_1 pl86 sz99 ag99 zr99 zd99 by99 sl99 st99 bo99 pt99 of99_0 fa99_0 of99_1 fa99_1 pl99 ek99 sz103 ag103 zr103 zd103 by103 sl103 st103 bo103 pt103 of103_0 fa103_0 of103_1 fa103_1 of103_2 fa103_2 pl103 ek103 sz105 ag105 zr105 zd105 by105 sl105 st105 bo105 pt105 of105_0 fa105_0 of105_1 fa105_1 pl105 ek105 sz108 ag108 zr108 zd108 by108 sl108 st108 bo108 pt108 of108_0 fa108_0 of108_1 fa108_1 pl108 ek108
attribute [local go_sem] dL_Table dM_Table encEntry decEntry etaEntry zfEntry getDz_Entry dL_Entry dM_Entry encWant decWant
theorem con23 (hC : COk cfg23) (ts : List Table) (l : List Entry) (n : Int) (hp : okTs ts ∧ l.length ≤ 1000000) : Sem Try.prog 23 [.d (.sl 6 (ts.map encTable)), .d (.sl 8 (l.map encEntry)), .d (.i .i64 n)] (.tup [.d (.sl 6 ((removeT ts l n).1.map encTable)), .d (.i .i64 (removeT ts l n).2.1), .d (.i .i64 (removeT ts l n).2.2)]) := by
  refine sem_of_awR (C := cfg23) (rs := [.tmp 6, .tmp 7, .tmp 8]) (fun _ => []) Try.func23 rfl rfl rfl rfl rfl rfl ?_
  simp only [enterSl, enterHp, inO, inO2, inO1, inOs, List.append_nil, List.nil_append, Nat.mul_zero, List.cons_append, Nat.zero_add, Nat.reduceAdd, Nat.reduceMul, encDType, encVal, List.length_map, encField, encFmt, encKField, encFile, encRec, encTable, encChange, encEntry, encWant]
  repeat' first
    | (with_reducible first | refine thenS_n ?_ | refine inBlockS_n ?_ | refine AW.seq ?_ | refine AW.block ?_)
    | (refine AW.atR 6 rfl ?_; have hq := (chkE_ok (ts := ts) (l := l) (by assumption)).2; have h0 := num_chk hq (j := 0) (by omega); have h1 := num_chk hq (j := l.length - 1) (by omega); have hj : ((l.length : Int) - 1).toNat = l.length - 1 := (by omega))
    | (with_reducible first | (refine AWh.runK hC ?_; intro K hK) | (refine AWh.drawK hC (by kernel_rfl) ?_; intro K hK))
    | (with_reducible first | (refine AW.runK hC ?_; intro K hK) | (refine AW.drawK hC (by kernel_rfl) ?_; intro K hK))
    | ((with_reducible first | refine erun_g ?_ | refine edraw_g ?_ | refine exitS_g ?_); (first | (simp (maxSteps := 1000000) only [go_sem, ↓reduceIte, reduceCtorEq, Nat.reduceEqDiff, Nat.reduceLT, Nat.reduceLeDiff, Nat.reduceMul, Nat.reduceAdd, Nat.reduceSub, reduceDIte, Nat.reduceBEq, Nat.reduceBNe, hj]) | (refine siQ ?_)); (try simp (disch := omega) only [w64, wu8]))
    | (with_reducible refine hCheck_g (by kernel_rfl) ?_)
    | ((first | (refine AW.cond rfl (fun h => ?_) (fun h => ?_)) | (refine AW.cond_ub rfl (fun h => ?_) ?_) | (refine AW.cond_nb rfl ?_ (fun h => ?_))) <;> (try replace h := boolH h) <;> (try (exfalso; first | omega | exact absurd h (by decide))))
    | (with_reducible first | refine AW.skip ?_ | refine AW.exit ?_ | refine AW.ret ?_ | refine thenS_r ?_ | refine thenS_e ?_ | refine inBlockS_r ?_ | refine inBlockS_e ?_ | refine inBlockS_e2 rfl ?_ | refine exitQ_r ?_ | refine exitQ_n ?_)
    | (refine sub_auto ?_; refine subQ ?_)
    | (with_reducible refine And.intro ?_ ?_)
    | (subst hK)
    | exact trivial
  all_goals (try (intros; assumption))
  all_goals (try simp only [Bool.or_eq_true, Bool.and_eq_true, Bool.or_eq_false_iff, Bool.and_eq_false_iff, Bool.not_eq_true', Bool.not_eq_false', Bool.not_eq_true, Bool.not_eq_false, decide_eq_true_eq, decide_eq_false_iff_not, beq_iff_eq, bne_iff_ne, beq_eq_false_iff_ne, bne_eq_false_iff_eq, ne_eq, Int.not_lt, Int.not_le, D.b.injEq, D.i.injEq, D.s.injEq, D.agg.injEq, D.sl.injEq, true_and, and_true, List.cons.injEq, gt_iff_lt, ge_iff_le,  Bool.cond_true_left, Bool.cond_false_right, Bool.cond_true_right, Bool.cond_false_left, seq_iff, seq_dec, dec_f, dec_t, eqB_t, eqB_f] at *)
  all_goals (try (intros; trivial))
  all_goals (try (intros; omega))
  all_goals (try (rw [w64 (by omega) (by omega)]; first | done | omega))
  all_goals clear hC
  all_goals (try have ES := edge_some (l := l) (by omega))
  all_goals (try have EN := edge_none (l := l) (by omega))
  all_goals first
    | omega
    | exact hp.1
    | exact hp.2
    | exact hp.1.1
    | (rw [remove_err (by assumption)]; done)
    | (rw [remove_err (by assumption)]; rfl)
    | (rw [remove_err (by assumption)]; exact dles_refl _)
    | (rw [remove_out (by assumption) (by omega)]; done)
    | (rw [remove_out (by assumption) (by omega)]; rfl)
    | (rw [remove_out (by assumption) (by omega)]; exact dles_refl _)
    | (rw [remove_in (by assumption) (by omega)]; done)
    | (rw [remove_in (by assumption) (by omega)]; exact dles_refl _)
    | (have := changes_len ⟨true, n⟩ false l; omega)
    | (have := changes_len ⟨false, n⟩ true l; omega)
end
noncomputable def cfg82 : Cfg := ⟨Try.prog, 9, tab23, (fun _ _ => []), [], (fun _ => none)⟩
theorem cfg82_pins : cfg82.pins = [] := rfl
theorem cfg82_P : cfg82.P = Try.prog := rfl
theorem cfg82_N : cfg82.N = 9 := rfl
section
attribute [local go_sem] cfg82_P cfg82_N cfg82_pins sz78 ag78 zr78 zo78 zd78 by78 el78 sl78 un78 st78 bo78 pt78 sz80 ag80 zr80 zd80 by80 sl80 st80 bo80 pt80 of80_0 fa80_0 of80_1 fa80_1 pl80 sz103 ag103 zr103 zd103 by103 sl103 st103 bo103 pt103 of103_0 fa103_0 of103_1 fa103_1 of103_2 fa103_2 pl103 ek103 sz105 ag105 zr105 zd105 by105 sl105 st105 bo105 pt105 of105_0 fa105_0 of105_1 fa105_1 pl105 ek105
theorem con82 (hC : COk cfg82) (f : Fmt) (hp : f.fields.length ≤ 1000000) : Sem Try.prog 82 [.d (encFmt f)] (.d (encFmt f)) := by
  refine sem_of_awR (C := cfg82) (rs := [.cell 2 80]) (fun _ => []) Try.func82 rfl rfl rfl rfl rfl rfl ?_
  simp only [enterSl, enterHp, inO, inO2, inO1, inOs, List.append_nil, List.nil_append, Nat.mul_zero, List.cons_append, Nat.zero_add, Nat.reduceAdd, Nat.reduceMul, encDType, encVal, List.length_map, encField, encFmt, encKField, encFile, encRec, encTable, encChange]
  repeat' first
    | (with_reducible first | refine thenS_n ?_ | refine inBlockS_n ?_ | refine AW.seq ?_ | refine AW.block ?_)
    | (with_reducible first | (refine AW.runK hC ?_; intro K hK) | (refine AW.drawK hC (by kernel_rfl) ?_; intro K hK))
    | ((with_reducible first | refine erun_g ?_ | refine edraw_g ?_ | refine exitS_g ?_); refine siQ ?_; (try simp (disch := omega) only [w64, wu8]))
    | (with_reducible refine hCheck_g (by kernel_rfl) ?_)
    | ((first | (refine AW.cond rfl (fun h => ?_) (fun h => ?_)) | (refine AW.cond_ub rfl (fun h => ?_) ?_) | (refine AW.cond_nb rfl ?_ (fun h => ?_))) <;> (try replace h := boolH h) <;> (try (exfalso; first | omega | exact absurd h (by decide))))
    | (with_reducible first | refine AW.skip ?_ | refine AW.exit ?_ | refine AW.ret ?_ | refine thenS_r ?_ | refine thenS_e ?_ | refine inBlockS_r ?_ | refine inBlockS_e ?_ | refine inBlockS_e2 rfl ?_ | refine exitQ_r ?_ | refine exitQ_n ?_)
    | (refine sub_auto ?_; refine subQ ?_)
    | (with_reducible refine And.intro ?_ ?_)
    | (subst hK)
    | exact trivial
  all_goals (try (intros; assumption))
  all_goals (try simp only [Bool.or_eq_true, Bool.and_eq_true, Bool.or_eq_false_iff, Bool.and_eq_false_iff, Bool.not_eq_true', Bool.not_eq_false', Bool.not_eq_true, Bool.not_eq_false, decide_eq_true_eq, decide_eq_false_iff_not, beq_iff_eq, bne_iff_ne, beq_eq_false_iff_ne, bne_eq_false_iff_eq, ne_eq, Int.not_lt, Int.not_le, D.b.injEq, D.i.injEq, D.s.injEq, D.agg.injEq, D.sl.injEq, true_and, and_true, List.cons.injEq, gt_iff_lt, ge_iff_le,  Bool.cond_true_left, Bool.cond_false_right, Bool.cond_true_right, Bool.cond_false_left, seq_iff, seq_dec, dec_f, dec_t, eqB_t, eqB_f] at *)
  all_goals (try (intros; trivial))
  all_goals (try (intros; omega))
  all_goals (try (rw [w64 (by omega) (by omega)]; first | done | omega))
  all_goals clear hC
  all_goals first | omega | (simp_all [dles]; done) | exact dles_refl _
end
end Go.Ev
