/- Tools and contracts under the laws of this seat: Dxc63, Dxc40, Dxc20, Dxc84, Dxc96, Dxc83, Dxc64, Dxc54, Dxc42, Dxc35, Dxc18. -/
import Derived.Test.YtkgkgcojfocomaaE09
set_option linter.unusedVariables false
set_option linter.unusedSimpArgs false
namespace Go.Ev
open Go.Proofs Ty
set_option maxRecDepth 10000
set_option maxHeartbeats 4000000
set_option linter.unusedSimpArgs false
set_option linter.unusedVariables false
attribute [local go_sem] erun_nil erun_cons edraw_eq edrun_nil edrun_cons e1_n e1_g guardSlot_eq lkAll_tmp lkAll_nil lkAll_const lkAll_func val_tmp val_const val_func aget getBox_mk getRow_mk liveRow_mk hp_mk eU_move_n eU_assign_n eU_move eU_assign eU_pick eU_alloc eU_box eU_load eU_store eU_nilCheck eU_binOp eU_unOp eU_fieldAddr eU_field eU_indexAddr eU_index eU_build eU_buildSlice eU_slice eU_extract eU_makeFunc eU_builtin eU_call eU_callv V.cells V.one D.one D.cells newObj nm HS.isFree HS.isLive andOk_some andOk_none List.map_cons List.map_nil Option.bind_some Option.bind_none putL List.cons_append List.nil_append thenS_normal thenS_ret thenS_exit inBlockS_normal inBlockS_ret inBlockS_exit true_and and_true justV justO cval Option.map_some Option.map_none loadAt storeAt ldV ldD mkAgg V.asD spliceL List.take_succ_cons List.take_zero List.drop_succ_cons List.drop_zero List.getElem?_cons_zero List.getElem?_cons_succ List.getElem?_nil List.all_cons List.all_nil Bool.and_true Bool.true_and Bool.and_self List.length_cons List.length_nil vals aopCall argsO argO toD3 toD2 toD1 toDs O.ok O.ok2 O.ok1 O.flat O.flat1 D.flat D.flatA inO inO2 inO1 inOs List.filterMap_nil List.filterMap_cons List.filter_nil List.filter_cons List.nodup_nil decide_true decide_false Bool.not_true Bool.not_false not_true_eq_false not_false_eq_true or_false false_or and_false false_and ne_eq List.append_nil optB guardQ guardRes beq_self_eq_true List.mapM_cons List.mapM_nil Option.pure_def Option.bind_eq_bind true_or or_true or_self callHp ite_self not_true not_false_iff ite_true ite_false if_true if_false Bool.false_eq_true Bool.true_eq_false List.any_nil List.any_cons List.contains_nil List.contains_cons eq_self aopAppend builtinV elems aopBin nilEqS nilEqP aopSlice bound natOf lenOf binD intBin unD bindEq eU_makeMap eU_convert eU_makeSlice aopConv aopMake isShift shiftD eU_lookup eU_mapUpdate getMp_mk List.range_zero Nat.zero_le Nat.zero_mul Nat.zero_add Nat.add_zero List.length_append List.take_length List.isEmpty_nil List.isEmpty_cons V.neg List.flatMap_nil and_self List.range_succ forall_const implies_true Nat.not_lt_zero exitQ_normal exitQ_ret exitS_eq exitO resVs resV_tmp resV_cell takeRow argCells mvAt dle_same dles_same ole_same ole oles dle dles List.nodup_cons List.mem_cons List.not_mem_nil List.drop_length Nat.le_refl Nat.lt_irrefl id_eq Option.some.injEq Bool.or_false Bool.false_or Bool.or_self Bool.or_true Bool.true_or false_implies Bool.and_false Bool.false_and List.reverse_cons List.reverse_nil sh1 mget1 mget aopLookup aopMapUpdate mapOf msetK msetV Option.isSome_some Option.isSome_none Bool.cond_true_left Bool.cond_false_right Bool.cond_true_right Bool.cond_false_left beq_true beq_false Bool.not_not imp_self guardVal notB strBin aopSliceS buildV argOk D.splice kEq Option.toList_some Option.toList_none adel List.getD_cons_zero List.getD_cons_succ bxIds bxId backHp hget one1 aopCall0 aopTurn
attribute [local go_sem] sz3 ag3 zr3 zo3 zd3 by3 sl3 st3 bo3 pt3 ck3 sz9 ag9 zr9 zo9 zd9 by9 sl9 un9 st9 bo9 pt9 ck9 encDType decDType etaDType zfDType encVal decVal etaVal zfVal Int.toNat_natCast chr_eq dL_int dM_int getDz_int decL_sl decM_cons decM_nil decI List.length_map nc0 bytesD_len bytesD_get encField decField etaField zfField encFmt decFmt etaFmt zfFmt encKField decKField etaKField zfKField encFile decFile etaFile zfFile encRec decRec etaRec zfRec getDz_Field getDz_KField getDz_Rec dL_Field dL_KField dL_Rec dM_Field dM_KField dM_Rec ceqField ceqKField ceqRec List.length_take decL_nil Int.toNat_zero Nat.sub_zero List.drop_zero encTable decTable etaTable zfTable encChange decChange etaChange zfChange dL_Change dM_Change List.length_set Nat.le_refl
attribute [local go_sem ←] List.map_take List.map_drop
noncomputable def cfg63 : Cfg := ⟨Try.prog, 14, tab82, (fun _ _ => []), [], (fun _ => none)⟩
theorem cfg63_ti82 : cfg63.ti 82 = none := rfl
theorem cfg63_pins : cfg63.pins = [] := rfl
theorem cfg63_P : cfg63.P = Try.prog := rfl
theorem cfg63_N : cfg63.N = 14 := rfl
theorem cfg63_T82 : cfg63.T 82 = e82 := rfl
theorem cfg63_mv82 : cfg63.mv 82 = (fun _ => []) := rfl
section
attribute [local go_sem] cfg63_P cfg63_N cfg63_pins cfg63_ti82 cfg63_T82 e82 cfg63_mv82 sz4 ag4 zr4 zo4 zd4 by4 sl4 st4 bo4 pt4 sz78 ag78 zr78 zo78 zd78 by78 el78 sl78 un78 st78 bo78 pt78 sz80 ag80 zr80 zd80 by80 sl80 st80 bo80 pt80 of80_0 fa80_0 of80_1 fa80_1 pl80 sz81 ag81 zr81 zo81 zd81 by81 el81 sl81 un81 st81 bo81 pt81 sz83 ag83 zr83 zd83 by83 sl83 st83 bo83 pt83 of83_0 fa83_0 of83_1 fa83_1 of83_2 fa83_2 of83_3 fa83_3 pl83 sz103 ag103 zr103 zd103 by103 sl103 st103 bo103 pt103 of103_0 fa103_0 of103_1 fa103_1 of103_2 fa103_2 pl103 ek103 sz105 ag105 zr105 zd105 by105 sl105 st105 bo105 pt105 of105_0 fa105_0 of105_1 fa105_1 pl105 ek105 sz108 ag108 zr108 zd108 by108 sl108 st108 bo108 pt108 of108_0 fa108_0 of108_1 fa108_1 pl108 ek108
theorem con63 (hC : COk cfg63) (f : File) (hp : f.format.fields.length ≤ 1000000 ∧ f.keys.length ≤ 1000000) : Sem Try.prog 63 [.d (encFile f)] (.d (encFile f)) := by
  refine sem_of_awR (C := cfg63) (rs := [.cell 2 83]) (fun _ => []) Try.func63 rfl rfl rfl rfl rfl rfl ?_
  simp only [enterSl, enterHp, inO, inO2, inO1, inOs, List.append_nil, List.nil_append, Nat.mul_zero, List.cons_append, Nat.zero_add, Nat.reduceAdd, Nat.reduceMul, encDType, encVal, List.length_map, encField, encFmt, encKField, encFile, encRec, encTable, encChange]
  repeat' first
    | (with_reducible first | refine thenS_n ?_ | refine inBlockS_n ?_ | refine AW.seq ?_ | refine AW.block ?_)
    | (with_reducible first | (refine AW.runK hC ?_; intro K hK) | (refine AW.drawK hC (by kernel_rfl) ?_; intro K hK))
    | ((with_reducible first | refine erun_g ?_ | refine edraw_g ?_ | refine exitS_g ?_); refine siQ ?_; (try simp (disch := omega) only [w64, wu8]))
    | (with_reducible refine hCheck_g (by kernel_rfl) ?_)
    | ((first | (refine AW.cond rfl (fun h => ?_) (fun h => ?_)) | (refine AW.cond_ub rfl (fun h => ?_) ?_) | (refine AW.cond_nb rfl ?_ (fun h => ?_))) <;> (try replace h := boolH h) <;> (try (exfalso; first | omega | exact absurd h (by decide))))
    | (with_reducible first | refine AW.skip ?_ | refine AW.exit ?_ | refine AW.ret ?_ | refine thenS_r ?_ | refine thenS_e ?_ | refine inBlockS_r ?_ | refine inBlockS_e ?_ | refine inBlockS_e2 rfl ?_ | refine exitQ_r ?_ | refine exitQ_n ?_)
    | (refine sub_auto ?_; refine subQ ?_)
    | (with_reducible refine And.intro ?_ ?_)
    | (subst hK)
    | exact trivial
  all_goals (try (intros; assumption))
  all_goals (try simp only [Bool.or_eq_true, Bool.and_eq_true, Bool.or_eq_false_iff, Bool.and_eq_false_iff, Bool.not_eq_true', Bool.not_eq_false', Bool.not_eq_true, Bool.not_eq_false, decide_eq_true_eq, decide_eq_false_iff_not, beq_iff_eq, bne_iff_ne, beq_eq_false_iff_ne, bne_eq_false_iff_eq, ne_eq, Int.not_lt, Int.not_le, D.b.injEq, D.i.injEq, D.s.injEq, D.agg.injEq, D.sl.injEq, true_and, and_true, List.cons.injEq, gt_iff_lt, ge_iff_le,  Bool.cond_true_left, Bool.cond_false_right, Bool.cond_true_right, Bool.cond_false_left, seq_iff, seq_dec, dec_f, dec_t, eqB_t, eqB_f] at *)
  all_goals (try (intros; trivial))
  all_goals (try (intros; omega))
  all_goals (try (rw [w64 (by omega) (by omega)]; first | done | omega))
  all_goals clear hC
  all_goals first | omega | (simp_all [dles]; done) | exact dles_refl _
end
noncomputable def cfg40 : Cfg := ⟨Try.prog, 10, tab63, (fun _ _ => []), [], (fun _ => none)⟩
theorem cfg40_ti63 : cfg40.ti 63 = none := rfl
theorem cfg40_pins : cfg40.pins = [] := rfl
theorem cfg40_P : cfg40.P = Try.prog := rfl
theorem cfg40_N : cfg40.N = 10 := rfl
theorem cfg40_T63 : cfg40.T 63 = e63 := rfl
theorem cfg40_mv63 : cfg40.mv 63 = (fun _ => []) := rfl
section
attribute [local go_sem] cfg40_P cfg40_N cfg40_pins cfg40_ti63 cfg40_T63 e63 cfg40_mv63 sz4 ag4 zr4 zo4 zd4 by4 sl4 st4 bo4 pt4 sz78 ag78 zr78 zo78 zd78 by78 el78 sl78 un78 st78 bo78 pt78 sz80 ag80 zr80 zd80 by80 sl80 st80 bo80 pt80 of80_0 fa80_0 of80_1 fa80_1 pl80 sz81 ag81 zr81 zo81 zd81 by81 el81 sl81 un81 st81 bo81 pt81 sz83 ag83 zr83 zd83 by83 sl83 st83 bo83 pt83 of83_0 fa83_0 of83_1 fa83_1 of83_2 fa83_2 of83_3 fa83_3 pl83 sz84 ag84 zr84 zo84 zd84 by84 el84 sl84 un84 st84 bo84 pt84 sz86 ag86 zr86 zd86 by86 sl86 st86 bo86 pt86 of86_0 fa86_0 of86_1 fa86_1 pl86 sz99 ag99 zr99 zd99 by99 sl99 st99 bo99 pt99 of99_0 fa99_0 of99_1 fa99_1 pl99 ek99 sz103 ag103 zr103 zd103 by103 sl103 st103 bo103 pt103 of103_0 fa103_0 of103_1 fa103_1 of103_2 fa103_2 pl103 ek103 sz105 ag105 zr105 zd105 by105 sl105 st105 bo105 pt105 of105_0 fa105_0 of105_1 fa105_1 pl105 ek105 sz108 ag108 zr108 zd108 by108 sl108 st108 bo108 pt108 of108_0 fa108_0 of108_1 fa108_1 pl108 ek108
theorem con40 (hC : COk cfg40) (t : Table) (hp : (t.file.format.fields.length ≤ 1000000 ∧ t.file.keys.length ≤ 1000000 ∧ t.records.length ≤ 1000000)) : Sem Try.prog 40 [.d (encTable t)] (.d (encTable t)) := by
  refine sem_of_awR (C := cfg40) (rs := [.cell 2 86]) (fun _ => []) Try.func40 rfl rfl rfl rfl rfl rfl ?_
  simp only [enterSl, enterHp, inO, inO2, inO1, inOs, List.append_nil, List.nil_append, Nat.mul_zero, List.cons_append, Nat.zero_add, Nat.reduceAdd, Nat.reduceMul, encDType, encVal, List.length_map, encField, encFmt, encKField, encFile, encRec, encTable, encChange]
  repeat' first
    | (with_reducible first | refine thenS_n ?_ | refine inBlockS_n ?_ | refine AW.seq ?_ | refine AW.block ?_)
    | (with_reducible first | (refine AW.runK hC ?_; intro K hK) | (refine AW.drawK hC (by kernel_rfl) ?_; intro K hK))
    | ((with_reducible first | refine erun_g ?_ | refine edraw_g ?_ | refine exitS_g ?_); refine siQ ?_; (try simp (disch := omega) only [w64, wu8]))
    | (with_reducible refine hCheck_g (by kernel_rfl) ?_)
    | ((first | (refine AW.cond rfl (fun h => ?_) (fun h => ?_)) | (refine AW.cond_ub rfl (fun h => ?_) ?_) | (refine AW.cond_nb rfl ?_ (fun h => ?_))) <;> (try replace h := boolH h) <;> (try (exfalso; first | omega | exact absurd h (by decide))))
    | (with_reducible first | refine AW.skip ?_ | refine AW.exit ?_ | refine AW.ret ?_ | refine thenS_r ?_ | refine thenS_e ?_ | refine inBlockS_r ?_ | refine inBlockS_e ?_ | refine inBlockS_e2 rfl ?_ | refine exitQ_r ?_ | refine exitQ_n ?_)
    | (refine sub_auto ?_; refine subQ ?_)
    | (with_reducible refine And.intro ?_ ?_)
    | (subst hK)
    | exact trivial
  all_goals (try (intros; assumption))
  all_goals (try simp only [Bool.or_eq_true, Bool.and_eq_true, Bool.or_eq_false_iff, Bool.and_eq_false_iff, Bool.not_eq_true', Bool.not_eq_false', Bool.not_eq_true, Bool.not_eq_false, decide_eq_true_eq, decide_eq_false_iff_not, beq_iff_eq, bne_iff_ne, beq_eq_false_iff_ne, bne_eq_false_iff_eq, ne_eq, Int.not_lt, Int.not_le, D.b.injEq, D.i.injEq, D.s.injEq, D.agg.injEq, D.sl.injEq, true_and, and_true, List.cons.injEq, gt_iff_lt, ge_iff_le,  Bool.cond_true_left, Bool.cond_false_right, Bool.cond_true_right, Bool.cond_false_left, seq_iff, seq_dec, dec_f, dec_t, eqB_t, eqB_f] at *)
  all_goals (try (intros; trivial))
  all_goals (try (intros; omega))
  all_goals (try (rw [w64 (by omega) (by omega)]; first | done | omega))
  all_goals clear hC
  all_goals first | omega | (simp_all [dles]; done) | exact dles_refl _
end
noncomputable def cfg20 : Cfg := ⟨Try.prog, 20, tab40, (fun _ _ => []), [], (fun _ => none)⟩
theorem cfg20_ti40 : cfg20.ti 40 = none := rfl
theorem cfg20_pins : cfg20.pins = [] := rfl
theorem cfg20_P : cfg20.P = Try.prog := rfl
theorem cfg20_N : cfg20.N = 20 := rfl
theorem cfg20_T40 : cfg20.T 40 = e40 := rfl
theorem cfg20_mv40 : cfg20.mv 40 = (fun _ => []) := rfl
section
attribute [local go_sem] cfg20_P cfg20_N cfg20_pins cfg20_ti40 cfg20_T40 e40 cfg20_mv40 sz4 ag4 zr4 zo4 zd4 by4 sl4 st4 bo4 pt4 sz43 ag43 zr43 zo43 zd43 by43 el43 sl43 un43 st43 bo43 pt43 sz78 ag78 zr78 zo78 zd78 by78 el78 sl78 un78 st78 bo78 pt78 sz80 ag80 zr80 zd80 by80 sl80 st80 bo80 pt80 of80_0 fa80_0 of80_1 fa80_1 pl80 sz81 ag81 zr81 zo81 zd81 by81 el81 sl81 un81 st81 bo81 pt81 sz83 ag83 zr83 zd83 by83 sl83 st83 bo83 pt83 of83_0 fa83_0 of83_1 fa83_1 of83_2 fa83_2 of83_3 fa83_3 pl83 sz84 ag84 zr84 zo84 zd84 by84 el84 sl84 un84 st84 bo84 pt84 sz86 ag86 zr86 zd86 by86 sl86 st86 bo86 pt86 of86_0 fa86_0 of86_1 fa86_1 pl86 sz99 ag99 zr99 zd99 by99 sl99 st99 bo99 pt99 of99_0 fa99_0 of99_1 fa99_1 pl99 ek99 sz103 ag103 zr103 zd103 by103 sl103 st103 bo103 pt103 of103_0 fa103_0 of103_1 fa103_1 of103_2 fa103_2 pl103 ek103 sz105 ag105 zr105 zd105 by105 sl105 st105 bo105 pt105 of105_0 fa105_0 of105_1 fa105_1 pl105 ek105 sz108 ag108 zr108 zd108 by108 sl108 st108 bo108 pt108 of108_0 fa108_0 of108_1 fa108_1 pl108 ek108
attribute [local go_sem] dL_Table dM_Table List.take_length
theorem con20 (hC : COk cfg20) (ts : List Table) (hp : okTs ts) : Sem Try.prog 20 [.d (.sl 6 (ts.map encTable))] (.own 86 6 (ts.map encTable)) := by
  have hB : ts.length ≤ 1000000 := hp.1
  refine sem_of_awR (C := cfg20) (rs := [.tmp 2]) (fun _ => [(0, 86, 6)]) Try.func20 rfl rfl rfl rfl rfl rfl ?_
  simp only [enterSl, enterHp, inO, inO2, inO1, inOs, List.append_nil, List.nil_append, Nat.mul_zero, List.cons_append, Nat.zero_add, Nat.reduceAdd, Nat.reduceMul, encDType, encVal, List.length_map, encField, encFmt, encKField, encFile, encRec, encTable, encChange]
  repeat' first
    | (with_reducible first | refine thenS_n ?_ | refine inBlockS_n ?_ | refine AW.seq ?_ | refine AW.block ?_)
    | (refine AW.atR 5 rfl ?_; have hg : ∀ z, (ts.map encTable).getD i z = encTable (ts.getD i zTable) := fun z => getD_mapT (by omega) z)
    | (with_reducible first | (refine AWh.runK hC ?_; intro K hK) | (refine AWh.drawK hC (by kernel_rfl) ?_; intro K hK))
    | (with_reducible first | (refine AW.runK hC ?_; intro K hK) | (refine AW.drawK hC (by kernel_rfl) ?_; intro K hK))
    | ((with_reducible first | refine erun_g ?_ | refine edraw_g ?_ | refine exitS_g ?_); (first | (simp (maxSteps := 1000000) only [go_sem, ↓reduceIte, reduceCtorEq, Nat.reduceEqDiff, Nat.reduceLT, Nat.reduceLeDiff, Nat.reduceMul, Nat.reduceAdd, Nat.reduceSub, reduceDIte, Nat.reduceBEq, Nat.reduceBNe, hg]) | (refine siQ ?_)); (try simp (disch := omega) only [w64, wu8]))
    | (with_reducible refine hCheck_g (by kernel_rfl) ?_)
    | ((first | (refine AW.cond rfl (fun h => ?_) (fun h => ?_)) | (refine AW.cond_ub rfl (fun h => ?_) ?_) | (refine AW.cond_nb rfl ?_ (fun h => ?_))) <;> (try replace h := boolH h) <;> (try (exfalso; first | omega | exact absurd h (by decide))))
    | (with_reducible first | refine AW.skip ?_ | refine AW.exit ?_ | refine AW.ret ?_ | refine thenS_r ?_ | refine thenS_e ?_ | refine inBlockS_r ?_ | refine inBlockS_e ?_ | refine inBlockS_e2 rfl ?_ | refine exitQ_r ?_ | refine exitQ_n ?_)
    | (refine AW.loopN 3 rfl (ι := Nat) (fun i => mkS [(0, V.d (.sl 6 (ts.map encTable))), (3, V.row 48 6 0 (ts.take i).length), (4, V.d (.i .i64 (i : Int)))] ([(48, .live (.row 86 6 false ((ts.take i).map encTable)))])) (fun i => i ≤ ts.length) (fun i => ts.length - i) (0) ?_ ?_ (fun i hi => ?_) <;> (try dsimp only) <;> (try dsimp only at hi))
    | (refine LoopNext.mk1 3 (i + 1) ?_ ?_ ?_ <;> (try dsimp only))
    | (refine sub_auto ?_; refine subQ ?_)
    | (with_reducible refine And.intro ?_ ?_)
    | (subst hK)
    | exact trivial
  all_goals (try (intros; assumption))
  all_goals (try simp only [Bool.or_eq_true, Bool.and_eq_true, Bool.or_eq_false_iff, Bool.and_eq_false_iff, Bool.not_eq_true', Bool.not_eq_false', Bool.not_eq_true, Bool.not_eq_false, decide_eq_true_eq, decide_eq_false_iff_not, beq_iff_eq, bne_iff_ne, beq_eq_false_iff_ne, bne_eq_false_iff_eq, ne_eq, Int.not_lt, Int.not_le, D.b.injEq, D.i.injEq, D.s.injEq, D.agg.injEq, D.sl.injEq, true_and, and_true, List.cons.injEq, gt_iff_lt, ge_iff_le,  Bool.cond_true_left, Bool.cond_false_right, Bool.cond_true_right, Bool.cond_false_left, seq_iff, seq_dec, dec_f, dec_t, eqB_t, eqB_f] at *)
  all_goals (try (intros; trivial))
  all_goals (try (intros; omega))
  all_goals (try (rw [w64 (by omega) (by omega)]; first | done | omega))
  all_goals clear hC
  all_goals first
    | omega
    | exact (hp.2 i).1
    | exact (hp.2 i).2.1
    | exact (hp.2 i).2.2
    | (intro d hd; subst hd; exact ⟨rfl, by simp [D.cells, D.one]⟩)
    | (rw [take_getD zTable (by omega), List.map_append]; exact dles_refl _)
    | (rw [List.take_of_length_le (by omega)]; exact dles_refl _)
    | (rw [List.take_take, List.take_of_length_le (by omega)]; exact dles_refl _)
end
noncomputable def cfg84 : Cfg := ⟨Try.prog, 26, tab20, (fun _ _ => []), [], (fun _ => none)⟩
theorem cfg84_pins : cfg84.pins = [] := rfl
theorem cfg84_P : cfg84.P = Try.prog := rfl
theorem cfg84_N : cfg84.N = 26 := rfl
section
attribute [local go_sem] cfg84_P cfg84_N cfg84_pins sz4 ag4 zr4 zo4 zd4 by4 sl4 st4 bo4 pt4 sz84 ag84 zr84 zo84 zd84 by84 el84 sl84 un84 st84 bo84 pt84 sz99 ag99 zr99 zd99 by99 sl99 st99 bo99 pt99 of99_0 fa99_0 of99_1 fa99_1 pl99 ek99
theorem con84 (hC : COk cfg84) (a : List Rec) (b : List Rec) (hp : a.length ≤ 1000000) : Sem Try.prog 84 [.d (.sl 2 (a.map encRec)), .d (.sl 2 (b.map encRec))] (.d (.b (decide (a = b)))) := by
  refine sem_of_awR (C := cfg84) (rs := [.tmp 4]) (fun _ => []) Try.func84 rfl rfl rfl rfl rfl rfl ?_
  simp only [enterSl, enterHp, inO, inO2, inO1, inOs, List.append_nil, List.nil_append, Nat.mul_zero, List.cons_append, Nat.zero_add, Nat.reduceAdd, Nat.reduceMul, encDType, encVal, List.length_map, encField, encFmt, encKField, encFile, encRec, encTable, encChange]
  repeat' first
    | (with_reducible first | refine thenS_n ?_ | refine inBlockS_n ?_ | refine AW.seq ?_ | refine AW.block ?_)
    | (with_reducible first | (refine AW.runK hC ?_; intro K hK) | (refine AW.drawK hC (by kernel_rfl) ?_; intro K hK))
    | ((with_reducible first | refine erun_g ?_ | refine edraw_g ?_ | refine exitS_g ?_); refine siQ ?_; (try simp (disch := omega) only [w64, wu8]))
    | (with_reducible refine hCheck_g (by kernel_rfl) ?_)
    | ((first | (refine AW.cond rfl (fun h => ?_) (fun h => ?_)) | (refine AW.cond_ub rfl (fun h => ?_) ?_) | (refine AW.cond_nb rfl ?_ (fun h => ?_))) <;> (try replace h := boolH h) <;> (try (exfalso; first | omega | exact absurd h (by decide))))
    | (with_reducible first | refine AW.skip ?_ | refine AW.exit ?_ | refine AW.ret ?_ | refine thenS_r ?_ | refine thenS_e ?_ | refine inBlockS_r ?_ | refine inBlockS_e ?_ | refine inBlockS_e2 rfl ?_ | refine exitQ_r ?_ | refine exitQ_n ?_)
    | (refine AW.loopN 4 rfl (ι := Nat) (fun i => mkS [(0, V.d (.sl 2 (a.map encRec))), (1, V.d (.sl 2 (b.map encRec))), (5, V.d (.i .i64 (i : Int)))] ([])) (fun i => i ≤ a.length ∧ a.length = b.length ∧ a.take i = b.take i) (fun i => a.length - i) (0) ?_ ?_ (fun i hi => ?_) <;> (try dsimp only) <;> (try dsimp only at hi))
    | (refine LoopNext.mk1 4 (i + 1) ?_ ?_ ?_ <;> (try dsimp only))
    | (refine sub_auto ?_; refine subQ ?_)
    | (with_reducible refine And.intro ?_ ?_)
    | (subst hK)
    | exact trivial
  all_goals (try (intros; assumption))
  all_goals (try simp only [Bool.or_eq_true, Bool.and_eq_true, Bool.or_eq_false_iff, Bool.and_eq_false_iff, Bool.not_eq_true', Bool.not_eq_false', Bool.not_eq_true, Bool.not_eq_false, decide_eq_true_eq, decide_eq_false_iff_not, beq_iff_eq, bne_iff_ne, beq_eq_false_iff_ne, bne_eq_false_iff_eq, ne_eq, Int.not_lt, Int.not_le, D.b.injEq, D.i.injEq, D.s.injEq, D.agg.injEq, D.sl.injEq, true_and, and_true, List.cons.injEq, gt_iff_lt, ge_iff_le,  Bool.cond_true_left, Bool.cond_false_right, Bool.cond_true_right, Bool.cond_false_left, seq_iff, seq_dec, dec_f, dec_t, eqB_t, eqB_f] at *)
  all_goals (try (intros; trivial))
  all_goals (try (intros; omega))
  all_goals (try (rw [w64 (by omega) (by omega)]; first | done | omega))
  all_goals clear hC
  all_goals first
    | rfl
    | omega
    | (intro e; subst e; exact h rfl)
    | (intro e; subst e; simp at h; done)
    | (intro e; rw [e] at h; simp at h; done)
    | exact take_eq_end hi.2.2 (by omega) (by omega)
    | exact take_eq_step hi.2.2 (by omega) (by omega) (by assumption)
    | (simp only [decide_eq_true_eq]; exact take_eq_end hi.2.2 (by omega) (by omega))
    | exact h.1
    | exact h.1.1.1
    | exact h.1.1.2
    | exact h.1.2
    | exact hi.2.1.1
    | exact hi.2.1.2.1
    | exact hi.2.1.2.2.1
    | exact fmt_eq hi.2.1.1 (take_eq_end hi.2.2 (by omega) (by omega))
    | exact file_eq hi.2.1.1 hi.2.1.2.1 hi.2.1.2.2.1 (take_eq_end hi.2.2 (by omega) (by omega))
    | exact hp.1
    | exact hp.2.1
    | exact fun _ => hp.2.2
    | exact table_dec a b
end
noncomputable def cfg96 : Cfg := ⟨Try.prog, 38, tab84, (fun _ _ => []), [], (fun _ => none)⟩
theorem cfg96_pins : cfg96.pins = [] := rfl
theorem cfg96_P : cfg96.P = Try.prog := rfl
theorem cfg96_N : cfg96.N = 38 := rfl
section
attribute [local go_sem] cfg96_P cfg96_N cfg96_pins sz78 ag78 zr78 zo78 zd78 by78 el78 sl78 un78 st78 bo78 pt78 sz80 ag80 zr80 zd80 by80 sl80 st80 bo80 pt80 of80_0 fa80_0 of80_1 fa80_1 pl80 sz103 ag103 zr103 zd103 by103 sl103 st103 bo103 pt103 of103_0 fa103_0 of103_1 fa103_1 of103_2 fa103_2 pl103 ek103 sz105 ag105 zr105 zd105 by105 sl105 st105 bo105 pt105 of105_0 fa105_0 of105_1 fa105_1 pl105 ek105
theorem con96 (hC : COk cfg96) (a : Fmt) (b : Fmt) (hp : a.fields.length ≤ 1000000) : Sem Try.prog 96 [.d (encFmt a), .d (encFmt b)] (.d (.b (decide (a = b)))) := by
  refine sem_of_awR (C := cfg96) (rs := [.tmp 4]) (fun _ => []) Try.func96 rfl rfl rfl rfl rfl rfl ?_
  simp only [enterSl, enterHp, inO, inO2, inO1, inOs, List.append_nil, List.nil_append, Nat.mul_zero, List.cons_append, Nat.zero_add, Nat.reduceAdd, Nat.reduceMul, encDType, encVal, List.length_map, encField, encFmt, encKField, encFile, encRec, encTable, encChange]
  repeat' first
    | (with_reducible first | refine thenS_n ?_ | refine inBlockS_n ?_ | refine AW.seq ?_ | refine AW.block ?_)
    | (with_reducible first | (refine AW.runK hC ?_; intro K hK) | (refine AW.drawK hC (by kernel_rfl) ?_; intro K hK))
    | ((with_reducible first | refine erun_g ?_ | refine edraw_g ?_ | refine exitS_g ?_); refine siQ ?_; (try simp (disch := omega) only [w64, wu8]))
    | (with_reducible refine hCheck_g (by kernel_rfl) ?_)
    | ((first | (refine AW.cond rfl (fun h => ?_) (fun h => ?_)) | (refine AW.cond_ub rfl (fun h => ?_) ?_) | (refine AW.cond_nb rfl ?_ (fun h => ?_))) <;> (try replace h := boolH h) <;> (try (exfalso; first | omega | exact absurd h (by decide))))
    | (with_reducible first | refine AW.skip ?_ | refine AW.exit ?_ | refine AW.ret ?_ | refine thenS_r ?_ | refine thenS_e ?_ | refine inBlockS_r ?_ | refine inBlockS_e ?_ | refine inBlockS_e2 rfl ?_ | refine exitQ_r ?_ | refine exitQ_n ?_)
    | (refine AW.loopN 4 rfl (ι := Nat) (fun i => mkS [(2, V.ptr 32 0), (3, V.ptr 48 0), (5, V.d (.i .i64 (i : Int)))] ([(32, .live (.box 80 [.d (.s a.name), .d (.sl 4 (a.fields.map encField))])), (48, .live (.box 80 [.d (.s b.name), .d (.sl 4 (b.fields.map encField))]))])) (fun i => i ≤ a.fields.length ∧ (a.name = b.name ∧ a.fields.length = b.fields.length) ∧ a.fields.take i = b.fields.take i) (fun i => a.fields.length - i) (0) ?_ ?_ (fun i hi => ?_) <;> (try dsimp only) <;> (try dsimp only at hi))
    | (refine LoopNext.mk1 4 (i + 1) ?_ ?_ ?_ <;> (try dsimp only))
    | (refine sub_auto ?_; refine subQ ?_)
    | (with_reducible refine And.intro ?_ ?_)
    | (subst hK)
    | exact trivial
  all_goals (try (intros; assumption))
  all_goals (try simp only [Bool.or_eq_true, Bool.and_eq_true, Bool.or_eq_false_iff, Bool.and_eq_false_iff, Bool.not_eq_true', Bool.not_eq_false', Bool.not_eq_true, Bool.not_eq_false, decide_eq_true_eq, decide_eq_false_iff_not, beq_iff_eq, bne_iff_ne, beq_eq_false_iff_ne, bne_eq_false_iff_eq, ne_eq, Int.not_lt, Int.not_le, D.b.injEq, D.i.injEq, D.s.injEq, D.agg.injEq, D.sl.injEq, true_and, and_true, List.cons.injEq, gt_iff_lt, ge_iff_le,  Bool.cond_true_left, Bool.cond_false_right, Bool.cond_true_right, Bool.cond_false_left, seq_iff, seq_dec, dec_f, dec_t, eqB_t, eqB_f] at *)
  all_goals (try (intros; trivial))
  all_goals (try (intros; omega))
  all_goals (try (rw [w64 (by omega) (by omega)]; first | done | omega))
  all_goals clear hC
  all_goals first
    | rfl
    | omega
    | (intro e; subst e; exact h rfl)
    | (intro e; subst e; simp at h; done)
    | (intro e; rw [e] at h; simp at h; done)
    | exact take_eq_end hi.2.2 (by omega) (by omega)
    | exact take_eq_step hi.2.2 (by omega) (by omega) (by assumption)
    | (simp only [decide_eq_true_eq]; exact take_eq_end hi.2.2 (by omega) (by omega))
    | exact h.1
    | exact h.1.1.1
    | exact h.1.1.2
    | exact h.1.2
    | exact hi.2.1.1
    | exact hi.2.1.2.1
    | exact hi.2.1.2.2.1
    | exact fmt_eq hi.2.1.1 (take_eq_end hi.2.2 (by omega) (by omega))
    | exact file_eq hi.2.1.1 hi.2.1.2.1 hi.2.1.2.2.1 (take_eq_end hi.2.2 (by omega) (by omega))
    | exact hp.1
    | exact hp.2.1
    | exact fun _ => hp.2.2
    | exact table_dec a b
end
noncomputable def cfg83 : Cfg := ⟨Try.prog, 53, tab96, (fun _ _ => []), [], (fun _ => none)⟩
theorem cfg83_ti96 : cfg83.ti 96 = none := rfl
theorem cfg83_pins : cfg83.pins = [] := rfl
theorem cfg83_P : cfg83.P = Try.prog := rfl
theorem cfg83_N : cfg83.N = 53 := rfl
theorem cfg83_T96 : cfg83.T 96 = e96 := rfl
theorem cfg83_mv96 : cfg83.mv 96 = (fun _ => []) := rfl
section
attribute [local go_sem] cfg83_P cfg83_N cfg83_pins cfg83_ti96 cfg83_T96 e96 cfg83_mv96 sz4 ag4 zr4 zo4 zd4 by4 sl4 st4 bo4 pt4 sz78 ag78 zr78 zo78 zd78 by78 el78 sl78 un78 st78 bo78 pt78 sz80 ag80 zr80 zd80 by80 sl80 st80 bo80 pt80 of80_0 fa80_0 of80_1 fa80_1 pl80 sz81 ag81 zr81 zo81 zd81 by81 el81 sl81 un81 st81 bo81 pt81 sz83 ag83 zr83 zd83 by83 sl83 st83 bo83 pt83 of83_0 fa83_0 of83_1 fa83_1 of83_2 fa83_2 of83_3 fa83_3 pl83 sz103 ag103 zr103 zd103 by103 sl103 st103 bo103 pt103 of103_0 fa103_0 of103_1 fa103_1 of103_2 fa103_2 pl103 ek103 sz105 ag105 zr105 zd105 by105 sl105 st105 bo105 pt105 of105_0 fa105_0 of105_1 fa105_1 pl105 ek105 sz108 ag108 zr108 zd108 by108 sl108 st108 bo108 pt108 of108_0 fa108_0 of108_1 fa108_1 pl108 ek108
theorem con83 (hC : COk cfg83) (a : File) (b : File) (hp : a.format.fields.length ≤ 1000000 ∧ a.keys.length ≤ 1000000) : Sem Try.prog 83 [.d (encFile a), .d (encFile b)] (.d (.b (decide (a = b)))) := by
  refine sem_of_awR (C := cfg83) (rs := [.tmp 4]) (fun _ => []) Try.func83 rfl rfl rfl rfl rfl rfl ?_
  simp only [enterSl, enterHp, inO, inO2, inO1, inOs, List.append_nil, List.nil_append, Nat.mul_zero, List.cons_append, Nat.zero_add, Nat.reduceAdd, Nat.reduceMul, encDType, encVal, List.length_map, encField, encFmt, encKField, encFile, encRec, encTable, encChange]
  repeat' first
    | (with_reducible first | refine thenS_n ?_ | refine inBlockS_n ?_ | refine AW.seq ?_ | refine AW.block ?_)
    | (with_reducible first | (refine AW.runK hC ?_; intro K hK) | (refine AW.drawK hC (by kernel_rfl) ?_; intro K hK))
    | ((with_reducible first | refine erun_g ?_ | refine edraw_g ?_ | refine exitS_g ?_); refine siQ ?_; (try simp (disch := omega) only [w64, wu8]))
    | (with_reducible refine hCheck_g (by kernel_rfl) ?_)
    | ((first | (refine AW.cond rfl (fun h => ?_) (fun h => ?_)) | (refine AW.cond_ub rfl (fun h => ?_) ?_) | (refine AW.cond_nb rfl ?_ (fun h => ?_))) <;> (try replace h := boolH h) <;> (try (exfalso; first | omega | exact absurd h (by decide))))
    | (with_reducible first | refine AW.skip ?_ | refine AW.exit ?_ | refine AW.ret ?_ | refine thenS_r ?_ | refine thenS_e ?_ | refine inBlockS_r ?_ | refine inBlockS_e ?_ | refine inBlockS_e2 rfl ?_ | refine exitQ_r ?_ | refine exitQ_n ?_)
    | (refine AW.loopN 4 rfl (ι := Nat) (fun i => mkS [(2, V.ptr 32 0), (3, V.ptr 48 0), (5, V.d (.i .i64 (i : Int)))] ([(32, .live (.box 83 [.d (.s a.name), .d (.s a.format.name), .d (.sl 4 (a.format.fields.map encField)), .d (.sl 2 (a.keys.map encKField)), .d (.b a.unique)])), (48, .live (.box 83 [.d (.s b.name), .d (.s b.format.name), .d (.sl 4 (b.format.fields.map encField)), .d (.sl 2 (b.keys.map encKField)), .d (.b b.unique)]))])) (fun i => i ≤ a.keys.length ∧ (a.name = b.name ∧ a.unique = b.unique ∧ a.format = b.format ∧ a.keys.length = b.keys.length) ∧ a.keys.take i = b.keys.take i) (fun i => a.keys.length - i) (0) ?_ ?_ (fun i hi => ?_) <;> (try dsimp only) <;> (try dsimp only at hi))
    | (refine LoopNext.mk1 4 (i + 1) ?_ ?_ ?_ <;> (try dsimp only))
    | (refine sub_auto ?_; refine subQ ?_)
    | (with_reducible refine And.intro ?_ ?_)
    | (subst hK)
    | exact trivial
  all_goals (try (intros; assumption))
  all_goals (try simp only [Bool.or_eq_true, Bool.and_eq_true, Bool.or_eq_false_iff, Bool.and_eq_false_iff, Bool.not_eq_true', Bool.not_eq_false', Bool.not_eq_true, Bool.not_eq_false, decide_eq_true_eq, decide_eq_false_iff_not, beq_iff_eq, bne_iff_ne, beq_eq_false_iff_ne, bne_eq_false_iff_eq, ne_eq, Int.not_lt, Int.not_le, D.b.injEq, D.i.injEq, D.s.injEq, D.agg.injEq, D.sl.injEq, true_and, and_true, List.cons.injEq, gt_iff_lt, ge_iff_le,  Bool.cond_true_left, Bool.cond_false_right, Bool.cond_true_right, Bool.cond_false_left, seq_iff, seq_dec, dec_f, dec_t, eqB_t, eqB_f] at *)
  all_goals (try (intros; trivial))
  all_goals (try (intros; omega))
  all_goals (try (rw [w64 (by omega) (by omega)]; first | done | omega))
  all_goals clear hC
  all_goals first
    | rfl
    | omega
    | (intro e; subst e; exact h rfl)
    | (intro e; subst e; simp at h; done)
    | (intro e; rw [e] at h; simp at h; done)
    | exact take_eq_end hi.2.2 (by omega) (by omega)
    | exact take_eq_step hi.2.2 (by omega) (by omega) (by assumption)
    | (simp only [decide_eq_true_eq]; exact take_eq_end hi.2.2 (by omega) (by omega))
    | exact h.1
    | exact h.1.1.1
    | exact h.1.1.2
    | exact h.1.2
    | exact hi.2.1.1
    | exact hi.2.1.2.1
    | exact hi.2.1.2.2.1
    | exact fmt_eq hi.2.1.1 (take_eq_end hi.2.2 (by omega) (by omega))
    | exact file_eq hi.2.1.1 hi.2.1.2.1 hi.2.1.2.2.1 (take_eq_end hi.2.2 (by omega) (by omega))
    | exact hp.1
    | exact hp.2.1
    | exact fun _ => hp.2.2
    | exact table_dec a b
end
noncomputable def cfg64 : Cfg := ⟨Try.prog, 17, tab83, (fun _ _ => []), [], (fun _ => none)⟩
theorem cfg64_ti83 : cfg64.ti 83 = none := rfl
theorem cfg64_ti84 : cfg64.ti 84 = none := rfl
theorem cfg64_pins : cfg64.pins = [] := rfl
theorem cfg64_P : cfg64.P = Try.prog := rfl
theorem cfg64_N : cfg64.N = 17 := rfl
theorem cfg64_T83 : cfg64.T 83 = e83 := rfl
theorem cfg64_mv83 : cfg64.mv 83 = (fun _ => []) := rfl
theorem cfg64_T84 : cfg64.T 84 = e84 := rfl
theorem cfg64_mv84 : cfg64.mv 84 = (fun _ => []) := rfl
section
attribute [local go_sem] cfg64_P cfg64_N cfg64_pins cfg64_ti83 cfg64_ti84 cfg64_T83 e83 cfg64_mv83 cfg64_T84 e84 cfg64_mv84 sz4 ag4 zr4 zo4 zd4 by4 sl4 st4 bo4 pt4 sz78 ag78 zr78 zo78 zd78 by78 el78 sl78 un78 st78 bo78 pt78 sz80 ag80 zr80 zd80 by80 sl80 st80 bo80 pt80 of80_0 fa80_0 of80_1 fa80_1 pl80 sz81 ag81 zr81 zo81 zd81 by81 el81 sl81 un81 st81 bo81 pt81 sz83 ag83 zr83 zd83 by83 sl83 st83 bo83 pt83 of83_0 fa83_0 of83_1 fa83_1 of83_2 fa83_2 of83_3 fa83_3 pl83 sz84 ag84 zr84 zo84 zd84 by84 el84 sl84 un84 st84 bo84 pt84 sz86 ag86 zr86 zd86 by86 sl86 st86 bo86 pt86 of86_0 fa86_0 of86_1 fa86_1 pl86 sz99 ag99 zr99 zd99 by99 sl99 st99 bo99 pt99 of99_0 fa99_0 of99_1 fa99_1 pl99 ek99 sz103 ag103 zr103 zd103 by103 sl103 st103 bo103 pt103 of103_0 fa103_0 of103_1 fa103_1 of103_2 fa103_2 pl103 ek103 sz105 ag105 zr105 zd105 by105 sl105 st105 bo105 pt105 of105_0 fa105_0 of105_1 fa105_1 pl105 ek105 sz108 ag108 zr108 zd108 by108 sl108 st108 bo108 pt108 of108_0 fa108_0 of108_1 fa108_1 pl108 ek108
theorem con64 (hC : COk cfg64) (a : Table) (b : Table) (hp : okT a) : Sem Try.prog 64 [.d (encTable a), .d (encTable b)] (.d (.b (decide (a = b)))) := by
  refine sem_of_awR (C := cfg64) (rs := [.tmp 4]) (fun _ => []) Try.func64 rfl rfl rfl rfl rfl rfl ?_
  simp only [enterSl, enterHp, inO, inO2, inO1, inOs, List.append_nil, List.nil_append, Nat.mul_zero, List.cons_append, Nat.zero_add, Nat.reduceAdd, Nat.reduceMul, encDType, encVal, List.length_map, encField, encFmt, encKField, encFile, encRec, encTable, encChange]
  repeat' first
    | (with_reducible first | refine thenS_n ?_ | refine inBlockS_n ?_ | refine AW.seq ?_ | refine AW.block ?_)
    | (with_reducible first | (refine AW.runK hC ?_; intro K hK) | (refine AW.drawK hC (by kernel_rfl) ?_; intro K hK))
    | ((with_reducible first | refine erun_g ?_ | refine edraw_g ?_ | refine exitS_g ?_); refine siQ ?_; (try simp (disch := omega) only [w64, wu8]))
    | (with_reducible refine hCheck_g (by kernel_rfl) ?_)
    | ((first | (refine AW.cond rfl (fun h => ?_) (fun h => ?_)) | (refine AW.cond_ub rfl (fun h => ?_) ?_) | (refine AW.cond_nb rfl ?_ (fun h => ?_))) <;> (try replace h := boolH h) <;> (try (exfalso; first | omega | exact absurd h (by decide))))
    | (with_reducible first | refine AW.skip ?_ | refine AW.exit ?_ | refine AW.ret ?_ | refine thenS_r ?_ | refine thenS_e ?_ | refine inBlockS_r ?_ | refine inBlockS_e ?_ | refine inBlockS_e2 rfl ?_ | refine exitQ_r ?_ | refine exitQ_n ?_)
    | (refine sub_auto ?_; refine subQ ?_)
    | (with_reducible refine And.intro ?_ ?_)
    | (subst hK)
    | exact trivial
  all_goals (try (intros; assumption))
  all_goals (try simp only [Bool.or_eq_true, Bool.and_eq_true, Bool.or_eq_false_iff, Bool.and_eq_false_iff, Bool.not_eq_true', Bool.not_eq_false', Bool.not_eq_true, Bool.not_eq_false, decide_eq_true_eq, decide_eq_false_iff_not, beq_iff_eq, bne_iff_ne, beq_eq_false_iff_ne, bne_eq_false_iff_eq, ne_eq, Int.not_lt, Int.not_le, D.b.injEq, D.i.injEq, D.s.injEq, D.agg.injEq, D.sl.injEq, true_and, and_true, List.cons.injEq, gt_iff_lt, ge_iff_le,  Bool.cond_true_left, Bool.cond_false_right, Bool.cond_true_right, Bool.cond_false_left, seq_iff, seq_dec, dec_f, dec_t, eqB_t, eqB_f] at *)
  all_goals (try (intros; trivial))
  all_goals (try (intros; omega))
  all_goals (try (rw [w64 (by omega) (by omega)]; first | done | omega))
  all_goals clear hC
  all_goals first
    | rfl
    | omega
    | (intro e; subst e; exact h rfl)
    | (intro e; subst e; simp at h; done)
    | (intro e; rw [e] at h; simp at h; done)
    | exact take_eq_end hi.2.2 (by omega) (by omega)
    | exact take_eq_step hi.2.2 (by omega) (by omega) (by assumption)
    | (simp only [decide_eq_true_eq]; exact take_eq_end hi.2.2 (by omega) (by omega))
    | exact h.1
    | exact h.1.1.1
    | exact h.1.1.2
    | exact h.1.2
    | exact hi.2.1.1
    | exact hi.2.1.2.1
    | exact hi.2.1.2.2.1
    | exact fmt_eq hi.2.1.1 (take_eq_end hi.2.2 (by omega) (by omega))
    | exact file_eq hi.2.1.1 hi.2.1.2.1 hi.2.1.2.2.1 (take_eq_end hi.2.2 (by omega) (by omega))
    | exact hp.1
    | exact hp.2.1
    | exact fun _ => hp.2.2
    | exact table_dec a b
end
noncomputable def cfg54 : Cfg := ⟨Try.prog, 7, tab64, (fun _ _ => []), [], (fun _ => none)⟩
theorem cfg54_pins : cfg54.pins = [] := rfl
theorem cfg54_P : cfg54.P = Try.prog := rfl
theorem cfg54_N : cfg54.N = 7 := rfl
section
attribute [local go_sem] cfg54_P cfg54_N cfg54_pins sz78 ag78 zr78 zo78 zd78 by78 el78 sl78 un78 st78 bo78 pt78 sz80 ag80 zr80 zd80 by80 sl80 st80 bo80 pt80 of80_0 fa80_0 of80_1 fa80_1 pl80 sz103 ag103 zr103 zd103 by103 sl103 st103 bo103 pt103 of103_0 fa103_0 of103_1 fa103_1 of103_2 fa103_2 pl103 ek103 sz105 ag105 zr105 zd105 by105 sl105 st105 bo105 pt105 of105_0 fa105_0 of105_1 fa105_1 pl105 ek105
theorem con54 (hC : COk cfg54) (f : Fmt) : Sem Try.prog 54 [.d (encFmt f)] (.d (.b (decide ((f.fields.length : Int) ≤ 22)))) := by
  refine sem_of_awR (C := cfg54) (rs := [.tmp 2]) (fun _ => []) Try.func54 rfl rfl rfl rfl rfl rfl ?_
  simp only [enterSl, enterHp, inO, inO2, inO1, inOs, List.append_nil, List.nil_append, Nat.mul_zero, List.cons_append, Nat.zero_add, Nat.reduceAdd, Nat.reduceMul, encDType, encVal, List.length_map, encField, encFmt, encKField, encFile, encRec, encTable, encChange]
  repeat' first
    | (with_reducible first | refine thenS_n ?_ | refine inBlockS_n ?_ | refine AW.seq ?_ | refine AW.block ?_)
    | (with_reducible first | (refine AW.runK hC ?_; intro K hK) | (refine AW.drawK hC (by kernel_rfl) ?_; intro K hK))
    | ((with_reducible first | refine erun_g ?_ | refine edraw_g ?_ | refine exitS_g ?_); refine siQ ?_; (try simp (disch := omega) only [w64, wu8]))
    | (with_reducible refine hCheck_g (by kernel_rfl) ?_)
    | ((first | (refine AW.cond rfl (fun h => ?_) (fun h => ?_)) | (refine AW.cond_ub rfl (fun h => ?_) ?_) | (refine AW.cond_nb rfl ?_ (fun h => ?_))) <;> (try replace h := boolH h) <;> (try (exfalso; first | omega | exact absurd h (by decide))))
    | (with_reducible first | refine AW.skip ?_ | refine AW.exit ?_ | refine AW.ret ?_ | refine thenS_r ?_ | refine thenS_e ?_ | refine inBlockS_r ?_ | refine inBlockS_e ?_ | refine inBlockS_e2 rfl ?_ | refine exitQ_r ?_ | refine exitQ_n ?_)
    | (refine sub_auto ?_; refine subQ ?_)
    | (with_reducible refine And.intro ?_ ?_)
    | (subst hK)
    | exact trivial
  all_goals (try (intros; assumption))
  all_goals (try simp only [Bool.or_eq_true, Bool.and_eq_true, Bool.or_eq_false_iff, Bool.and_eq_false_iff, Bool.not_eq_true', Bool.not_eq_false', Bool.not_eq_true, Bool.not_eq_false, decide_eq_true_eq, decide_eq_false_iff_not, beq_iff_eq, bne_iff_ne, beq_eq_false_iff_ne, bne_eq_false_iff_eq, ne_eq, Int.not_lt, Int.not_le, D.b.injEq, D.i.injEq, D.s.injEq, D.agg.injEq, D.sl.injEq, true_and, and_true, List.cons.injEq, gt_iff_lt, ge_iff_le,  Bool.cond_true_left, Bool.cond_false_right, Bool.cond_true_right, Bool.cond_false_left, seq_iff, seq_dec, dec_f, dec_t, eqB_t, eqB_f] at *)
  all_goals (try (intros; trivial))
  all_goals (try (intros; omega))
  all_goals (try (rw [w64 (by omega) (by omega)]; first | done | omega))
end
noncomputable def cfg42 : Cfg := ⟨Try.prog, 27, tab54, (fun _ _ => []), [], (fun _ => none)⟩
theorem cfg42_ti64 : cfg42.ti 64 = none := rfl
theorem cfg42_pins : cfg42.pins = [] := rfl
theorem cfg42_P : cfg42.P = Try.prog := rfl
theorem cfg42_N : cfg42.N = 27 := rfl
theorem cfg42_T64 : cfg42.T 64 = e64 := rfl
theorem cfg42_mv64 : cfg42.mv 64 = (fun _ => []) := rfl
section
attribute [local go_sem] cfg42_P cfg42_N cfg42_pins cfg42_ti64 cfg42_T64 e64 cfg42_mv64 sz4 ag4 zr4 zo4 zd4 by4 sl4 st4 bo4 pt4 sz43 ag43 zr43 zo43 zd43 by43 el43 sl43 un43 st43 bo43 pt43 sz78 ag78 zr78 zo78 zd78 by78 el78 sl78 un78 st78 bo78 pt78 sz80 ag80 zr80 zd80 by80 sl80 st80 bo80 pt80 of80_0 fa80_0 of80_1 fa80_1 pl80 sz81 ag81 zr81 zo81 zd81 by81 el81 sl81 un81 st81 bo81 pt81 sz83 ag83 zr83 zd83 by83 sl83 st83 bo83 pt83 of83_0 fa83_0 of83_1 fa83_1 of83_2 fa83_2 of83_3 fa83_3 pl83 sz84 ag84 zr84 zo84 zd84 by84 el84 sl84 un84 st84 bo84 pt84 sz86 ag86 zr86 zd86 by86 sl86 st86 bo86 pt86 of86_0 fa86_0 of86_1 fa86_1 pl86 sz99 ag99 zr99 zd99 by99 sl99 st99 bo99 pt99 of99_0 fa99_0 of99_1 fa99_1 pl99 ek99 sz103 ag103 zr103 zd103 by103 sl103 st103 bo103 pt103 of103_0 fa103_0 of103_1 fa103_1 of103_2 fa103_2 pl103 ek103 sz105 ag105 zr105 zd105 by105 sl105 st105 bo105 pt105 of105_0 fa105_0 of105_1 fa105_1 pl105 ek105 sz108 ag108 zr108 zd108 by108 sl108 st108 bo108 pt108 of108_0 fa108_0 of108_1 fa108_1 pl108 ek108
attribute [local go_sem] dL_Table dM_Table
theorem con42 (hC : COk cfg42) (a : List Table) (b : List Table) (hp : okTs a) : Sem Try.prog 42 [.d (.sl 6 (a.map encTable)), .d (.sl 6 (b.map encTable))] (.d (.b (decide (a = b)))) := by
  have hB : a.length ≤ 1000000 := hp.1
  refine sem_of_awR (C := cfg42) (rs := [.tmp 4]) (fun _ => []) Try.func42 rfl rfl rfl rfl rfl rfl ?_
  simp only [enterSl, enterHp, inO, inO2, inO1, inOs, List.append_nil, List.nil_append, Nat.mul_zero, List.cons_append, Nat.zero_add, Nat.reduceAdd, Nat.reduceMul, encDType, encVal, List.length_map, encField, encFmt, encKField, encFile, encRec, encTable, encChange]
  repeat' first
    | (with_reducible first | refine thenS_n ?_ | refine inBlockS_n ?_ | refine AW.seq ?_ | refine AW.block ?_)
    | (refine AW.atR 6 rfl ?_; have hga : ∀ z, (a.map encTable).getD i z = encTable (a.getD i zTable) := fun z => getD_mapT (by omega) z; have hgb : ∀ z, (b.map encTable).getD i z = encTable (b.getD i zTable) := fun z => getD_mapT (by omega) z)
    | (with_reducible first | (refine AWh.runK hC ?_; intro K hK) | (refine AWh.drawK hC (by kernel_rfl) ?_; intro K hK))
    | (with_reducible first | (refine AW.runK hC ?_; intro K hK) | (refine AW.drawK hC (by kernel_rfl) ?_; intro K hK))
    | ((with_reducible first | refine erun_g ?_ | refine edraw_g ?_ | refine exitS_g ?_); (first | (simp (maxSteps := 1000000) only [go_sem, ↓reduceIte, reduceCtorEq, Nat.reduceEqDiff, Nat.reduceLT, Nat.reduceLeDiff, Nat.reduceMul, Nat.reduceAdd, Nat.reduceSub, reduceDIte, Nat.reduceBEq, Nat.reduceBNe, hga, hgb]) | (refine siQ ?_)); (try simp (disch := omega) only [w64, wu8]))
    | (with_reducible refine hCheck_g (by kernel_rfl) ?_)
    | ((first | (refine AW.cond rfl (fun h => ?_) (fun h => ?_)) | (refine AW.cond_ub rfl (fun h => ?_) ?_) | (refine AW.cond_nb rfl ?_ (fun h => ?_))) <;> (try replace h := boolH h) <;> (try (exfalso; first | omega | exact absurd h (by decide))))
    | (with_reducible first | refine AW.skip ?_ | refine AW.exit ?_ | refine AW.ret ?_ | refine thenS_r ?_ | refine thenS_e ?_ | refine inBlockS_r ?_ | refine inBlockS_e ?_ | refine inBlockS_e2 rfl ?_ | refine exitQ_r ?_ | refine exitQ_n ?_)
    | (refine AW.loopN 4 rfl (ι := Nat) (fun i => mkS [(0, V.d (.sl 6 (a.map encTable))), (1, V.d (.sl 6 (b.map encTable))), (5, V.d (.i .i64 (i : Int)))] ([])) (fun i => i ≤ a.length ∧ a.length = b.length ∧ a.take i = b.take i) (fun i => a.length - i) (0) ?_ ?_ (fun i hi => ?_) <;> (try dsimp only) <;> (try dsimp only at hi))
    | (refine LoopNext.mk1 4 (i + 1) ?_ ?_ ?_ <;> (try dsimp only))
    | (refine sub_auto ?_; refine subQ ?_)
    | (with_reducible refine And.intro ?_ ?_)
    | (subst hK)
    | exact trivial
  all_goals (try (intros; assumption))
  all_goals (try simp only [Bool.or_eq_true, Bool.and_eq_true, Bool.or_eq_false_iff, Bool.and_eq_false_iff, Bool.not_eq_true', Bool.not_eq_false', Bool.not_eq_true, Bool.not_eq_false, decide_eq_true_eq, decide_eq_false_iff_not, beq_iff_eq, bne_iff_ne, beq_eq_false_iff_ne, bne_eq_false_iff_eq, ne_eq, Int.not_lt, Int.not_le, D.b.injEq, D.i.injEq, D.s.injEq, D.agg.injEq, D.sl.injEq, true_and, and_true, List.cons.injEq, gt_iff_lt, ge_iff_le,  Bool.cond_true_left, Bool.cond_false_right, Bool.cond_true_right, Bool.cond_false_left, seq_iff, seq_dec, dec_f, dec_t, eqB_t, eqB_f] at *)
  all_goals (try (intros; trivial))
  all_goals (try (intros; omega))
  all_goals (try (rw [w64 (by omega) (by omega)]; first | done | omega))
  all_goals clear hC
  all_goals first
    | rfl
    | omega
    | (intro e; subst e; exact h rfl)
    | (intro e; subst e; simp at h; done)
    | (intro e; rw [e] at h; simp at h; done)
    | exact take_eq_end hi.2.2 (by omega) (by omega)
    | exact take_eq_step hi.2.2 (by omega) (by omega) (by assumption)
    | (simp only [decide_eq_true_eq]; exact take_eq_end hi.2.2 (by omega) (by omega))
    | exact h.1
    | exact h.1.1.1
    | exact h.1.1.2
    | exact h.1.2
    | exact hi.2.1.1
    | exact hi.2.1.2.1
    | exact hi.2.1.2.2.1
    | exact fmt_eq hi.2.1.1 (take_eq_end hi.2.2 (by omega) (by omega))
    | exact file_eq hi.2.1.1 hi.2.1.2.1 hi.2.1.2.2.1 (take_eq_end hi.2.2 (by omega) (by omega))
    | exact (hp.2 i).1
    | exact (hp.2 i).2.1
    | exact (hp.2 i).2.2
    | exact hp.2 i
    | exact hp.1
    | exact hp.2.1
    | exact fun _ => hp.2.2
    | exact table_dec a b
end
noncomputable def cfg35 : Cfg := ⟨Try.prog, 62, tab42, (fun _ _ => []), [], (fun _ => none)⟩
theorem cfg35_ti54 : cfg35.ti 54 = none := rfl
theorem cfg35_pins : cfg35.pins = [] := rfl
theorem cfg35_P : cfg35.P = Try.prog := rfl
theorem cfg35_N : cfg35.N = 62 := rfl
theorem cfg35_T54 : cfg35.T 54 = e54 := rfl
theorem cfg35_mv54 : cfg35.mv 54 = (fun _ => []) := rfl
section
attribute [local go_sem] cfg35_P cfg35_N cfg35_pins cfg35_ti54 cfg35_T54 e54 cfg35_mv54 sz4 ag4 zr4 zo4 zd4 by4 sl4 st4 bo4 pt4 sz43 ag43 zr43 zo43 zd43 by43 el43 sl43 un43 st43 bo43 pt43 sz78 ag78 zr78 zo78 zd78 by78 el78 sl78 un78 st78 bo78 pt78 sz80 ag80 zr80 zd80 by80 sl80 st80 bo80 pt80 of80_0 fa80_0 of80_1 fa80_1 pl80 sz81 ag81 zr81 zo81 zd81 by81 el81 sl81 un81 st81 bo81 pt81 sz83 ag83 zr83 zd83 by83 sl83 st83 bo83 pt83 of83_0 fa83_0 of83_1 fa83_1 of83_2 fa83_2 of83_3 fa83_3 pl83 sz84 ag84 zr84 zo84 zd84 by84 el84 sl84 un84 st84 bo84 pt84 sz86 ag86 zr86 zd86 by86 sl86 st86 bo86 pt86 of86_0 fa86_0 of86_1 fa86_1 pl86 sz99 ag99 zr99 zd99 by99 sl99 st99 bo99 pt99 of99_0 fa99_0 of99_1 fa99_1 pl99 ek99 sz103 ag103 zr103 zd103 by103 sl103 st103 bo103 pt103 of103_0 fa103_0 of103_1 fa103_1 of103_2 fa103_2 pl103 ek103 sz105 ag105 zr105 zd105 by105 sl105 st105 bo105 pt105 of105_0 fa105_0 of105_1 fa105_1 pl105 ek105 sz108 ag108 zr108 zd108 by108 sl108 st108 bo108 pt108 of108_0 fa108_0 of108_1 fa108_1 pl108 ek108
attribute [local go_sem] dL_Table dM_Table
theorem con35 (hC : COk cfg35) (l : List Table) : Sem Try.prog 35 [.d (.sl 6 (l.map encTable))] (.d (.b (fewTs l))) := by
  refine sem_of_awR (C := cfg35) (rs := [.tmp 2]) (fun _ => []) Try.func35 rfl rfl rfl rfl rfl rfl ?_
  simp only [enterSl, enterHp, inO, inO2, inO1, inOs, List.append_nil, List.nil_append, Nat.mul_zero, List.cons_append, Nat.zero_add, Nat.reduceAdd, Nat.reduceMul, encDType, encVal, List.length_map, encField, encFmt, encKField, encFile, encRec, encTable, encChange]
  repeat' first
    | (with_reducible first | refine thenS_n ?_ | refine inBlockS_n ?_ | refine AW.seq ?_ | refine AW.block ?_)
    | (refine AW.atR 6 rfl ?_; have hg : ∀ z, (l.map encTable).getD i z = encTable (l.getD i zTable) := fun z => getD_mapT (by omega) z)
    | (with_reducible first | (refine AWh.runK hC ?_; intro K hK) | (refine AWh.drawK hC (by kernel_rfl) ?_; intro K hK))
    | (with_reducible first | (refine AW.runK hC ?_; intro K hK) | (refine AW.drawK hC (by kernel_rfl) ?_; intro K hK))
    | ((with_reducible first | refine erun_g ?_ | refine edraw_g ?_ | refine exitS_g ?_); (first | (simp (maxSteps := 1000000) only [go_sem, ↓reduceIte, reduceCtorEq, Nat.reduceEqDiff, Nat.reduceLT, Nat.reduceLeDiff, Nat.reduceMul, Nat.reduceAdd, Nat.reduceSub, reduceDIte, Nat.reduceBEq, Nat.reduceBNe, hg]) | (refine siQ ?_)); (try simp (disch := omega) only [w64, wu8]))
    | (with_reducible refine hCheck_g (by kernel_rfl) ?_)
    | ((first | (refine AW.cond rfl (fun h => ?_) (fun h => ?_)) | (refine AW.cond_ub rfl (fun h => ?_) ?_) | (refine AW.cond_nb rfl ?_ (fun h => ?_))) <;> (try replace h := boolH h) <;> (try (exfalso; first | omega | exact absurd h (by decide))))
    | (with_reducible first | refine AW.skip ?_ | refine AW.exit ?_ | refine AW.ret ?_ | refine thenS_r ?_ | refine thenS_e ?_ | refine inBlockS_r ?_ | refine inBlockS_e ?_ | refine inBlockS_e2 rfl ?_ | refine exitQ_r ?_ | refine exitQ_n ?_)
    | (refine AW.loopN 4 rfl (ι := Nat) (fun i => mkS [(0, V.d (.sl 6 (l.map encTable))), (3, V.d (.i .i64 (i : Int)))] ([])) (fun i => i ≤ l.length ∧ (l.length : Int) ≤ 10 ∧ ∀ j, j < i → tabBig l j = 0) (fun i => l.length - i) (0) ?_ ?_ (fun i hi => ?_) <;> (try dsimp only) <;> (try dsimp only at hi))
    | (refine LoopNext.mk1 4 (i + 1) ?_ ?_ ?_ <;> (try dsimp only))
    | (refine AW.loopN 9 rfl (ι := Nat) (fun k => mkS [(0, V.d (.sl 6 (l.map encTable))), (3, V.d (.i .i64 (i : Int))), (4, V.d (.i .i64 (k : Int)))] ([])) (fun k => k ≤ (l.getD i zTable).records.length ∧ ¬headBig (l.getD i zTable) ∧ ∀ j, j < k → recBig (l.getD i zTable) j = 0) (fun k => (l.getD i zTable).records.length - k) (0) ?_ ?_ (fun k hk => ?_) <;> (try dsimp only) <;> (try dsimp only at hk))
    | (refine LoopNext.mk1 9 (k + 1) ?_ ?_ ?_ <;> (try dsimp only))
    | (refine sub_auto ?_; refine subQ ?_)
    | (with_reducible refine And.intro ?_ ?_)
    | (subst hK)
    | exact trivial
  all_goals (try (intros; assumption))
  all_goals (try simp only [Bool.or_eq_true, Bool.and_eq_true, Bool.or_eq_false_iff, Bool.and_eq_false_iff, Bool.not_eq_true', Bool.not_eq_false', Bool.not_eq_true, Bool.not_eq_false, decide_eq_true_eq, decide_eq_false_iff_not, beq_iff_eq, bne_iff_ne, beq_eq_false_iff_ne, bne_eq_false_iff_eq, ne_eq, Int.not_lt, Int.not_le, D.b.injEq, D.i.injEq, D.s.injEq, D.agg.injEq, D.sl.injEq, true_and, and_true, List.cons.injEq, gt_iff_lt, ge_iff_le,  Bool.cond_true_left, Bool.cond_false_right, Bool.cond_true_right, Bool.cond_false_left, seq_iff, seq_dec, dec_f, dec_t, eqB_t, eqB_f] at *)
  all_goals (try (intros; trivial))
  all_goals (try (intros; omega))
  all_goals (try (rw [w64 (by omega) (by omega)]; first | done | omega))
  all_goals clear hC
  all_goals first
    | omega
    | rfl
    | (unfold headBig; omega)
    | (rw [few_many (by assumption)]; done)
    | (rw [few_bad hi.2.1 hi.2.2 (by omega) (tabBig_head (by unfold headBig; omega))]; done)
    | (rw [few_bad hi.2.1 hi.2.2 (by omega) (tabBig_rec hk.2.2 (by omega) (by assumption))]; done)
    | (rw [few_end hi.2.1 hi.2.2 (by omega)]; done)
    | exact all_step hk.2.2 (recBig_no (by assumption))
    | exact all_step hi.2.2 (tabBig_end hk.2.1 hk.2.2 (by omega))
    | (have := hk.2.1; unfold headBig at this; omega)
end
noncomputable def cfg18 : Cfg := ⟨Try.prog, 11, tab35, (fun _ _ => []), [], (fun _ => none)⟩
theorem cfg18_ti8 : cfg18.ti 8 = none := rfl
theorem cfg18_ti35 : cfg18.ti 35 = none := rfl
theorem cfg18_pins : cfg18.pins = [] := rfl
theorem cfg18_P : cfg18.P = Try.prog := rfl
theorem cfg18_N : cfg18.N = 11 := rfl
theorem cfg18_T8 : cfg18.T 8 = e8 := rfl
theorem cfg18_mv8 : cfg18.mv 8 = (fun _ => []) := rfl
theorem cfg18_T35 : cfg18.T 35 = e35 := rfl
theorem cfg18_mv35 : cfg18.mv 35 = (fun _ => []) := rfl
section
attribute [local go_sem] cfg18_P cfg18_N cfg18_pins cfg18_ti8 cfg18_ti35 cfg18_T8 e8 cfg18_mv8 cfg18_T35 e35 cfg18_mv35 sz4 ag4 zr4 zo4 zd4 by4 sl4 st4 bo4 pt4 sz22 ag22 zr22 zo22 zd22 by22 el22 sl22 un22 st22 bo22 pt22 sz43 ag43 zr43 zo43 zd43 by43 el43 sl43 un43 st43 bo43 pt43 sz49 ag49 zr49 zd49 by49 sl49 st49 bo49 pt49 of49_0 fa49_0 of49_1 fa49_1 of49_2 fa49_2 of49_3 fa49_3 of49_4 fa49_4 pl49 ek49 sz51 ag51 zr51 zd51 by51 sl51 st51 bo51 pt51 of51_0 fa51_0 of51_1 fa51_1 of51_2 fa51_2 of51_3 fa51_3 pl51 ek51 sz78 ag78 zr78 zo78 zd78 by78 el78 sl78 un78 st78 bo78 pt78 sz80 ag80 zr80 zd80 by80 sl80 st80 bo80 pt80 of80_0 fa80_0 of80_1 fa80_1 pl80 sz81 ag81 zr81 zo81 zd81 by81 el81 sl81 un81 st81 bo81 pt81 sz83 ag83 zr83 zd83 by83 sl83 st83 bo83 pt83 of83_0 fa83_0 of83_1 fa83_1 of83_2 fa83_2 of83_3 fa83_3 pl83 sz84 ag84 zr84 zo84 zd84 by84 el84 sl84 un84 st84 bo84 pt84 sz86 ag86 zr86 zd86 by86 sl86 st86 bo86 pt86 of86_0 fa86_0 of86_1 fa86_1 pl86 sz99 ag99 zr99 zd99 by99 sl99 st99 bo99 pt99 of99_0 fa99_0 of99_1 fa99_1 pl99 ek99 sz103 ag103 zr103 zd103 by103 sl103 st103 bo103 pt103 of103_0 fa103_0 of103_1 fa103_1 of103_2 fa103_2 pl103 ek103 sz105 ag105 zr105 zd105 by105 sl105 st105 bo105 pt105 of105_0 fa105_0 of105_1 fa105_1 pl105 ek105 sz108 ag108 zr108 zd108 by108 sl108 st108 bo108 pt108 of108_0 fa108_0 of108_1 fa108_1 pl108 ek108
attribute [local go_sem] dL_Table dM_Table encEntry decEntry etaEntry zfEntry getDz_Entry dL_Entry dM_Entry
theorem con18 (hC : COk cfg18) (ts : List Table) (l : List Entry) : Sem Try.prog 18 [.d (.sl 6 (ts.map encTable)), .d (.sl 8 (l.map encEntry))] (.d (.b (fewTs ts && few35 l))) := by
  refine sem_of_awR (C := cfg18) (rs := [.tmp 4]) (fun _ => []) Try.func18 rfl rfl rfl rfl rfl rfl ?_
  simp only [enterSl, enterHp, inO, inO2, inO1, inOs, List.append_nil, List.nil_append, Nat.mul_zero, List.cons_append, Nat.zero_add, Nat.reduceAdd, Nat.reduceMul, encDType, encVal, List.length_map, encField, encFmt, encKField, encFile, encRec, encTable, encChange, encEntry]
  repeat' first
    | (with_reducible first | refine thenS_n ?_ | refine inBlockS_n ?_ | refine AW.seq ?_ | refine AW.block ?_)
    | (with_reducible first | (refine AW.runK hC ?_; intro K hK) | (refine AW.drawK hC (by kernel_rfl) ?_; intro K hK))
    | ((with_reducible first | refine erun_g ?_ | refine edraw_g ?_ | refine exitS_g ?_); refine siQ ?_; (try simp (disch := omega) only [w64, wu8]))
    | (with_reducible refine hCheck_g (by kernel_rfl) ?_)
    | ((first | (refine AW.cond rfl (fun h => ?_) (fun h => ?_)) | (refine AW.cond_ub rfl (fun h => ?_) ?_) | (refine AW.cond_nb rfl ?_ (fun h => ?_))) <;> (try replace h := boolH h) <;> (try (exfalso; first | omega | exact absurd h (by decide))))
    | (with_reducible first | refine AW.skip ?_ | refine AW.exit ?_ | refine AW.ret ?_ | refine thenS_r ?_ | refine thenS_e ?_ | refine inBlockS_r ?_ | refine inBlockS_e ?_ | refine inBlockS_e2 rfl ?_ | refine exitQ_r ?_ | refine exitQ_n ?_)
    | (refine sub_auto ?_; refine subQ ?_)
    | (with_reducible refine And.intro ?_ ?_)
    | (subst hK)
    | exact trivial
  all_goals (try (intros; assumption))
  all_goals (try simp only [Bool.or_eq_true, Bool.and_eq_true, Bool.or_eq_false_iff, Bool.and_eq_false_iff, Bool.not_eq_true', Bool.not_eq_false', Bool.not_eq_true, Bool.not_eq_false, decide_eq_true_eq, decide_eq_false_iff_not, beq_iff_eq, bne_iff_ne, beq_eq_false_iff_ne, bne_eq_false_iff_eq, ne_eq, Int.not_lt, Int.not_le, D.b.injEq, D.i.injEq, D.s.injEq, D.agg.injEq, D.sl.injEq, true_and, and_true, List.cons.injEq, gt_iff_lt, ge_iff_le,  Bool.cond_true_left, Bool.cond_false_right, Bool.cond_true_right, Bool.cond_false_left, seq_iff, seq_dec, dec_f, dec_t, eqB_t, eqB_f] at *)
  all_goals (try (intros; trivial))
  all_goals (try (intros; omega))
  all_goals (try (rw [w64 (by omega) (by omega)]; first | done | omega))
end
end Go.Ev
