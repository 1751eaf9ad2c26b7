/- Tools and contracts under the laws of this seat: Dxc22, Dxc43, Dxc24, Dxc21, Dxc5, Dxc6. -/
import Derived.Test.YtkgkgcojfocomaaE09
set_option linter.unusedVariables false
set_option linter.unusedSimpArgs false
namespace Go.Ev
open Go.Proofs Ty
set_option maxRecDepth 10000
set_option maxHeartbeats 4000000
set_option linter.unusedSimpArgs false
set_option linter.unusedVariables false
attribute [local go_sem] erun_nil erun_cons edraw_eq edrun_nil edrun_cons e1_n e1_g guardSlot_eq lkAll_tmp lkAll_nil lkAll_const lkAll_func val_tmp val_const val_func aget getBox_mk getRow_mk liveRow_mk hp_mk eU_move_n eU_assign_n eU_move eU_assign eU_pick eU_alloc eU_box eU_load eU_store eU_nilCheck eU_binOp eU_unOp eU_fieldAddr eU_field eU_indexAddr eU_index eU_build eU_buildSlice eU_slice eU_extract eU_makeFunc eU_builtin eU_call eU_callv V.cells V.one D.one D.cells newObj nm HS.isFree HS.isLive andOk_some andOk_none List.map_cons List.map_nil Option.bind_some Option.bind_none putL List.cons_append List.nil_append thenS_normal thenS_ret thenS_exit inBlockS_normal inBlockS_ret inBlockS_exit true_and and_true justV justO cval Option.map_some Option.map_none loadAt storeAt ldV ldD mkAgg V.asD spliceL List.take_succ_cons List.take_zero List.drop_succ_cons List.drop_zero List.getElem?_cons_zero List.getElem?_cons_succ List.getElem?_nil List.all_cons List.all_nil Bool.and_true Bool.true_and Bool.and_self List.length_cons List.length_nil vals aopCall argsO argO toD3 toD2 toD1 toDs O.ok O.ok2 O.ok1 O.flat O.flat1 D.flat D.flatA inO inO2 inO1 inOs List.filterMap_nil List.filterMap_cons List.filter_nil List.filter_cons List.nodup_nil decide_true decide_false Bool.not_true Bool.not_false not_true_eq_false not_false_eq_true or_false false_or and_false false_and ne_eq List.append_nil optB guardQ guardRes beq_self_eq_true List.mapM_cons List.mapM_nil Option.pure_def Option.bind_eq_bind true_or or_true or_self callHp ite_self not_true not_false_iff ite_true ite_false if_true if_false Bool.false_eq_true Bool.true_eq_false List.any_nil List.any_cons List.contains_nil List.contains_cons eq_self aopAppend builtinV elems aopBin nilEqS nilEqP aopSlice bound natOf lenOf binD intBin unD bindEq eU_makeMap eU_convert eU_makeSlice aopConv aopMake isShift shiftD eU_lookup eU_mapUpdate getMp_mk List.range_zero Nat.zero_le Nat.zero_mul Nat.zero_add Nat.add_zero List.length_append List.take_length List.isEmpty_nil List.isEmpty_cons V.neg List.flatMap_nil and_self List.range_succ forall_const implies_true Nat.not_lt_zero exitQ_normal exitQ_ret exitS_eq exitO resVs resV_tmp resV_cell takeRow argCells mvAt dle_same dles_same ole_same ole oles dle dles List.nodup_cons List.mem_cons List.not_mem_nil List.drop_length Nat.le_refl Nat.lt_irrefl id_eq Option.some.injEq Bool.or_false Bool.false_or Bool.or_self Bool.or_true Bool.true_or false_implies Bool.and_false Bool.false_and List.reverse_cons List.reverse_nil sh1 mget1 mget aopLookup aopMapUpdate mapOf msetK msetV Option.isSome_some Option.isSome_none Bool.cond_true_left Bool.cond_false_right Bool.cond_true_right Bool.cond_false_left beq_true beq_false Bool.not_not imp_self guardVal notB strBin aopSliceS buildV argOk D.splice kEq Option.toList_some Option.toList_none adel List.getD_cons_zero List.getD_cons_succ bxIds bxId backHp hget one1 aopCall0 aopTurn
attribute [local go_sem] sz3 ag3 zr3 zo3 zd3 by3 sl3 st3 bo3 pt3 ck3 sz9 ag9 zr9 zo9 zd9 by9 sl9 un9 st9 bo9 pt9 ck9 encDType decDType etaDType zfDType encVal decVal etaVal zfVal Int.toNat_natCast chr_eq dL_int dM_int getDz_int decL_sl decM_cons decM_nil decI List.length_map nc0 bytesD_len bytesD_get encField decField etaField zfField encFmt decFmt etaFmt zfFmt encKField decKField etaKField zfKField encFile decFile etaFile zfFile encRec decRec etaRec zfRec getDz_Field getDz_KField getDz_Rec dL_Field dL_KField dL_Rec dM_Field dM_KField dM_Rec ceqField ceqKField ceqRec List.length_take decL_nil Int.toNat_zero Nat.sub_zero List.drop_zero encTable decTable etaTable zfTable encChange decChange etaChange zfChange dL_Change dM_Change List.length_set Nat.le_refl dL_Table dM_Table
attribute [local go_sem ←] List.map_take List.map_drop
noncomputable def cfg22 : Cfg := ⟨Try.prog, 25, tab18, (fun _ _ => []), [], (fun _ => none)⟩
theorem cfg22_ti10 : cfg22.ti 10 = none := rfl
theorem cfg22_pins : cfg22.pins = [] := rfl
theorem cfg22_P : cfg22.P = Try.prog := rfl
theorem cfg22_N : cfg22.N = 25 := rfl
theorem cfg22_T10 : cfg22.T 10 = e10 := rfl
theorem cfg22_mv10 : cfg22.mv 10 = (fun _ => []) := rfl
section
attribute [local go_sem] cfg22_P cfg22_N cfg22_pins cfg22_ti10 cfg22_T10 e10 cfg22_mv10 sz22 ag22 zr22 zo22 zd22 by22 el22 sl22 un22 st22 bo22 pt22 sz49 ag49 zr49 zd49 by49 sl49 st49 bo49 pt49 of49_0 fa49_0 of49_1 fa49_1 of49_2 fa49_2 of49_3 fa49_3 of49_4 fa49_4 pl49 ek49 sz51 ag51 zr51 zd51 by51 sl51 st51 bo51 pt51 of51_0 fa51_0 of51_1 fa51_1 of51_2 fa51_2 of51_3 fa51_3 pl51 ek51
attribute [local go_sem] encEntry decEntry etaEntry zfEntry getDz_Entry dL_Entry dM_Entry
theorem con22 (hC : COk cfg22) (l : List Entry) (n : Int) (hp : l.length ≤ 1000000) : Sem Try.prog 22 [.d (.sl 8 (l.map encEntry)), .d (.i .i64 n)] (.d (.sl 8 ((uptoL l n).map encEntry))) := by
  refine sem_of_awR (C := cfg22) (rs := [.tmp 4]) (fun _ => []) Try.func22 rfl rfl rfl rfl rfl rfl ?_
  simp only [enterSl, enterHp, inO, inO2, inO1, inOs, List.append_nil, List.nil_append, Nat.mul_zero, List.cons_append, Nat.zero_add, Nat.reduceAdd, Nat.reduceMul, encDType, encVal, List.length_map, encField, encFmt, encKField, encFile, encRec, encTable, encChange, encEntry]
  repeat' first
    | (with_reducible first | refine thenS_n ?_ | refine inBlockS_n ?_ | refine AW.seq ?_ | refine AW.block ?_)
    | (with_reducible first | (refine AW.runK hC ?_; intro K hK) | (refine AW.drawK hC (by kernel_rfl) ?_; intro K hK))
    | ((with_reducible first | refine erun_g ?_ | refine edraw_g ?_ | refine exitS_g ?_); refine siQ ?_; (try simp (disch := omega) only [w64, wu8]))
    | (with_reducible refine hCheck_g (by kernel_rfl) ?_)
    | ((first | (refine AW.cond rfl (fun h => ?_) (fun h => ?_)) | (refine AW.cond_ub rfl (fun h => ?_) ?_) | (refine AW.cond_nb rfl ?_ (fun h => ?_))) <;> (try replace h := boolH h) <;> (try (exfalso; first | omega | exact absurd h (by decide))))
    | (with_reducible first | refine AW.skip ?_ | refine AW.exit ?_ | refine AW.ret ?_ | refine thenS_r ?_ | refine thenS_e ?_ | refine inBlockS_r ?_ | refine inBlockS_e ?_ | refine inBlockS_e2 rfl ?_ | refine exitQ_r ?_ | refine exitQ_n ?_)
    | (refine AW.loopN 2 rfl (ι := Nat) (fun i => mkS [(0, V.d (.sl 8 (l.map encEntry))), (1, V.d (.i .i64 n)), (5, V.d (.i .i64 (i : Int)))] ([])) (fun i => i ≤ l.length ∧ ∀ j, j < i → decide ((l.getD j zEntry).number ≤ n) = true) (fun i => l.length - i) (0) ?_ ?_ (fun i hi => ?_) <;> (try dsimp only) <;> (try dsimp only at hi))
    | (refine LoopNext.mk1 2 (i + 1) ?_ ?_ ?_ <;> (try dsimp only))
    | (refine sub_auto ?_; refine subQ ?_)
    | (with_reducible refine And.intro ?_ ?_)
    | (subst hK)
    | exact trivial
  all_goals (try (intros; assumption))
  all_goals (try simp only [Bool.or_eq_true, Bool.and_eq_true, Bool.or_eq_false_iff, Bool.and_eq_false_iff, Bool.not_eq_true', Bool.not_eq_false', Bool.not_eq_true, Bool.not_eq_false, decide_eq_true_eq, decide_eq_false_iff_not, beq_iff_eq, bne_iff_ne, beq_eq_false_iff_ne, bne_eq_false_iff_eq, ne_eq, Int.not_lt, Int.not_le, D.b.injEq, D.i.injEq, D.s.injEq, D.agg.injEq, D.sl.injEq, true_and, and_true, List.cons.injEq, gt_iff_lt, ge_iff_le,  Bool.cond_true_left, Bool.cond_false_right, Bool.cond_true_right, Bool.cond_false_left, seq_iff, seq_dec, dec_f, dec_t, eqB_t, eqB_f] at *)
  all_goals (try (intros; trivial))
  all_goals (try (intros; omega))
  all_goals (try (rw [w64 (by omega) (by omega)]; first | done | omega))
  all_goals clear hC
  all_goals first
    | omega
    | (intro j hj; by_cases e : j = i; (subst e; exact h.2); exact hi.2 j (by omega))
    | (rw [uptoL, tw_take (fun e => decide (e.number ≤ n)) zEntry hi.2 hi.1 (by rcases h with h | h; left; omega; right; simp; omega)]; done)
    | (rw [uptoL, tw_take (fun e => decide (e.number ≤ n)) zEntry (i := i) (fun j hj => by simpa using hi.2 j hj) hi.1 (by rcases h with h | h; (left; omega); (right; simpa using h)), Nat.min_eq_left hi.1, List.take_take, Nat.min_self]; exact dles_refl _)
end
noncomputable def cfg43 : Cfg := ⟨Try.prog, 48, tab22, (fun _ _ => []), [], (fun _ => none)⟩
theorem cfg43_ti20 : cfg43.ti 20 = none := rfl
theorem cfg43_pins : cfg43.pins = [] := rfl
theorem cfg43_P : cfg43.P = Try.prog := rfl
theorem cfg43_N : cfg43.N = 48 := rfl
theorem cfg43_T20 : cfg43.T 20 = e20 := rfl
theorem cfg43_mv20 : cfg43.mv 20 = (fun _ => []) := rfl
section
attribute [local go_sem] cfg43_P cfg43_N cfg43_pins cfg43_ti20 cfg43_T20 e20 cfg43_mv20 sz4 ag4 zr4 zo4 zd4 by4 sl4 st4 bo4 pt4 sz43 ag43 zr43 zo43 zd43 by43 el43 sl43 un43 st43 bo43 pt43 sz78 ag78 zr78 zo78 zd78 by78 el78 sl78 un78 st78 bo78 pt78 sz80 ag80 zr80 zd80 by80 sl80 st80 bo80 pt80 of80_0 fa80_0 of80_1 fa80_1 pl80 sz81 ag81 zr81 zo81 zd81 by81 el81 sl81 un81 st81 bo81 pt81 sz83 ag83 zr83 zd83 by83 sl83 st83 bo83 pt83 of83_0 fa83_0 of83_1 fa83_1 of83_2 fa83_2 of83_3 fa83_3 pl83 sz84 ag84 zr84 zo84 zd84 by84 el84 sl84 un84 st84 bo84 pt84 sz86 ag86 zr86 zd86 by86 sl86 st86 bo86 pt86 of86_0 fa86_0 of86_1 fa86_1 pl86 sz99 ag99 zr99 zd99 by99 sl99 st99 bo99 pt99 of99_0 fa99_0 of99_1 fa99_1 pl99 ek99 sz103 ag103 zr103 zd103 by103 sl103 st103 bo103 pt103 of103_0 fa103_0 of103_1 fa103_1 of103_2 fa103_2 pl103 ek103 sz105 ag105 zr105 zd105 by105 sl105 st105 bo105 pt105 of105_0 fa105_0 of105_1 fa105_1 pl105 ek105 sz108 ag108 zr108 zd108 by108 sl108 st108 bo108 pt108 of108_0 fa108_0 of108_1 fa108_1 pl108 ek108
attribute [local go_sem] List.take_length
theorem con43 (hC : COk cfg43) (l : List Table) (hp : okTs l) : Sem Try.prog 43 [.d (.sl 6 (l.map encTable))] (.d (.sl 6 ((l.map trimT).map encTable))) := by
  have hB : l.length ≤ 1000000 := hp.1
  refine sem_of_awR (C := cfg43) (rs := [.tmp 2]) (fun _ => []) Try.func43 rfl rfl rfl rfl rfl rfl ?_
  simp only [enterSl, enterHp, inO, inO2, inO1, inOs, List.append_nil, List.nil_append, Nat.mul_zero, List.cons_append, Nat.zero_add, Nat.reduceAdd, Nat.reduceMul, encDType, encVal, List.length_map, encField, encFmt, encKField, encFile, encRec, encTable, encChange]
  repeat' first
    | (with_reducible first | refine thenS_n ?_ | refine inBlockS_n ?_ | refine AW.seq ?_ | refine AW.block ?_)
    | (refine AW.atR 5 rfl ?_; have TL := trimTo_len l i; have hg := trimTo_map (l := l) (i := i) (by omega); have hO := hp.2 i; have hR : (l.getD i zTable).records.length ≤ 1000000 := hO.2.2)
    | (refine AW.atR 6 rfl ?_; skip)
    | (with_reducible first | (refine AWh.runK hC ?_; intro K hK) | (refine AWh.drawK hC (by kernel_rfl) ?_; intro K hK))
    | (with_reducible first | (refine AW.runK hC ?_; intro K hK) | (refine AW.drawK hC (by kernel_rfl) ?_; intro K hK))
    | ((with_reducible first | refine erun_g ?_ | refine edraw_g ?_ | refine exitS_g ?_); (first | (simp (maxSteps := 1000000) only [go_sem, ↓reduceIte, reduceCtorEq, Nat.reduceEqDiff, Nat.reduceLT, Nat.reduceLeDiff, Nat.reduceMul, Nat.reduceAdd, Nat.reduceSub, reduceDIte, Nat.reduceBEq, Nat.reduceBNe, hg]) | (refine siQ ?_)); (try simp (disch := omega) only [w64, wu8]))
    | (with_reducible refine hCheck_g (by kernel_rfl) ?_)
    | ((first | (refine AW.cond rfl (fun h => ?_) (fun h => ?_)) | (refine AW.cond_ub rfl (fun h => ?_) ?_) | (refine AW.cond_nb rfl ?_ (fun h => ?_))) <;> (try replace h := boolH h) <;> (try (exfalso; first | omega | exact absurd h (by decide))))
    | (with_reducible first | refine AW.skip ?_ | refine AW.exit ?_ | refine AW.ret ?_ | refine thenS_r ?_ | refine thenS_e ?_ | refine inBlockS_r ?_ | refine inBlockS_e ?_ | refine inBlockS_e2 rfl ?_ | refine exitQ_r ?_ | refine exitQ_n ?_)
    | (refine AW.loopN 3 rfl (ι := Nat) (fun i => mkS [(3, V.row 112 6 0 (trimTo l i).length), (4, V.d (.i .i64 (i : Int)))] ([(112, .live (.row 86 6 false ((trimTo l i).map encTable)))])) (fun i => i ≤ l.length) (fun i => l.length - i) (0) ?_ ?_ (fun i hi => ?_) <;> (try dsimp only) <;> (try dsimp only at hi))
    | (refine LoopNext.mk1 3 (i + 1) ?_ ?_ ?_ <;> (try dsimp only))
    | (refine AW.loopN 6 rfl (ι := Nat) (fun n => mkS [(3, V.row 112 6 0 (trimTo l i).length), (4, V.d (.i .i64 (i : Int))), (5, V.d (.i .i64 (n : Int)))] ([(112, .live (.row 86 6 false ((trimTo l i).map encTable)))])) (fun n => n ≤ (l.getD i zTable).records.length ∧ ∀ j, n ≤ j → j < (l.getD i zTable).records.length → ((l.getD i zTable).records.getD j zRec).deleted = true) (fun n => n) ((l.getD i zTable).records.length) ?_ ?_ (fun n hn => ?_) <;> (try dsimp only) <;> (try dsimp only at hn))
    | (refine LoopNext.mk1 6 (n - 1) ?_ ?_ ?_ <;> (try dsimp only))
    | (refine sub_auto ?_; refine subQ ?_)
    | (with_reducible refine And.intro ?_ ?_)
    | (subst hK)
    | exact trivial
  all_goals (try (intros; assumption))
  all_goals (try simp only [Bool.or_eq_true, Bool.and_eq_true, Bool.or_eq_false_iff, Bool.and_eq_false_iff, Bool.not_eq_true', Bool.not_eq_false', Bool.not_eq_true, Bool.not_eq_false, decide_eq_true_eq, decide_eq_false_iff_not, beq_iff_eq, bne_iff_ne, beq_eq_false_iff_ne, bne_eq_false_iff_eq, ne_eq, Int.not_lt, Int.not_le, D.b.injEq, D.i.injEq, D.s.injEq, D.agg.injEq, D.sl.injEq, true_and, and_true, List.cons.injEq, gt_iff_lt, ge_iff_le,  Bool.cond_true_left, Bool.cond_false_right, Bool.cond_true_right, Bool.cond_false_left, seq_iff, seq_dec, dec_f, dec_t, eqB_t, eqB_f] at *)
  all_goals (try (intros; trivial))
  all_goals (try (intros; omega))
  all_goals (try (rw [w64 (by omega) (by omega)]; first | done | omega))
  all_goals clear hC
  all_goals (try have TL := trimTo_len l i)
  all_goals first
    | omega
    | exact dles_refl _
    | (rw [trimTo_end (by omega)]; exact dles_refl _)
    | (rw [trimTo_len, trimTo_len]; done)
    | (intro j hj hj2; by_cases e : n ≤ j; exact hn.2 j e hj2; (have := h.2; rw [show ((n : Int) - 1).toNat = j by omega] at this; exact this))
    | (have e := trim_at (l := (l.getD i zTable).records) hn.1 hn.2 (by rcases h with h | h; (left; omega); (by_cases h0 : n = 0; exact .inl h0; right; rw [show ((n : Int) - 1).toNat = n - 1 by omega] at h; exact h))
       rw [← trimTo_step (by omega), List.map_set, show trimT (l.getD i zTable) = ⟨(l.getD i zTable).file, (l.getD i zTable).records.take n⟩ from by unfold trimT; rw [e]]
       exact dles_refl _)
end
noncomputable def cfg24 : Cfg := ⟨Try.prog, 14, tab43, (fun _ _ => []), [], (fun _ => none)⟩
theorem cfg24_ti35 : cfg24.ti 35 = none := rfl
theorem cfg24_ti42 : cfg24.ti 42 = none := rfl
theorem cfg24_ti43 : cfg24.ti 43 = none := rfl
theorem cfg24_pins : cfg24.pins = [] := rfl
theorem cfg24_P : cfg24.P = Try.prog := rfl
theorem cfg24_N : cfg24.N = 14 := rfl
theorem cfg24_T35 : cfg24.T 35 = e35 := rfl
theorem cfg24_mv35 : cfg24.mv 35 = (fun _ => []) := rfl
theorem cfg24_T42 : cfg24.T 42 = e42 := rfl
theorem cfg24_mv42 : cfg24.mv 42 = (fun _ => []) := rfl
theorem cfg24_T43 : cfg24.T 43 = e43 := rfl
theorem cfg24_mv43 : cfg24.mv 43 = (fun _ => []) := rfl
section
attribute [local go_sem] cfg24_P cfg24_N cfg24_pins cfg24_ti35 cfg24_ti42 cfg24_ti43 cfg24_T35 e35 cfg24_mv35 cfg24_T42 e42 cfg24_mv42 cfg24_T43 e43 cfg24_mv43 sz4 ag4 zr4 zo4 zd4 by4 sl4 st4 bo4 pt4 sz43 ag43 zr43 zo43 zd43 by43 el43 sl43 un43 st43 bo43 pt43 sz78 ag78 zr78 zo78 zd78 by78 el78 sl78 un78 st78 bo78 pt78 sz80 ag80 zr80 zd80 by80 sl80 st80 bo80 pt80 of80_0 fa80_0 of80_1 fa80_1 pl80 sz81 ag81 zr81 zo81 zd81 by81 el81 sl81 un81 st81 bo81 pt81 sz83 ag83 zr83 zd83 by83 sl83 st83 bo83 pt83 of83_0 fa83_0 of83_1 fa83_1 of83_2 fa83_2 of83_3 fa83_3 pl83 sz84 ag84 zr84 zo84 zd84 by84 el84 sl84 un84 st84 bo84 pt84 sz86 ag86 zr86 zd86 by86 sl86 st86 bo86 pt86 of86_0 fa86_0 of86_1 fa86_1 pl86 sz99 ag99 zr99 zd99 by99 sl99 st99 bo99 pt99 of99_0 fa99_0 of99_1 fa99_1 pl99 ek99 sz103 ag103 zr103 zd103 by103 sl103 st103 bo103 pt103 of103_0 fa103_0 of103_1 fa103_1 of103_2 fa103_2 pl103 ek103 sz105 ag105 zr105 zd105 by105 sl105 st105 bo105 pt105 of105_0 fa105_0 of105_1 fa105_1 pl105 ek105 sz108 ag108 zr108 zd108 by108 sl108 st108 bo108 pt108 of108_0 fa108_0 of108_1 fa108_1 pl108 ek108
theorem con24 (hC : COk cfg24) (a : List Table) (b : List Table) (hp : okTs b) : Sem Try.prog 24 [.d (.sl 6 (a.map encTable)), .d (.sl 6 (b.map encTable))] (.d (.b (alikeT a b))) := by
  refine sem_of_awR (C := cfg24) (rs := [.tmp 4]) (fun _ => []) Try.func24 rfl rfl rfl rfl rfl rfl ?_
  simp only [enterSl, enterHp, inO, inO2, inO1, inOs, List.append_nil, List.nil_append, Nat.mul_zero, List.cons_append, Nat.zero_add, Nat.reduceAdd, Nat.reduceMul, encDType, encVal, List.length_map, encField, encFmt, encKField, encFile, encRec, encTable, encChange]
  repeat' first
    | (with_reducible first | refine thenS_n ?_ | refine inBlockS_n ?_ | refine AW.seq ?_ | refine AW.block ?_)
    | (with_reducible first | (refine AW.runK hC ?_; intro K hK) | (refine AW.drawK hC (by kernel_rfl) ?_; intro K hK))
    | ((with_reducible first | refine erun_g ?_ | refine edraw_g ?_ | refine exitS_g ?_); refine siQ ?_; (try simp (disch := omega) only [w64, wu8]))
    | (with_reducible refine hCheck_g (by kernel_rfl) ?_)
    | ((first | (refine AW.cond rfl (fun h => ?_) (fun h => ?_)) | (refine AW.cond_ub rfl (fun h => ?_) ?_) | (refine AW.cond_nb rfl ?_ (fun h => ?_))) <;> (try replace h := boolH h) <;> (try (exfalso; first | omega | exact absurd h (by decide))))
    | (with_reducible first | refine AW.skip ?_ | refine AW.exit ?_ | refine AW.ret ?_ | refine thenS_r ?_ | refine thenS_e ?_ | refine inBlockS_r ?_ | refine inBlockS_e ?_ | refine inBlockS_e2 rfl ?_ | refine exitQ_r ?_ | refine exitQ_n ?_)
    | (refine sub_auto ?_; refine subQ ?_)
    | (with_reducible refine And.intro ?_ ?_)
    | (subst hK)
    | exact trivial
  all_goals (try (intros; assumption))
  all_goals (try simp only [Bool.or_eq_true, Bool.and_eq_true, Bool.or_eq_false_iff, Bool.and_eq_false_iff, Bool.not_eq_true', Bool.not_eq_false', Bool.not_eq_true, Bool.not_eq_false, decide_eq_true_eq, decide_eq_false_iff_not, beq_iff_eq, bne_iff_ne, beq_eq_false_iff_ne, bne_eq_false_iff_eq, ne_eq, Int.not_lt, Int.not_le, D.b.injEq, D.i.injEq, D.s.injEq, D.agg.injEq, D.sl.injEq, true_and, and_true, List.cons.injEq, gt_iff_lt, ge_iff_le,  Bool.cond_true_left, Bool.cond_false_right, Bool.cond_true_right, Bool.cond_false_left, seq_iff, seq_dec, dec_f, dec_t, eqB_t, eqB_f] at *)
  all_goals (try (intros; trivial))
  all_goals (try (intros; omega))
  all_goals (try (rw [w64 (by omega) (by omega)]; first | done | omega))
  all_goals clear hC
  all_goals first
    | omega
    | exact fun h => (fewTs_ok h).1
    | exact fun _ => hp
    | exact fun h => okTs_trim (fewTs_ok h).1
end
noncomputable def cfg21 : Cfg := ⟨Try.prog, 114, tab24, (fun _ _ => []), [], (fun _ => none)⟩
theorem cfg21_ti10 : cfg21.ti 10 = none := rfl
theorem cfg21_ti15 : cfg21.ti 15 = none := rfl
theorem cfg21_pins : cfg21.pins = [] := rfl
theorem cfg21_P : cfg21.P = Try.prog := rfl
theorem cfg21_N : cfg21.N = 114 := rfl
theorem cfg21_T10 : cfg21.T 10 = e10 := rfl
theorem cfg21_mv10 : cfg21.mv 10 = (fun _ => []) := rfl
theorem cfg21_T15 : cfg21.T 15 = e15 := rfl
theorem cfg21_mv15 : cfg21.mv 15 = (fun _ => []) := rfl
section
attribute [local go_sem] cfg21_P cfg21_N cfg21_pins cfg21_ti10 cfg21_ti15 cfg21_T10 e10 cfg21_mv10 cfg21_T15 e15 cfg21_mv15 sz4 ag4 zr4 zo4 zd4 by4 sl4 st4 bo4 pt4 sz22 ag22 zr22 zo22 zd22 by22 el22 sl22 un22 st22 bo22 pt22 sz25 ag25 zr25 zo25 zd25 by25 sl25 st25 bo25 pt25 ck25 sz36 ag36 zr36 zo36 zd36 by36 el36 sl36 un36 st36 bo36 pt36 sz43 ag43 zr43 zo43 zd43 by43 el43 sl43 un43 st43 bo43 pt43 sz49 ag49 zr49 zd49 by49 sl49 st49 bo49 pt49 of49_0 fa49_0 of49_1 fa49_1 of49_2 fa49_2 of49_3 fa49_3 of49_4 fa49_4 pl49 ek49 sz51 ag51 zr51 zd51 by51 sl51 st51 bo51 pt51 of51_0 fa51_0 of51_1 fa51_1 of51_2 fa51_2 of51_3 fa51_3 pl51 ek51 sz78 ag78 zr78 zo78 zd78 by78 el78 sl78 un78 st78 bo78 pt78 sz80 ag80 zr80 zd80 by80 sl80 st80 bo80 pt80 of80_0 fa80_0 of80_1 fa80_1 pl80 sz81 ag81 zr81 zo81 zd81 by81 el81 sl81 un81 st81 bo81 pt81 sz83 ag83 zr83 zd83 by83 sl83 st83 bo83 pt83 of83_0 fa83_0 of83_1 fa83_1 of83_2 fa83_2 of83_3 fa83_3 pl83 sz84 ag84 zr84 zo84 zd84 by84 el84 sl84 un84 st84 bo84 pt84 sz86 ag86 zr86 zd86 by86 sl86 st86 bo86 pt86 of86_0 fa86_0 of86_1 fa86_1 pl86 sz99 ag99 zr99 zd99 by99 sl99 st99 bo99 pt99 of99_0 fa99_0 of99_1 fa99_1 pl99 ek99 sz103 ag103 zr103 zd103 by103 sl103 st103 bo103 pt103 of103_0 fa103_0 of103_1 fa103_1 of103_2 fa103_2 pl103 ek103 sz105 ag105 zr105 zd105 by105 sl105 st105 bo105 pt105 of105_0 fa105_0 of105_1 fa105_1 pl105 ek105 sz108 ag108 zr108 zd108 by108 sl108 st108 bo108 pt108 of108_0 fa108_0 of108_1 fa108_1 pl108 ek108
attribute [local go_sem] encEntry decEntry etaEntry zfEntry getDz_Entry dL_Entry dM_Entry getDz_str dL_str dM_str
theorem con21 (hC : COk cfg21) (ts : List Table) (l : List Entry) (c : Change) (hp : ts.length ≤ 1000000 ∧ l.length ≤ 1000000) : Sem Try.prog 21 [.d (.sl 6 (ts.map encTable)), .d (.sl 8 (l.map encEntry)), .d (encChange c)] (.d (.b (followsC ts l c))) := by
  refine sem_of_awR (C := cfg21) (rs := [.tmp 6]) (fun _ => []) Try.func21 rfl rfl rfl rfl rfl rfl ?_
  simp only [enterSl, enterHp, inO, inO2, inO1, inOs, List.append_nil, List.nil_append, Nat.mul_zero, List.cons_append, Nat.zero_add, Nat.reduceAdd, Nat.reduceMul, encDType, encVal, List.length_map, encField, encFmt, encKField, encFile, encRec, encTable, encChange, encEntry]
  repeat' first
    | (with_reducible first | refine thenS_n ?_ | refine inBlockS_n ?_ | refine AW.seq ?_ | refine AW.block ?_)
    | (refine AW.atR 5 rfl ?_; have hg : ∀ z, (ts.map encTable).getD i z = encTable (ts.getD i zTable) := fun z => getD_mapT (by omega) z)
    | (refine AW.atR 15 rfl ?_; have hcl := cnt_le (l := l) (c := c) (i := k); have hw : IntKind.i64.wrap ((cntM l c k : Int) + 1) = (cntM l c k : Int) + 1 := w64 (by omega) (by omega); have ht : ((cntM l c k : Int) + 1).toNat = cntM l c k + 1 := (by omega))
    | (with_reducible first | (refine AWh.runK hC ?_; intro K hK) | (refine AWh.drawK hC (by kernel_rfl) ?_; intro K hK))
    | (with_reducible first | (refine AW.runK hC ?_; intro K hK) | (refine AW.drawK hC (by kernel_rfl) ?_; intro K hK))
    | ((with_reducible first | refine erun_g ?_ | refine edraw_g ?_ | refine exitS_g ?_); (first | (simp (maxSteps := 1000000) only [go_sem, ↓reduceIte, reduceCtorEq, Nat.reduceEqDiff, Nat.reduceLT, Nat.reduceLeDiff, Nat.reduceMul, Nat.reduceAdd, Nat.reduceSub, reduceDIte, Nat.reduceBEq, Nat.reduceBNe, hg]) | (simp (maxSteps := 1000000) only [go_sem, ↓reduceIte, reduceCtorEq, Nat.reduceEqDiff, Nat.reduceLT, Nat.reduceLeDiff, Nat.reduceMul, Nat.reduceAdd, Nat.reduceSub, reduceDIte, Nat.reduceBEq, Nat.reduceBNe, hw, ht]) | (refine siQ ?_)); (try simp (disch := omega) only [w64, wu8]))
    | (with_reducible refine hCheck_g (by kernel_rfl) ?_)
    | ((first | (refine AW.cond rfl (fun h => ?_) (fun h => ?_)) | (refine AW.cond_ub rfl (fun h => ?_) ?_) | (refine AW.cond_nb rfl ?_ (fun h => ?_))) <;> (try replace h := boolH h) <;> (try (exfalso; first | omega | exact absurd h (by decide))))
    | (with_reducible first | refine AW.skip ?_ | refine AW.exit ?_ | refine AW.ret ?_ | refine thenS_r ?_ | refine thenS_e ?_ | refine inBlockS_r ?_ | refine inBlockS_e ?_ | refine inBlockS_e2 rfl ?_ | refine exitQ_r ?_ | refine exitQ_n ?_)
    | (refine AW.loopN 3 rfl (ι := Nat) (fun i => mkS [(0, V.d (.sl 6 (ts.map encTable))), (1, V.d (.sl 8 (l.map encEntry))), (5, V.ptr 80 0), (7, V.d (.b (thereT (ts.take i) c.file))), (8, V.d (.i .i64 (i : Int)))] ([(80, .live (.box 49 [.d (.s c.file), .d (.i .i64 c.kind), .d (.i .i64 c.rrn), .d (.s c.before), .d (.s c.after)]))])) (fun i => i ≤ ts.length) (fun i => ts.length - i) (0) ?_ ?_ (fun i hi => ?_) <;> (try dsimp only) <;> (try dsimp only at hi))
    | (refine LoopNext.mk1 3 (i + 1) ?_ ?_ ?_ <;> (try dsimp only))
    | (refine AW.loopN 11 rfl (ι := Nat) (fun k => mkS [(1, V.d (.sl 8 (l.map encEntry))), (5, V.ptr 80 0), (7, V.d (.b (thereT ts c.file))), (9, V.d (.sl 1 ((imagesC l c.file c.rrn).1.map D.s))), (11, V.d (.i .i64 (cntM l c k : Int))), (12, V.d (.i .i64 (k : Int)))] ([(80, .live (.box 49 [.d (.s c.file), .d (.i .i64 c.kind), .d (.i .i64 c.rrn), .d (.s c.before), .d (.s c.after)]))])) (fun k => k ≤ l.length ∧ ((imagesC l c.file c.rrn).2 = 0 ∧ 2 ≤ ((imagesC l c.file c.rrn).1.length : Int)) ∧ ∀ j, j < k → folBad (thereT ts c.file) (imagesC l c.file c.rrn).1 l c j = 0) (fun k => l.length - k) (0) ?_ ?_ (fun k hk => ?_) <;> (try dsimp only) <;> (try dsimp only at hk))
    | (refine LoopNext.mk1 11 (k + 1) ?_ ?_ ?_ <;> (try dsimp only))
    | (refine sub_auto ?_; refine subQ ?_)
    | (with_reducible refine And.intro ?_ ?_)
    | (subst hK)
    | exact trivial
  all_goals (try (intros; assumption))
  all_goals (try simp only [Bool.or_eq_true, Bool.and_eq_true, Bool.or_eq_false_iff, Bool.and_eq_false_iff, Bool.not_eq_true', Bool.not_eq_false', Bool.not_eq_true, Bool.not_eq_false, decide_eq_true_eq, decide_eq_false_iff_not, beq_iff_eq, bne_iff_ne, beq_eq_false_iff_ne, bne_eq_false_iff_eq, ne_eq, Int.not_lt, Int.not_le, D.b.injEq, D.i.injEq, D.s.injEq, D.agg.injEq, D.sl.injEq, true_and, and_true, List.cons.injEq, gt_iff_lt, ge_iff_le,  Bool.cond_true_left, Bool.cond_false_right, Bool.cond_true_right, Bool.cond_false_left, seq_iff, seq_dec, dec_f, dec_t, eqB_t, eqB_f] at *)
  all_goals (try (intros; trivial))
  all_goals (try (intros; omega))
  all_goals (try (rw [w64 (by omega) (by omega)]; first | done | omega))
  all_goals clear hC
  all_goals (try have CL := cnt_le (l := l) (c := c) (i := k))
  all_goals first
    | omega
    | exact there_take (by omega) _
    | exact fol_err (by assumption)
    | (rw [List.take_of_length_le (by omega)]; done)
    | exact all_step hk.2.2 (folBad_no (hits_no h))
    | (rw [cnt_no (by omega) (hits_no h)]; done)
    | (have hh : ((l.getD k zEntry).kind = 0 ∧ (l.getD k zEntry).change.file = c.file) ∧ (l.getD k zEntry).change.rrn = c.rrn := by assumption
       rw [cnt_yes (by omega) (by rw [hits_iff]; exact ⟨hh.1.1, hh.1.2, hh.2⟩)]; done)
    | (have hh : ((l.getD k zEntry).kind = 0 ∧ (l.getD k zEntry).change.file = c.file) ∧ (l.getD k zEntry).change.rrn = c.rrn := by assumption
       rw [cnt_yes (by omega) (by rw [hits_iff]; exact ⟨hh.1.1, hh.1.2, hh.2⟩)]; omega)
    | (have hh : ((l.getD k zEntry).kind = 0 ∧ (l.getD k zEntry).change.file = c.file) ∧ (l.getD k zEntry).change.rrn = c.rrn := by assumption
       rw [fol_bad hk.2.1 hk.2.2 (by omega) (by unfold folBad; rw [if_pos (by rw [hits_iff]; exact ⟨hh.1.1, hh.1.2, hh.2⟩), if_pos (by rcases h with (h | h) | h; exact .inl h; exact .inr (.inl h); exact .inr (.inr h))]; decide)]; done)
    | (have hh : ((l.getD k zEntry).kind = 0 ∧ (l.getD k zEntry).change.file = c.file) ∧ (l.getD k zEntry).change.rrn = c.rrn := by assumption
       exact all_step hk.2.2 (by unfold folBad; rw [if_pos (by rw [hits_iff]; exact ⟨hh.1.1, hh.1.2, hh.2⟩), if_neg (by rintro (q | q | q); omega; (rcases h.1.2 with e | e; (rw [e] at q; exact absurd q.1 (by decide)); exact q.2 e); exact q h.2)]))
    | (rw [fol_end hk.2.1 hk.2.2 (by omega)]; done)
    | (have IL := imc_len l c.file c.rrn; rw [fol_end hk.2.1 hk.2.2 (by omega), w64 (by omega) (by omega), Bool.eq_iff_iff]; simp; done)
end
noncomputable def cfg5 : Cfg := ⟨Try.prog, 61, tab21, (fun _ _ => []), [], (fun _ => none)⟩
theorem cfg5_ti7 : cfg5.ti 7 = none := rfl
theorem cfg5_ti10 : cfg5.ti 10 = none := rfl
theorem cfg5_ti18 : cfg5.ti 18 = none := rfl
theorem cfg5_ti19 : cfg5.ti 19 = none := rfl
theorem cfg5_ti20 : cfg5.ti 20 = none := rfl
theorem cfg5_ti21 : cfg5.ti 21 = none := rfl
theorem cfg5_pins : cfg5.pins = [] := rfl
theorem cfg5_P : cfg5.P = Try.prog := rfl
theorem cfg5_N : cfg5.N = 61 := rfl
theorem cfg5_T7 : cfg5.T 7 = e7 := rfl
theorem cfg5_mv7 : cfg5.mv 7 = (fun _ => []) := rfl
theorem cfg5_T10 : cfg5.T 10 = e10 := rfl
theorem cfg5_mv10 : cfg5.mv 10 = (fun _ => []) := rfl
theorem cfg5_T18 : cfg5.T 18 = e18 := rfl
theorem cfg5_mv18 : cfg5.mv 18 = (fun _ => []) := rfl
theorem cfg5_T19 : cfg5.T 19 = e19 := rfl
theorem cfg5_mv19 : cfg5.mv 19 = (fun _ => []) := rfl
theorem cfg5_T20 : cfg5.T 20 = e20 := rfl
theorem cfg5_mv20 : cfg5.mv 20 = (fun _ => []) := rfl
theorem cfg5_T21 : cfg5.T 21 = e21 := rfl
theorem cfg5_mv21 : cfg5.mv 21 = (fun _ => []) := rfl
section
attribute [local go_sem] cfg5_P cfg5_N cfg5_pins cfg5_ti7 cfg5_ti10 cfg5_ti18 cfg5_ti19 cfg5_ti20 cfg5_ti21 cfg5_T7 e7 cfg5_mv7 cfg5_T10 e10 cfg5_mv10 cfg5_T18 e18 cfg5_mv18 cfg5_T19 e19 cfg5_mv19 cfg5_T20 e20 cfg5_mv20 cfg5_T21 e21 cfg5_mv21 sz4 ag4 zr4 zo4 zd4 by4 sl4 st4 bo4 pt4 sz22 ag22 zr22 zo22 zd22 by22 el22 sl22 un22 st22 bo22 pt22 sz25 ag25 zr25 zo25 zd25 by25 sl25 st25 bo25 pt25 ck25 sz43 ag43 zr43 zo43 zd43 by43 el43 sl43 un43 st43 bo43 pt43 sz49 ag49 zr49 zd49 by49 sl49 st49 bo49 pt49 of49_0 fa49_0 of49_1 fa49_1 of49_2 fa49_2 of49_3 fa49_3 of49_4 fa49_4 pl49 ek49 sz51 ag51 zr51 zd51 by51 sl51 st51 bo51 pt51 of51_0 fa51_0 of51_1 fa51_1 of51_2 fa51_2 of51_3 fa51_3 pl51 ek51 sz78 ag78 zr78 zo78 zd78 by78 el78 sl78 un78 st78 bo78 pt78 sz80 ag80 zr80 zd80 by80 sl80 st80 bo80 pt80 of80_0 fa80_0 of80_1 fa80_1 pl80 sz81 ag81 zr81 zo81 zd81 by81 el81 sl81 un81 st81 bo81 pt81 sz83 ag83 zr83 zd83 by83 sl83 st83 bo83 pt83 of83_0 fa83_0 of83_1 fa83_1 of83_2 fa83_2 of83_3 fa83_3 pl83 sz84 ag84 zr84 zo84 zd84 by84 el84 sl84 un84 st84 bo84 pt84 sz86 ag86 zr86 zd86 by86 sl86 st86 bo86 pt86 of86_0 fa86_0 of86_1 fa86_1 pl86 sz99 ag99 zr99 zd99 by99 sl99 st99 bo99 pt99 of99_0 fa99_0 of99_1 fa99_1 pl99 ek99 sz103 ag103 zr103 zd103 by103 sl103 st103 bo103 pt103 of103_0 fa103_0 of103_1 fa103_1 of103_2 fa103_2 pl103 ek103 sz105 ag105 zr105 zd105 by105 sl105 st105 bo105 pt105 of105_0 fa105_0 of105_1 fa105_1 pl105 ek105 sz108 ag108 zr108 zd108 by108 sl108 st108 bo108 pt108 of108_0 fa108_0 of108_1 fa108_1 pl108 ek108
attribute [local go_sem] encEntry decEntry etaEntry zfEntry getDz_Entry dL_Entry dM_Entry
theorem con5 (hC : COk cfg5) (ts : List Table) (l : List Entry) : Sem Try.prog 5 [.d (.sl 6 (ts.map encTable)), .d (.sl 8 (l.map encEntry))] (.d (.b true)) := by
  refine sem_of_awR (C := cfg5) (rs := [.tmp 4]) (fun _ => []) Try.func5 rfl rfl rfl rfl rfl rfl ?_
  simp only [enterSl, enterHp, inO, inO2, inO1, inOs, List.append_nil, List.nil_append, Nat.mul_zero, List.cons_append, Nat.zero_add, Nat.reduceAdd, Nat.reduceMul, encDType, encVal, List.length_map, encField, encFmt, encKField, encFile, encRec, encTable, encChange, encEntry]
  repeat' first
    | (with_reducible first | refine thenS_n ?_ | refine inBlockS_n ?_ | refine AW.seq ?_ | refine AW.block ?_)
    | (refine AW.atR 5 rfl ?_; have HF : fewTs ts = true ∧ few35 l = true := (by grind); have FL := few35_len HF.2; have FT := (fewTs_ok HF.1).1; have hj : ((l.length : Int) - 1).toNat = l.length - 1 := (by omega))
    | (with_reducible first | (refine AWh.runK hC ?_; intro K hK) | (refine AWh.drawK hC (by kernel_rfl) ?_; intro K hK))
    | (with_reducible first | (refine AW.runK hC ?_; intro K hK) | (refine AW.drawK hC (by kernel_rfl) ?_; intro K hK))
    | ((with_reducible first | refine erun_g ?_ | refine edraw_g ?_ | refine exitS_g ?_); (first | (simp (maxSteps := 1000000) only [go_sem, ↓reduceIte, reduceCtorEq, Nat.reduceEqDiff, Nat.reduceLT, Nat.reduceLeDiff, Nat.reduceMul, Nat.reduceAdd, Nat.reduceSub, reduceDIte, Nat.reduceBEq, Nat.reduceBNe, hj]) | (refine siQ ?_)); (try simp (disch := omega) only [w64, wu8]))
    | (with_reducible refine hCheck_g (by kernel_rfl) ?_)
    | ((first | (refine AW.cond rfl (fun h => ?_) (fun h => ?_)) | (refine AW.cond_ub rfl (fun h => ?_) ?_) | (refine AW.cond_nb rfl ?_ (fun h => ?_))) <;> (try replace h := boolH h) <;> (try (exfalso; first | omega | exact absurd h (by decide))))
    | (with_reducible first | refine AW.skip ?_ | refine AW.exit ?_ | refine AW.ret ?_ | refine thenS_r ?_ | refine thenS_e ?_ | refine inBlockS_r ?_ | refine inBlockS_e ?_ | refine inBlockS_e2 rfl ?_ | refine exitQ_r ?_ | refine exitQ_n ?_)
    | (refine AW.loopN 9 rfl (ι := Nat) (fun i => mkS [(0, V.d (.sl 6 (ts.map encTable))), (1, V.d (.sl 8 (l.map encEntry))), (8, V.d (.i .i64 (i : Int)))] ([])) (fun i => i ≤ l.length) (fun i => l.length - i) (0) ?_ ?_ (fun i hi => ?_) <;> (try dsimp only) <;> (try dsimp only at hi))
    | (refine LoopNext.mk1 9 (i + 1) ?_ ?_ ?_ <;> (try dsimp only))
    | (refine sub_auto ?_; refine subQ ?_)
    | (with_reducible refine And.intro ?_ ?_)
    | (subst hK)
    | exact trivial
  all_goals (try (intros; assumption))
  all_goals (try simp only [Bool.or_eq_true, Bool.and_eq_true, Bool.or_eq_false_iff, Bool.and_eq_false_iff, Bool.not_eq_true', Bool.not_eq_false', Bool.not_eq_true, Bool.not_eq_false, decide_eq_true_eq, decide_eq_false_iff_not, beq_iff_eq, bne_iff_ne, beq_eq_false_iff_ne, bne_eq_false_iff_eq, ne_eq, Int.not_lt, Int.not_le, D.b.injEq, D.i.injEq, D.s.injEq, D.agg.injEq, D.sl.injEq, true_and, and_true, List.cons.injEq, gt_iff_lt, ge_iff_le,  Bool.cond_true_left, Bool.cond_false_right, Bool.cond_true_right, Bool.cond_false_left, seq_iff, seq_dec, dec_f, dec_t, eqB_t, eqB_f] at *)
  all_goals (try (intros; trivial))
  all_goals (try (intros; omega))
  all_goals (try (rw [w64 (by omega) (by omega)]; first | done | omega))
  all_goals clear hC
  all_goals first
    | omega
    | exact FT
    | exact FT.1
    | exact fun _ => ⟨FT.1, by omega⟩
    | exact absurd h.2 (by rw [follows_ok (by assumption) (by omega) h.1]; decide)
end
noncomputable def cfg6 : Cfg := ⟨Try.prog, 109, tab5, (fun _ _ => []), [], (fun _ => none)⟩
theorem cfg6_ti7 : cfg6.ti 7 = none := rfl
theorem cfg6_ti10 : cfg6.ti 10 = none := rfl
theorem cfg6_ti18 : cfg6.ti 18 = none := rfl
theorem cfg6_ti19 : cfg6.ti 19 = none := rfl
theorem cfg6_ti20 : cfg6.ti 20 = none := rfl
theorem cfg6_ti22 : cfg6.ti 22 = none := rfl
theorem cfg6_ti23 : cfg6.ti 23 = none := rfl
theorem cfg6_ti24 : cfg6.ti 24 = none := rfl
theorem cfg6_pins : cfg6.pins = [] := rfl
theorem cfg6_P : cfg6.P = Try.prog := rfl
theorem cfg6_N : cfg6.N = 109 := rfl
theorem cfg6_T7 : cfg6.T 7 = e7 := rfl
theorem cfg6_mv7 : cfg6.mv 7 = (fun _ => []) := rfl
theorem cfg6_T10 : cfg6.T 10 = e10 := rfl
theorem cfg6_mv10 : cfg6.mv 10 = (fun _ => []) := rfl
theorem cfg6_T18 : cfg6.T 18 = e18 := rfl
theorem cfg6_mv18 : cfg6.mv 18 = (fun _ => []) := rfl
theorem cfg6_T19 : cfg6.T 19 = e19 := rfl
theorem cfg6_mv19 : cfg6.mv 19 = (fun _ => []) := rfl
theorem cfg6_T20 : cfg6.T 20 = e20 := rfl
theorem cfg6_mv20 : cfg6.mv 20 = (fun _ => []) := rfl
theorem cfg6_T22 : cfg6.T 22 = e22 := rfl
theorem cfg6_mv22 : cfg6.mv 22 = (fun _ => []) := rfl
theorem cfg6_T23 : cfg6.T 23 = e23 := rfl
theorem cfg6_mv23 : cfg6.mv 23 = (fun _ => []) := rfl
theorem cfg6_T24 : cfg6.T 24 = e24 := rfl
theorem cfg6_mv24 : cfg6.mv 24 = (fun _ => []) := rfl
section
attribute [local go_sem] cfg6_P cfg6_N cfg6_pins cfg6_ti7 cfg6_ti10 cfg6_ti18 cfg6_ti19 cfg6_ti20 cfg6_ti22 cfg6_ti23 cfg6_ti24 cfg6_T7 e7 cfg6_mv7 cfg6_T10 e10 cfg6_mv10 cfg6_T18 e18 cfg6_mv18 cfg6_T19 e19 cfg6_mv19 cfg6_T20 e20 cfg6_mv20 cfg6_T22 e22 cfg6_mv22 cfg6_T23 e23 cfg6_mv23 cfg6_T24 e24 cfg6_mv24 sz4 ag4 zr4 zo4 zd4 by4 sl4 st4 bo4 pt4 sz22 ag22 zr22 zo22 zd22 by22 el22 sl22 un22 st22 bo22 pt22 sz25 ag25 zr25 zo25 zd25 by25 sl25 st25 bo25 pt25 ck25 sz43 ag43 zr43 zo43 zd43 by43 el43 sl43 un43 st43 bo43 pt43 sz49 ag49 zr49 zd49 by49 sl49 st49 bo49 pt49 of49_0 fa49_0 of49_1 fa49_1 of49_2 fa49_2 of49_3 fa49_3 of49_4 fa49_4 pl49 ek49 sz51 ag51 zr51 zd51 by51 sl51 st51 bo51 pt51 of51_0 fa51_0 of51_1 fa51_1 of51_2 fa51_2 of51_3 fa51_3 pl51 ek51 sz78 ag78 zr78 zo78 zd78 by78 el78 sl78 un78 st78 bo78 pt78 sz80 ag80 zr80 zd80 by80 sl80 st80 bo80 pt80 of80_0 fa80_0 of80_1 fa80_1 pl80 sz81 ag81 zr81 zo81 zd81 by81 el81 sl81 un81 st81 bo81 pt81 sz83 ag83 zr83 zd83 by83 sl83 st83 bo83 pt83 of83_0 fa83_0 of83_1 fa83_1 of83_2 fa83_2 of83_3 fa83_3 pl83 sz84 ag84 zr84 zo84 zd84 by84 el84 sl84 un84 st84 bo84 pt84 sz86 ag86 zr86 zd86 by86 sl86 st86 bo86 pt86 of86_0 fa86_0 of86_1 fa86_1 pl86 sz99 ag99 zr99 zd99 by99 sl99 st99 bo99 pt99 of99_0 fa99_0 of99_1 fa99_1 pl99 ek99 sz103 ag103 zr103 zd103 by103 sl103 st103 bo103 pt103 of103_0 fa103_0 of103_1 fa103_1 of103_2 fa103_2 pl103 ek103 sz105 ag105 zr105 zd105 by105 sl105 st105 bo105 pt105 of105_0 fa105_0 of105_1 fa105_1 pl105 ek105 sz108 ag108 zr108 zd108 by108 sl108 st108 bo108 pt108 of108_0 fa108_0 of108_1 fa108_1 pl108 ek108
attribute [local go_sem] encEntry decEntry etaEntry zfEntry getDz_Entry dL_Entry dM_Entry
theorem con6 (hC : COk cfg6) (ts : List Table) (l : List Entry) (n : Int) : Sem Try.prog 6 [.d (.sl 6 (ts.map encTable)), .d (.sl 8 (l.map encEntry)), .d (.i .i64 n)] (.d (.b true)) := by
  refine sem_of_awR (C := cfg6) (rs := [.tmp 6]) (fun _ => []) Try.func6 rfl rfl rfl rfl rfl rfl ?_
  simp only [enterSl, enterHp, inO, inO2, inO1, inOs, List.append_nil, List.nil_append, Nat.mul_zero, List.cons_append, Nat.zero_add, Nat.reduceAdd, Nat.reduceMul, encDType, encVal, List.length_map, encField, encFmt, encKField, encFile, encRec, encTable, encChange, encEntry]
  repeat' first
    | (with_reducible first | refine thenS_n ?_ | refine inBlockS_n ?_ | refine AW.seq ?_ | refine AW.block ?_)
    | (refine AW.atR 5 rfl ?_; have HF : fewTs ts = true ∧ few35 l = true := (by grind); have FL := few35_len HF.2; have FT := (fewTs_ok HF.1).1; have hj : ((l.length : Int) - 1).toNat = l.length - 1 := (by omega))
    | (with_reducible first | (refine AWh.runK hC ?_; intro K hK) | (refine AWh.drawK hC (by kernel_rfl) ?_; intro K hK))
    | (with_reducible first | (refine AW.runK hC ?_; intro K hK) | (refine AW.drawK hC (by kernel_rfl) ?_; intro K hK))
    | ((with_reducible first | refine erun_g ?_ | refine edraw_g ?_ | refine exitS_g ?_); (first | (simp (maxSteps := 1000000) only [go_sem, ↓reduceIte, reduceCtorEq, Nat.reduceEqDiff, Nat.reduceLT, Nat.reduceLeDiff, Nat.reduceMul, Nat.reduceAdd, Nat.reduceSub, reduceDIte, Nat.reduceBEq, Nat.reduceBNe, hj]) | (refine siQ ?_)); (try simp (disch := omega) only [w64, wu8]))
    | (with_reducible refine hCheck_g (by kernel_rfl) ?_)
    | ((first | (refine AW.cond rfl (fun h => ?_) (fun h => ?_)) | (refine AW.cond_ub rfl (fun h => ?_) ?_) | (refine AW.cond_nb rfl ?_ (fun h => ?_))) <;> (try replace h := boolH h) <;> (try (exfalso; first | omega | exact absurd h (by decide))))
    | (with_reducible first | refine AW.skip ?_ | refine AW.exit ?_ | refine AW.ret ?_ | refine thenS_r ?_ | refine thenS_e ?_ | refine inBlockS_r ?_ | refine inBlockS_e ?_ | refine inBlockS_e2 rfl ?_ | refine exitQ_r ?_ | refine exitQ_n ?_)
    | (refine sub_auto ?_; refine subQ ?_)
    | (with_reducible refine And.intro ?_ ?_)
    | (subst hK)
    | exact trivial
  all_goals (try (intros; assumption))
  all_goals (try simp only [Bool.or_eq_true, Bool.and_eq_true, Bool.or_eq_false_iff, Bool.and_eq_false_iff, Bool.not_eq_true', Bool.not_eq_false', Bool.not_eq_true, Bool.not_eq_false, decide_eq_true_eq, decide_eq_false_iff_not, beq_iff_eq, bne_iff_ne, beq_eq_false_iff_ne, bne_eq_false_iff_eq, ne_eq, Int.not_lt, Int.not_le, D.b.injEq, D.i.injEq, D.s.injEq, D.agg.injEq, D.sl.injEq, true_and, and_true, List.cons.injEq, gt_iff_lt, ge_iff_le,  Bool.cond_true_left, Bool.cond_false_right, Bool.cond_true_right, Bool.cond_false_left, seq_iff, seq_dec, dec_f, dec_t, eqB_t, eqB_f] at *)
  all_goals (try (intros; trivial))
  all_goals (try (intros; omega))
  all_goals (try (rw [w64 (by omega) (by omega)]; first | done | omega))
  all_goals clear hC
  all_goals first
    | omega
    | exact FT
    | exact FT.1
    | exact fun _ => ⟨FT.1, by omega⟩
    | exact okTs_apply FT
    | exact fun _ => okTs_apply FT
    | (have := upto_len l n; omega)
    | (have hb := back_some (ts := ts) (l := l) (n := n) (by assumption) (by omega)
       exact absurd h (by rintro ((q | q) | q); exact q hb.1; exact q hb.2.1; (rw [hb.2.2] at q; cases q)))
    | (have hn := apply_num (ts := ts) (l := l) (n := n) (by omega) (by assumption)
       have hb := back_all (ts := ts) (l := l) (n := n) (by omega) (by assumption) (by assumption)
       rw [w64 (by omega) (by omega), hb.1, hb.2]; rfl)
end
end Go.Ev
