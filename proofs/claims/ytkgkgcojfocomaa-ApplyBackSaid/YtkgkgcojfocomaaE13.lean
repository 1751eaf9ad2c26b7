/- Tools and contracts under the laws of this seat: Dxc11 to Dxc113. -/
import Derived.Test.YtkgkgcojfocomaaE05
import Derived.Test.YtkgkgcojfocomaaE12
set_option linter.unusedVariables false
set_option linter.unusedSimpArgs false
namespace Go.Ev
open Go.Proofs Ty
set_option maxRecDepth 10000
set_option maxHeartbeats 4000000
set_option linter.unusedSimpArgs false
set_option linter.unusedVariables false
attribute [local go_sem] erun_nil erun_cons edraw_eq edrun_nil edrun_cons e1_n e1_g guardSlot_eq lkAll_tmp lkAll_nil lkAll_const lkAll_func val_tmp val_const val_func aget getBox_mk getRow_mk liveRow_mk hp_mk eU_move_n eU_assign_n eU_move eU_assign eU_pick eU_alloc eU_box eU_load eU_store eU_nilCheck eU_binOp eU_unOp eU_fieldAddr eU_field eU_indexAddr eU_index eU_build eU_buildSlice eU_slice eU_extract eU_makeFunc eU_builtin eU_call eU_callv V.cells V.one D.one D.cells newObj nm HS.isFree HS.isLive andOk_some andOk_none List.map_cons List.map_nil Option.bind_some Option.bind_none putL List.cons_append List.nil_append thenS_normal thenS_ret thenS_exit inBlockS_normal inBlockS_ret inBlockS_exit true_and and_true justV justO cval Option.map_some Option.map_none loadAt storeAt ldV ldD mkAgg V.asD spliceL List.take_succ_cons List.take_zero List.drop_succ_cons List.drop_zero List.getElem?_cons_zero List.getElem?_cons_succ List.getElem?_nil List.all_cons List.all_nil Bool.and_true Bool.true_and Bool.and_self List.length_cons List.length_nil vals aopCall argsO argO toD3 toD2 toD1 toDs O.ok O.ok2 O.ok1 O.flat O.flat1 D.flat D.flatA inO inO2 inO1 inOs List.filterMap_nil List.filterMap_cons List.filter_nil List.filter_cons List.nodup_nil decide_true decide_false Bool.not_true Bool.not_false not_true_eq_false not_false_eq_true or_false false_or and_false false_and ne_eq List.append_nil optB guardQ guardRes beq_self_eq_true List.mapM_cons List.mapM_nil Option.pure_def Option.bind_eq_bind true_or or_true or_self callHp ite_self not_true not_false_iff ite_true ite_false if_true if_false Bool.false_eq_true Bool.true_eq_false List.any_nil List.any_cons List.contains_nil List.contains_cons eq_self aopAppend builtinV elems aopBin nilEqS nilEqP aopSlice bound natOf lenOf binD intBin unD bindEq eU_makeMap eU_convert eU_makeSlice aopConv aopMake isShift shiftD eU_lookup eU_mapUpdate getMp_mk List.range_zero Nat.zero_le Nat.zero_mul Nat.zero_add Nat.add_zero List.length_append List.take_length List.isEmpty_nil List.isEmpty_cons V.neg List.flatMap_nil and_self List.range_succ forall_const implies_true Nat.not_lt_zero exitQ_normal exitQ_ret exitS_eq exitO resVs resV_tmp resV_cell takeRow argCells mvAt dle_same dles_same ole_same ole oles dle dles List.nodup_cons List.mem_cons List.not_mem_nil List.drop_length Nat.le_refl Nat.lt_irrefl id_eq Option.some.injEq Bool.or_false Bool.false_or Bool.or_self Bool.or_true Bool.true_or false_implies Bool.and_false Bool.false_and List.reverse_cons List.reverse_nil sh1 mget1 mget aopLookup aopMapUpdate mapOf msetK msetV Option.isSome_some Option.isSome_none Bool.cond_true_left Bool.cond_false_right Bool.cond_true_right Bool.cond_false_left beq_true beq_false Bool.not_not imp_self guardVal notB strBin aopSliceS buildV argOk D.splice kEq Option.toList_some Option.toList_none adel List.getD_cons_zero List.getD_cons_succ bxIds bxId backHp hget one1 aopCall0 aopTurn
noncomputable def cfg11 : Cfg := ⟨Try.prog, 34, tab10, (fun _ _ => []), [], (fun _ => none)⟩
theorem cfg11_ti25 : cfg11.ti 25 = none := rfl
theorem cfg11_ti26 : cfg11.ti 26 = none := rfl
theorem cfg11_ti27 : cfg11.ti 27 = none := rfl
theorem cfg11_pins : cfg11.pins = [] := rfl
theorem cfg11_P : cfg11.P = Try.prog := rfl
theorem cfg11_N : cfg11.N = 34 := rfl
theorem cfg11_T25 : cfg11.T 25 = e25 := rfl
theorem cfg11_mv25 : cfg11.mv 25 = (fun _ => []) := rfl
section
attribute [local go_sem] cfg11_P cfg11_N cfg11_pins cfg11_ti25 cfg11_ti26 cfg11_ti27 cfg11_T25 e25 cfg11_mv25 sz3 ag3 zr3 zo3 zd3 by3 sl3 st3 bo3 pt3 ck3 sz9 ag9 zr9 zo9 zd9 by9 sl9 un9 st9 bo9 pt9 ck9 sz22 ag22 zr22 zo22 zd22 by22 el22 sl22 un22 st22 bo22 pt22 sz25 ag25 zr25 zo25 zd25 by25 sl25 st25 bo25 pt25 ck25 sz29 ag29 zr29 zo29 zd29 by29 el29 sl29 un29 st29 bo29 pt29 sz49 ag49 zr49 zd49 by49 sl49 st49 bo49 pt49 of49_0 fa49_0 of49_1 fa49_1 of49_2 fa49_2 of49_3 fa49_3 of49_4 fa49_4 pl49 ek49 sz51 ag51 zr51 zd51 by51 sl51 st51 bo51 pt51 of51_0 fa51_0 of51_1 fa51_1 of51_2 fa51_2 of51_3 fa51_3 pl51 ek51 sz57 ag57 zr57 zd57 by57 sl57 st57 bo57 pt57 of57_0 fa57_0 of57_1 fa57_1 of57_2 fa57_2 of57_3 fa57_3 pl57 ek57 sz58 ag58 by58 sl58 st58 bo58 pt58 mt58 sz61 ag61 zr61 zo61 zd61 by61 sl61 st61 bo61 pt61
attribute [local go_sem] encChange encEntry ceqChange ceqEntry etaChange etaEntry zfChange zfEntry decChange decEntry seq_dec getDz_Entry dL_Entry List.length_map Int.toNat_natCast Int.toNat_zero Nat.sub_zero List.length_take decL_sl decM_cons decM_nil decM_append take_map_snoc dM_Entry dM_Packet dM_RAct getDz_AUnit dL_AUnit dM_AUnit encAUnit decAUnit etaAUnit zfAUnit ceqAUnit
attribute [local go_sem ←] List.map_take List.map_drop
theorem con11 (hC : COk cfg11) (l : List Entry) (hp : l.length ≤ 1000000) : Sem Try.prog 11 [.d (.sl 8 (l.map encEntry))] (.tup [.d (.sl 4 ((cycles l).map encAUnit)), .d (.i .i64 (check l).2)]) := by
  refine sem_of_awR (C := cfg11) (rs := [.tmp 2, .tmp 3]) (fun _ => []) Try.func11 rfl rfl rfl rfl rfl rfl ?_
  simp only [enterSl, enterHp, inO, inO2, inO1, inOs, List.append_nil, List.nil_append, Nat.mul_zero, List.cons_append, Nat.zero_add, Nat.reduceAdd, Nat.reduceMul, encChange, encEntry, List.length_map, encAUnit]
  repeat' first
    | (refine AW.rangeMap (kt := 3) (et := 61) (slI := fun d => [(7, V.row 112 4 0 ((pickU (cycles l) d).map encAUnit).length), (20, .ptr 320 0)]) (hpI := fun d => [(112, .live (.row 57 4 false ((pickU (cycles l) d).map encAUnit))), (320, .dead)]) (id := 320) rfl rfl rfl rfl rfl rfl rfl rfl rfl rfl rfl rfl rfl rfl rfl rfl rfl rfl rfl rfl rfl rfl (by refine ⟨⟨?_, ?_⟩, ?_, ?_, ?_, ?_, ?_⟩ <;> (show _ < 34; decide)) (by decide) (by show mapT Try.prog 58 = some (3, 61); kernel_rfl) rfl rfl rfl (fun d => ⟨rfl, rfl, rfl, rfl, rfl⟩) (fun d => rfl) ?_ (fun d j h1 h2 h3 h4 => ?_) (fun d hd => have hpl := pick_len35 (us := cycles l) (d := d) (by simpa using hd); ?_))
    | (refine AW.turnX sortU_semX sortU_none ⟨_, Try.func26, rfl, rfl⟩ rfl rfl rfl rfl rfl rfl (by show _ < 34; decide) rfl rfl rfl rfl (gSort_pick (by assumption) (by simpa using hd)) (ok_pick35 (by assumption) (by simpa using hd)) ?_ ?_)
    | (with_reducible first | refine thenS_n ?_ | refine inBlockS_n ?_ | refine AW.seq ?_ | refine AW.block ?_)
    | (with_reducible first | (refine AW.runK hC ?_; intro K hK) | (refine AW.drawK hC (by kernel_rfl) ?_; intro K hK))
    | ((with_reducible first | refine erun_g ?_ | refine edraw_g ?_ | refine exitS_g ?_); (first | (simp (maxSteps := 1000000) only [go_sem, ↓reduceIte, reduceCtorEq, Nat.reduceEqDiff, Nat.reduceLT, Nat.reduceLeDiff, Nat.reduceMul, Nat.reduceAdd, Nat.reduceSub, reduceDIte, Nat.reduceBEq, Nat.reduceBNe, hpl]) | (refine siQ ?_)); (try simp (disch := omega) only [w64, wu8]))
    | (with_reducible refine hCheck_g (by kernel_rfl) ?_)
    | ((first | (refine AW.cond rfl (fun h => ?_) (fun h => ?_)) | (refine AW.cond_ub rfl (fun h => ?_) ?_) | (refine AW.cond_nb rfl ?_ (fun h => ?_))) <;> (try replace h := boolH h) <;> (try (exfalso; first | omega | exact absurd h (by decide))))
    | (with_reducible first | refine AW.skip ?_ | refine AW.exit ?_ | refine AW.ret ?_ | refine thenS_r ?_ | refine thenS_e ?_ | refine inBlockS_r ?_ | refine inBlockS_e ?_ | refine inBlockS_e2 rfl ?_ | refine exitQ_r ?_ | refine exitQ_n ?_)
    | (refine sub_auto ?_; refine subQ ?_)
    | (with_reducible refine And.intro ?_ ?_)
    | (subst hK)
    | exact trivial
  all_goals (try (intros; assumption))
  all_goals (try simp only [Bool.or_eq_true, Bool.and_eq_true, Bool.or_eq_false_iff, Bool.and_eq_false_iff, Bool.not_eq_true', Bool.not_eq_false', Bool.not_eq_true, Bool.not_eq_false, decide_eq_true_eq, decide_eq_false_iff_not, beq_iff_eq, bne_iff_ne, beq_eq_false_iff_ne, bne_eq_false_iff_eq, ne_eq, Int.not_lt, Int.not_le, D.b.injEq, D.i.injEq, D.s.injEq, D.agg.injEq, D.sl.injEq, true_and, and_true, List.cons.injEq, gt_iff_lt, ge_iff_le,  Bool.cond_true_left, Bool.cond_false_right, Bool.cond_true_right, Bool.cond_false_left, seq_iff, seq_dec, dec_f, dec_t, eqB_t, eqB_f] at *)
  all_goals (try (intros; trivial))
  all_goals (try (intros; omega))
  all_goals (try (rw [w64 (by omega) (by omega)]; first | done | omega))
  all_goals first
    | (rw [cycles_err (by assumption)]; rfl)
    | (intro e
       have h5 := congrArg List.length e
       rw [List.length_map, hpl] at h5
       exact List.eq_nil_of_length_eq_zero (by rw [List.length_map]; exact h5))
    | skip
  · rw [cp_get h3]
    have hdl := nodup_len _ d h1 h2
    refine AW.runK (COk.pins hC) ?_
    intro K hK
    simp (maxSteps := 1000000) only [go_sem, ↓reduceIte, reduceCtorEq, Nat.reduceEqDiff, Nat.reduceLT, Nat.reduceLeDiff, Nat.reduceMul, Nat.reduceAdd, Nat.reduceSub, reduceDIte, Nat.reduceBEq, Nat.reduceBNe, encChange, encEntry, ceqChange, ceqEntry, etaChange, etaEntry, zfChange, zfEntry, decChange, decEntry, seq_dec, getDz_Entry, dL_Entry, List.length_map, Int.toNat_natCast, Int.toNat_zero, Nat.sub_zero, ← List.map_take, ← List.map_drop, List.length_take, decL_sl, decM_cons, decM_nil, decM_append, take_map_snoc, dM_Entry, dM_Packet, dM_RAct, getDz_AUnit, dL_AUnit, dM_AUnit, encAUnit, decAUnit, etaAUnit, zfAUnit, ceqAUnit]
    rw [List.length_map] at hdl
    have hcl := cycles_len (l := l)
    refine ⟨?_, ?_, ?_⟩
    · intro d hd; subst hd; exact ⟨rfl, by simp [D.cells, D.one]⟩
    · rw [pick_len]; omega
    · subst hK
      refine ⟨rfl, ?_⟩
      refine sub_auto ?_
      simp (maxSteps := 1000000) only [forall_eq, V.ptr.injEq, V.row.injEq, V.rp.injEq, V.mref.injEq, exists_eq_left', and_assoc, rhoV, rhoVs, rhoSl, rhoO, rhoHp, rhoDd, rho1, HS.obj?, forall_eq', slSub, hpSub, hpSub1, nfL, vs, vss, vds, vd1, os, aget, go_sem, pick_snoc, List.map_append, List.map_cons, List.map_nil, List.length_append, List.length_map, List.length_cons, List.length_nil, etaAUnit, encAUnit, ↓reduceIte, reduceCtorEq, Nat.reduceEqDiff, Nat.reduceLT, Nat.reduceLeDiff, Nat.reduceMul, Nat.reduceAdd, Nat.reduceSub, reduceDIte, Nat.reduceBEq, Nat.reduceBNe]
end
noncomputable def cfg13 : Cfg := ⟨Try.prog, 26, tab11, (fun _ _ => []), [], (fun _ => none)⟩
theorem cfg13_pins : cfg13.pins = [] := rfl
theorem cfg13_P : cfg13.P = Try.prog := rfl
theorem cfg13_N : cfg13.N = 26 := rfl
section
attribute [local go_sem] cfg13_P cfg13_N cfg13_pins sz3 ag3 zr3 zo3 zd3 by3 sl3 st3 bo3 pt3 ck3 sz29 ag29 zr29 zo29 zd29 by29 el29 sl29 un29 st29 bo29 pt29 sz57 ag57 zr57 zd57 by57 sl57 st57 bo57 pt57 of57_0 fa57_0 of57_1 fa57_1 of57_2 fa57_2 of57_3 fa57_3 pl57 ek57
attribute [local go_sem] encChange encEntry ceqChange ceqEntry etaChange etaEntry zfChange zfEntry decChange decEntry seq_dec getDz_Entry dL_Entry List.length_map Int.toNat_natCast Int.toNat_zero Nat.sub_zero List.length_take decL_sl decM_cons decM_nil decM_append take_map_snoc dM_Entry dM_Packet dM_RAct getDz_AUnit dL_AUnit dM_AUnit encAUnit decAUnit etaAUnit zfAUnit ceqAUnit getDz_str dL_str dM_str decL_nil
attribute [local go_sem ←] List.map_take List.map_drop
theorem con13 (hC : COk cfg13) (a : List AUnit) (b : List AUnit) (hp : a.length ≤ 1000000) : Sem Try.prog 13 [.d (.sl 4 (a.map encAUnit)), .d (.sl 4 (b.map encAUnit))] (.d (.b (decide (a = b)))) := by
  refine sem_of_awR (C := cfg13) (rs := [.tmp 4]) (fun _ => []) Try.func13 rfl rfl rfl rfl rfl rfl ?_
  simp only [enterSl, enterHp, inO, inO2, inO1, inOs, List.append_nil, List.nil_append, Nat.mul_zero, List.cons_append, Nat.zero_add, Nat.reduceAdd, Nat.reduceMul, encChange, encEntry, List.length_map, encAUnit]
  repeat' first
    | (with_reducible first | refine thenS_n ?_ | refine inBlockS_n ?_ | refine AW.seq ?_ | refine AW.block ?_)
    | (with_reducible first | (refine AW.runK hC ?_; intro K hK) | (refine AW.drawK hC (by kernel_rfl) ?_; intro K hK))
    | ((with_reducible first | refine erun_g ?_ | refine edraw_g ?_ | refine exitS_g ?_); refine siQ ?_; (try simp (disch := omega) only [w64, wu8]))
    | (with_reducible refine hCheck_g (by kernel_rfl) ?_)
    | ((first | (refine AW.cond rfl (fun h => ?_) (fun h => ?_)) | (refine AW.cond_ub rfl (fun h => ?_) ?_) | (refine AW.cond_nb rfl ?_ (fun h => ?_))) <;> (try replace h := boolH h) <;> (try (exfalso; first | omega | exact absurd h (by decide))))
    | (with_reducible first | refine AW.skip ?_ | refine AW.exit ?_ | refine AW.ret ?_ | refine thenS_r ?_ | refine thenS_e ?_ | refine inBlockS_r ?_ | refine inBlockS_e ?_ | refine inBlockS_e2 rfl ?_ | refine exitQ_r ?_ | refine exitQ_n ?_)
    | (refine AW.loopN 4 rfl (ι := Nat) (fun i => mkS [(0, V.d (.sl 4 (a.map encAUnit))), (1, V.d (.sl 4 (b.map encAUnit))), (5, V.d (.i .i64 (i : Int)))] ([])) (fun i => i ≤ a.length ∧ a.length = b.length ∧ a.take i = b.take i) (fun i => a.length - i) (0) ?_ ?_ (fun i hi => ?_) <;> (try dsimp only) <;> (try dsimp only at hi))
    | (refine LoopNext.mk1 4 (i + 1) ?_ ?_ ?_ <;> (try dsimp only))
    | (refine sub_auto ?_; refine subQ ?_)
    | (with_reducible refine And.intro ?_ ?_)
    | (subst hK)
    | exact trivial
  all_goals (try (intros; assumption))
  all_goals (try simp only [Bool.or_eq_true, Bool.and_eq_true, Bool.or_eq_false_iff, Bool.and_eq_false_iff, Bool.not_eq_true', Bool.not_eq_false', Bool.not_eq_true, Bool.not_eq_false, decide_eq_true_eq, decide_eq_false_iff_not, beq_iff_eq, bne_iff_ne, beq_eq_false_iff_ne, bne_eq_false_iff_eq, ne_eq, Int.not_lt, Int.not_le, D.b.injEq, D.i.injEq, D.s.injEq, D.agg.injEq, D.sl.injEq, true_and, and_true, List.cons.injEq, gt_iff_lt, ge_iff_le,  Bool.cond_true_left, Bool.cond_false_right, Bool.cond_true_right, Bool.cond_false_left, seq_iff, seq_dec, dec_f, dec_t, eqB_t, eqB_f] at *)
  all_goals (try (intros; trivial))
  all_goals (try (intros; omega))
  all_goals (try (rw [w64 (by omega) (by omega)]; first | done | omega))
  all_goals first
    | rfl
    | (intro e; subst e; exact h rfl)
    | exact take_eq_end hi.2.2 (by omega) (by omega)
    | exact take_eq_step hi.2.2 (by omega) (by omega) (by assumption)
    | (simp only [decide_eq_true_eq]; exact take_eq_end hi.2.2 (by omega) (by omega))
    | (intro e; subst e; simp at h; done)
end
noncomputable def cfg17 : Cfg := ⟨Try.prog, 26, tab13, (fun _ _ => []), [], (fun _ => none)⟩
theorem cfg17_pins : cfg17.pins = [] := rfl
theorem cfg17_P : cfg17.P = Try.prog := rfl
theorem cfg17_N : cfg17.N = 26 := rfl
section
attribute [local go_sem] cfg17_P cfg17_N cfg17_pins sz3 ag3 zr3 zo3 zd3 by3 sl3 st3 bo3 pt3 ck3 sz9 ag9 zr9 zo9 zd9 by9 sl9 un9 st9 bo9 pt9 ck9 sz36 ag36 zr36 zo36 zd36 by36 el36 sl36 un36 st36 bo36 pt36
attribute [local go_sem] encChange encEntry ceqChange ceqEntry etaChange etaEntry zfChange zfEntry decChange decEntry seq_dec getDz_Entry dL_Entry List.length_map Int.toNat_natCast Int.toNat_zero Nat.sub_zero List.length_take decL_sl decM_cons decM_nil decM_append take_map_snoc dM_Entry dM_Packet dM_RAct getDz_AUnit dL_AUnit dM_AUnit encAUnit decAUnit etaAUnit zfAUnit ceqAUnit getDz_str dL_str dM_str decL_nil
attribute [local go_sem ←] List.map_take List.map_drop
theorem con17 (hC : COk cfg17) (a : List ByteArray) (b : List ByteArray) (hp : a.length ≤ 1000000) : Sem Try.prog 17 [.d (.sl 1 (a.map D.s)), .d (.sl 1 (b.map D.s))] (.d (.b (decide (a = b)))) := by
  refine sem_of_awR (C := cfg17) (rs := [.tmp 4]) (fun _ => []) Try.func17 rfl rfl rfl rfl rfl rfl ?_
  simp only [enterSl, enterHp, inO, inO2, inO1, inOs, List.append_nil, List.nil_append, Nat.mul_zero, List.cons_append, Nat.zero_add, Nat.reduceAdd, Nat.reduceMul, encChange, encEntry, List.length_map, encAUnit]
  repeat' first
    | (with_reducible first | refine thenS_n ?_ | refine inBlockS_n ?_ | refine AW.seq ?_ | refine AW.block ?_)
    | (with_reducible first | (refine AW.runK hC ?_; intro K hK) | (refine AW.drawK hC (by kernel_rfl) ?_; intro K hK))
    | ((with_reducible first | refine erun_g ?_ | refine edraw_g ?_ | refine exitS_g ?_); refine siQ ?_; (try simp (disch := omega) only [w64, wu8]))
    | (with_reducible refine hCheck_g (by kernel_rfl) ?_)
    | ((first | (refine AW.cond rfl (fun h => ?_) (fun h => ?_)) | (refine AW.cond_ub rfl (fun h => ?_) ?_) | (refine AW.cond_nb rfl ?_ (fun h => ?_))) <;> (try replace h := boolH h) <;> (try (exfalso; first | omega | exact absurd h (by decide))))
    | (with_reducible first | refine AW.skip ?_ | refine AW.exit ?_ | refine AW.ret ?_ | refine thenS_r ?_ | refine thenS_e ?_ | refine inBlockS_r ?_ | refine inBlockS_e ?_ | refine inBlockS_e2 rfl ?_ | refine exitQ_r ?_ | refine exitQ_n ?_)
    | (refine AW.loopN 4 rfl (ι := Nat) (fun i => mkS [(0, V.d (.sl 1 (a.map D.s))), (1, V.d (.sl 1 (b.map D.s))), (5, V.d (.i .i64 (i : Int)))] ([])) (fun i => i ≤ a.length ∧ a.length = b.length ∧ a.take i = b.take i) (fun i => a.length - i) (0) ?_ ?_ (fun i hi => ?_) <;> (try dsimp only) <;> (try dsimp only at hi))
    | (refine LoopNext.mk1 4 (i + 1) ?_ ?_ ?_ <;> (try dsimp only))
    | (refine sub_auto ?_; refine subQ ?_)
    | (with_reducible refine And.intro ?_ ?_)
    | (subst hK)
    | exact trivial
  all_goals (try (intros; assumption))
  all_goals (try simp only [Bool.or_eq_true, Bool.and_eq_true, Bool.or_eq_false_iff, Bool.and_eq_false_iff, Bool.not_eq_true', Bool.not_eq_false', Bool.not_eq_true, Bool.not_eq_false, decide_eq_true_eq, decide_eq_false_iff_not, beq_iff_eq, bne_iff_ne, beq_eq_false_iff_ne, bne_eq_false_iff_eq, ne_eq, Int.not_lt, Int.not_le, D.b.injEq, D.i.injEq, D.s.injEq, D.agg.injEq, D.sl.injEq, true_and, and_true, List.cons.injEq, gt_iff_lt, ge_iff_le,  Bool.cond_true_left, Bool.cond_false_right, Bool.cond_true_right, Bool.cond_false_left, seq_iff, seq_dec, dec_f, dec_t, eqB_t, eqB_f] at *)
  all_goals (try (intros; trivial))
  all_goals (try (intros; omega))
  all_goals (try (rw [w64 (by omega) (by omega)]; first | done | omega))
  all_goals first
    | rfl
    | (intro e; subst e; exact h rfl)
    | exact take_eq_end hi.2.2 (by omega) (by omega)
    | exact take_eq_step hi.2.2 (by omega) (by omega) (by assumption)
    | (simp only [decide_eq_true_eq]; exact take_eq_end hi.2.2 (by omega) (by omega))
    | (intro e; subst e; simp at h; done)
end
noncomputable def cfg14 : Cfg := ⟨Try.prog, 66, tab17, (fun _ _ => []), [], (fun _ => none)⟩
theorem cfg14_ti30 : cfg14.ti 30 = none := rfl
theorem cfg14_pins : cfg14.pins = [] := rfl
theorem cfg14_P : cfg14.P = Try.prog := rfl
theorem cfg14_N : cfg14.N = 66 := rfl
theorem cfg14_T30 : cfg14.T 30 = e30 := rfl
theorem cfg14_mv30 : cfg14.mv 30 = (fun _ => []) := rfl
section
attribute [local go_sem] cfg14_P cfg14_N cfg14_pins cfg14_ti30 cfg14_T30 e30 cfg14_mv30 sz3 ag3 zr3 zo3 zd3 by3 sl3 st3 bo3 pt3 ck3 sz9 ag9 zr9 zo9 zd9 by9 sl9 un9 st9 bo9 pt9 ck9 sz22 ag22 zr22 zo22 zd22 by22 el22 sl22 un22 st22 bo22 pt22 sz29 ag29 zr29 zo29 zd29 by29 el29 sl29 un29 st29 bo29 pt29 sz49 ag49 zr49 zd49 by49 sl49 st49 bo49 pt49 of49_0 fa49_0 of49_1 fa49_1 of49_2 fa49_2 of49_3 fa49_3 of49_4 fa49_4 pl49 ek49 sz51 ag51 zr51 zd51 by51 sl51 st51 bo51 pt51 of51_0 fa51_0 of51_1 fa51_1 of51_2 fa51_2 of51_3 fa51_3 pl51 ek51 sz57 ag57 zr57 zd57 by57 sl57 st57 bo57 pt57 of57_0 fa57_0 of57_1 fa57_1 of57_2 fa57_2 of57_3 fa57_3 pl57 ek57
attribute [local go_sem] encChange encEntry ceqChange ceqEntry etaChange etaEntry zfChange zfEntry decChange decEntry seq_dec getDz_Entry dL_Entry List.length_map Int.toNat_natCast Int.toNat_zero Nat.sub_zero List.length_take decL_sl decM_cons decM_nil decM_append take_map_snoc dM_Entry dM_Packet dM_RAct getDz_AUnit dL_AUnit dM_AUnit encAUnit decAUnit etaAUnit zfAUnit ceqAUnit getDz_str dL_str dM_str decL_nil
attribute [local go_sem ←] List.map_take List.map_drop
theorem con14 (hC : COk cfg14) (l : List Entry) (hp : l.length ≤ 1000000) : Sem Try.prog 14 [.d (.sl 8 (l.map encEntry))] (.d (.sl 4 ((refsTo l l.length).map encAUnit))) := by
  refine sem_of_awR (C := cfg14) (rs := [.tmp 2]) (fun _ => []) Try.func14 rfl rfl rfl rfl rfl rfl ?_
  simp only [enterSl, enterHp, inO, inO2, inO1, inOs, List.append_nil, List.nil_append, Nat.mul_zero, List.cons_append, Nat.zero_add, Nat.reduceAdd, Nat.reduceMul, encChange, encEntry, List.length_map, encAUnit]
  repeat' first
    | (with_reducible first | refine thenS_n ?_ | refine inBlockS_n ?_ | refine AW.seq ?_ | refine AW.block ?_)
    | (with_reducible first | (refine AW.runK hC ?_; intro K hK) | (refine AW.drawK hC (by kernel_rfl) ?_; intro K hK))
    | ((with_reducible first | refine erun_g ?_ | refine edraw_g ?_ | refine exitS_g ?_); refine siQ ?_; (try simp (disch := omega) only [w64, wu8]))
    | (with_reducible refine hCheck_g (by kernel_rfl) ?_)
    | ((first | (refine AW.cond rfl (fun h => ?_) (fun h => ?_)) | (refine AW.cond_ub rfl (fun h => ?_) ?_) | (refine AW.cond_nb rfl ?_ (fun h => ?_))) <;> (try replace h := boolH h) <;> (try (exfalso; first | omega | exact absurd h (by decide))))
    | (with_reducible first | refine AW.skip ?_ | refine AW.exit ?_ | refine AW.ret ?_ | refine thenS_r ?_ | refine thenS_e ?_ | refine inBlockS_r ?_ | refine inBlockS_e ?_ | refine inBlockS_e2 rfl ?_ | refine exitQ_r ?_ | refine exitQ_n ?_)
    | (refine AW.loopN 3 rfl (ι := Nat) (fun i => mkS [(0, V.d (.sl 8 (l.map encEntry))), (3, V.row 48 4 0 (refsTo l i).length), (4, V.d (.i .i64 (i : Int)))] ([(48, .live (.row 57 4 false ((refsTo l i).map encAUnit)))])) (fun i => i ≤ l.length) (fun i => l.length - i) (0) ?_ ?_ (fun i hi => ?_) <;> (try dsimp only) <;> (try dsimp only at hi))
    | (refine LoopNext.mk1 3 (i + 1) ?_ ?_ ?_ <;> (try dsimp only))
    | (refine AW.loopN 8 rfl (ι := Nat) (fun j => mkS [(0, V.d (.sl 8 (l.map encEntry))), (3, V.row 48 4 0 (refsTo l i).length), (4, V.d (.i .i64 (i : Int))), (5, V.ptr 80 0), (6, V.d (.i .i64 ((i + j : Nat) : Int)))] ([(48, .live (.row 57 4 false ((refsTo l i).map encAUnit))), (80, .live (.box 57 [.d (.i .i64 (l.getD i zEntry).unit), .d (.i .i64 (l.getD i zEntry).number), .d (.i .i64 (lastN (l.getD i zEntry).unit ((l.drop i).take j) 0)), .d (.i .i64 2)]))])) (fun j => i + j ≤ l.length ∧ i < l.length ∧ (l.getD i zEntry).kind = 1) (fun j => l.length - (i + j)) (0) ?_ ?_ (fun j hj => ?_) <;> (try dsimp only) <;> (try dsimp only at hj))
    | (refine LoopNext.mk1 8 (j + 1) ?_ ?_ ?_ <;> (try dsimp only))
    | (refine sub_auto ?_; refine subQ ?_)
    | (with_reducible refine And.intro ?_ ?_)
    | (subst hK)
    | exact trivial
  all_goals (try (intros; assumption))
  all_goals (try simp only [Bool.or_eq_true, Bool.and_eq_true, Bool.or_eq_false_iff, Bool.and_eq_false_iff, Bool.not_eq_true', Bool.not_eq_false', Bool.not_eq_true, Bool.not_eq_false, decide_eq_true_eq, decide_eq_false_iff_not, beq_iff_eq, bne_iff_ne, beq_eq_false_iff_ne, bne_eq_false_iff_eq, ne_eq, Int.not_lt, Int.not_le, D.b.injEq, D.i.injEq, D.s.injEq, D.agg.injEq, D.sl.injEq, true_and, and_true, List.cons.injEq, gt_iff_lt, ge_iff_le,  Bool.cond_true_left, Bool.cond_false_right, Bool.cond_true_right, Bool.cond_false_left, seq_iff, seq_dec, dec_f, dec_t, eqB_t, eqB_f] at *)
  all_goals (try (intros; trivial))
  all_goals (try (intros; omega))
  all_goals (try (rw [w64 (by omega) (by omega)]; first | done | omega))
  all_goals (try have B := refsTo_len l i)
  all_goals clear hC
  all_goals first
    | omega
    | assumption
    | (intro d hd; subst hd; exact ⟨rfl, by simp [D.cells, D.one]⟩)
    | (rw [refsTo_no (by assumption)]; done)
    | (rw [refsTo_no (by assumption)]; exact dles_refl _)
    | (rw [lastN_take (by omega), if_pos (by assumption)]; done)
    | (rw [lastN_take (by omega), if_neg (by assumption)]; done)
    | (rw [refsTo_yes hj.2.2, List.length_append]; rfl)
    | (rw [refsTo_yes hj.2.2, refU_sta _ _ (lastN_end (j := j) (by omega)).symm (staOf_c h), List.map_append]; exact dles_refl _)
    | (rw [refsTo_yes hj.2.2, refU_sta _ _ (lastN_end (j := j) (by omega)).symm (staOf_r (by omega) h), List.map_append]; exact dles_refl _)
    | (rw [refsTo_yes hj.2.2, refU_sta _ _ (lastN_end (j := j) (by omega)).symm (staOf_o (by omega) h), List.map_append]; exact dles_refl _)
    | (rw [show i = l.length by omega]; exact dles_refl _)
end
noncomputable def cfg31 : Cfg := ⟨Try.prog, 7, tab14, (fun _ _ => []), [], (fun _ => none)⟩
theorem cfg31_ti44 : cfg31.ti 44 = none := rfl
theorem cfg31_pins : cfg31.pins = [] := rfl
theorem cfg31_P : cfg31.P = Try.prog := rfl
theorem cfg31_N : cfg31.N = 7 := rfl
theorem cfg31_T44 : cfg31.T 44 = e44 := rfl
theorem cfg31_mv44 : cfg31.mv 44 = (fun _ => []) := rfl
section
attribute [local go_sem] cfg31_P cfg31_N cfg31_pins cfg31_ti44 cfg31_T44 e44 cfg31_mv44 sz3 ag3 zr3 zo3 zd3 by3 sl3 st3 bo3 pt3 ck3 sz9 ag9 zr9 zo9 zd9 by9 sl9 un9 st9 bo9 pt9 ck9 sz49 ag49 zr49 zd49 by49 sl49 st49 bo49 pt49 of49_0 fa49_0 of49_1 fa49_1 of49_2 fa49_2 of49_3 fa49_3 of49_4 fa49_4 pl49 ek49 sz51 ag51 zr51 zd51 by51 sl51 st51 bo51 pt51 of51_0 fa51_0 of51_1 fa51_1 of51_2 fa51_2 of51_3 fa51_3 pl51 ek51
attribute [local go_sem] encChange encEntry ceqChange ceqEntry etaChange etaEntry zfChange zfEntry decChange decEntry seq_dec getDz_Entry dL_Entry List.length_map Int.toNat_natCast Int.toNat_zero Nat.sub_zero List.length_take decL_sl decM_cons decM_nil decM_append take_map_snoc dM_Entry dM_Packet dM_RAct getDz_AUnit dL_AUnit dM_AUnit encAUnit decAUnit etaAUnit zfAUnit ceqAUnit getDz_str dL_str dM_str decL_nil
attribute [local go_sem ←] List.map_take List.map_drop
theorem con31 (hC : COk cfg31) (file : ByteArray) : Sem Try.prog 31 [.d (.s file)] (.d (.i .i64 (if isName file = false then 7 else 0))) := by
  refine sem_of_awR (C := cfg31) (rs := [.tmp 2]) (fun _ => []) Try.func31 rfl rfl rfl rfl rfl rfl ?_
  simp only [enterSl, enterHp, inO, inO2, inO1, inOs, List.append_nil, List.nil_append, Nat.mul_zero, List.cons_append, Nat.zero_add, Nat.reduceAdd, Nat.reduceMul, encChange, encEntry, List.length_map, encAUnit]
  repeat' first
    | (with_reducible first | refine thenS_n ?_ | refine inBlockS_n ?_ | refine AW.seq ?_ | refine AW.block ?_)
    | (with_reducible first | (refine AW.runK hC ?_; intro K hK) | (refine AW.drawK hC (by kernel_rfl) ?_; intro K hK))
    | ((with_reducible first | refine erun_g ?_ | refine edraw_g ?_ | refine exitS_g ?_); refine siQ ?_; (try simp (disch := omega) only [w64, wu8]))
    | (with_reducible refine hCheck_g (by kernel_rfl) ?_)
    | ((first | (refine AW.cond rfl (fun h => ?_) (fun h => ?_)) | (refine AW.cond_ub rfl (fun h => ?_) ?_) | (refine AW.cond_nb rfl ?_ (fun h => ?_))) <;> (try replace h := boolH h) <;> (try (exfalso; first | omega | exact absurd h (by decide))))
    | (with_reducible first | refine AW.skip ?_ | refine AW.exit ?_ | refine AW.ret ?_ | refine thenS_r ?_ | refine thenS_e ?_ | refine inBlockS_r ?_ | refine inBlockS_e ?_ | refine inBlockS_e2 rfl ?_ | refine exitQ_r ?_ | refine exitQ_n ?_)
    | (refine sub_auto ?_; refine subQ ?_)
    | (with_reducible refine And.intro ?_ ?_)
    | (subst hK)
    | exact trivial
  all_goals (try (intros; assumption))
  all_goals (try simp only [Bool.or_eq_true, Bool.and_eq_true, Bool.or_eq_false_iff, Bool.and_eq_false_iff, Bool.not_eq_true', Bool.not_eq_false', Bool.not_eq_true, Bool.not_eq_false, decide_eq_true_eq, decide_eq_false_iff_not, beq_iff_eq, bne_iff_ne, beq_eq_false_iff_ne, bne_eq_false_iff_eq, ne_eq, Int.not_lt, Int.not_le, D.b.injEq, D.i.injEq, D.s.injEq, D.agg.injEq, D.sl.injEq, true_and, and_true, List.cons.injEq, gt_iff_lt, ge_iff_le,  Bool.cond_true_left, Bool.cond_false_right, Bool.cond_true_right, Bool.cond_false_left, seq_iff, seq_dec, dec_f, dec_t, eqB_t, eqB_f] at *)
  all_goals (try (intros; trivial))
  all_goals (try (intros; omega))
  all_goals (try (rw [w64 (by omega) (by omega)]; first | done | omega))
  all_goals first
    | (simp [entryErr, formUsed, zChange]; done)
end
noncomputable def cfg15 : Cfg := ⟨Try.prog, 72, tab31, (fun _ _ => []), [], (fun _ => none)⟩
theorem cfg15_ti9 : cfg15.ti 9 = none := rfl
theorem cfg15_ti31 : cfg15.ti 31 = none := rfl
theorem cfg15_pins : cfg15.pins = [] := rfl
theorem cfg15_P : cfg15.P = Try.prog := rfl
theorem cfg15_N : cfg15.N = 72 := rfl
theorem cfg15_T9 : cfg15.T 9 = e9 := rfl
theorem cfg15_mv9 : cfg15.mv 9 = (fun _ => []) := rfl
theorem cfg15_T31 : cfg15.T 31 = e31 := rfl
theorem cfg15_mv31 : cfg15.mv 31 = (fun _ => []) := rfl
section
attribute [local go_sem] cfg15_P cfg15_N cfg15_pins cfg15_ti9 cfg15_ti31 cfg15_T9 e9 cfg15_mv9 cfg15_T31 e31 cfg15_mv31 sz3 ag3 zr3 zo3 zd3 by3 sl3 st3 bo3 pt3 ck3 sz9 ag9 zr9 zo9 zd9 by9 sl9 un9 st9 bo9 pt9 ck9 sz22 ag22 zr22 zo22 zd22 by22 el22 sl22 un22 st22 bo22 pt22 sz25 ag25 zr25 zo25 zd25 by25 sl25 st25 bo25 pt25 ck25 sz36 ag36 zr36 zo36 zd36 by36 el36 sl36 un36 st36 bo36 pt36 sz49 ag49 zr49 zd49 by49 sl49 st49 bo49 pt49 of49_0 fa49_0 of49_1 fa49_1 of49_2 fa49_2 of49_3 fa49_3 of49_4 fa49_4 pl49 ek49 sz51 ag51 zr51 zd51 by51 sl51 st51 bo51 pt51 of51_0 fa51_0 of51_1 fa51_1 of51_2 fa51_2 of51_3 fa51_3 pl51 ek51
attribute [local go_sem] encChange encEntry ceqChange ceqEntry etaChange etaEntry zfChange zfEntry decChange decEntry seq_dec getDz_Entry dL_Entry List.length_map Int.toNat_natCast Int.toNat_zero Nat.sub_zero List.length_take decL_sl decM_cons decM_nil decM_append take_map_snoc dM_Entry dM_Packet dM_RAct getDz_AUnit dL_AUnit dM_AUnit encAUnit decAUnit etaAUnit zfAUnit ceqAUnit getDz_str dL_str dM_str decL_nil
attribute [local go_sem ←] List.map_take List.map_drop
theorem con15 (hC : COk cfg15) (l : List Entry) (file : ByteArray) (rrn : Int) (hp : l.length ≤ 1000000) : Sem Try.prog 15 [.d (.sl 8 (l.map encEntry)), .d (.s file), .d (.i .i64 rrn)] (.tup [.d (.sl 1 ((imagesC l file rrn).1.map D.s)), .d (.i .i64 (imagesC l file rrn).2)]) := by
  refine sem_of_awR (C := cfg15) (rs := [.tmp 6, .tmp 7]) (fun _ => []) Try.func15 rfl rfl rfl rfl rfl rfl ?_
  simp only [enterSl, enterHp, inO, inO2, inO1, inOs, List.append_nil, List.nil_append, Nat.mul_zero, List.cons_append, Nat.zero_add, Nat.reduceAdd, Nat.reduceMul, encChange, encEntry, List.length_map, encAUnit]
  repeat' first
    | (with_reducible first | refine thenS_n ?_ | refine inBlockS_n ?_ | refine AW.seq ?_ | refine AW.block ?_)
    | (with_reducible first | (refine AW.runK hC ?_; intro K hK) | (refine AW.drawK hC (by kernel_rfl) ?_; intro K hK))
    | ((with_reducible first | refine erun_g ?_ | refine edraw_g ?_ | refine exitS_g ?_); refine siQ ?_; (try simp (disch := omega) only [w64, wu8]))
    | (with_reducible refine hCheck_g (by kernel_rfl) ?_)
    | ((first | (refine AW.cond rfl (fun h => ?_) (fun h => ?_)) | (refine AW.cond_ub rfl (fun h => ?_) ?_) | (refine AW.cond_nb rfl ?_ (fun h => ?_))) <;> (try replace h := boolH h) <;> (try (exfalso; first | omega | exact absurd h (by decide))))
    | (with_reducible first | refine AW.skip ?_ | refine AW.exit ?_ | refine AW.ret ?_ | refine thenS_r ?_ | refine thenS_e ?_ | refine inBlockS_r ?_ | refine inBlockS_e ?_ | refine inBlockS_e2 rfl ?_ | refine exitQ_r ?_ | refine exitQ_n ?_)
    | (refine AW.loopN 11 rfl (ι := Nat) (fun i => mkS [(1, V.d (.s file)), (2, V.d (.i .i64 rrn)), (11, V.row 176 1 0 (imgs file rrn (l.take i)).length), (33, V.d (.sl 8 (l.map encEntry))), (34, V.d (.i .i64 (l.length : Int))), (35, V.d (.i .i64 (i : Int)))] ([(176, .live (.row 9 1 true ((imgs file rrn (l.take i)).map D.s)))])) (fun i => i ≤ l.length ∧ (check l).2 = 0 ∧ isName file = true ∧ ¬(rrn < 1 ∨ 60 < rrn)) (fun i => l.length - i) (0) ?_ ?_ (fun i hi => ?_) <;> (try dsimp only) <;> (try dsimp only at hi))
    | (refine LoopNext.mk1 11 (i + 1) ?_ ?_ ?_ <;> (try dsimp only))
    | (refine sub_auto ?_; refine subQ ?_)
    | (with_reducible refine And.intro ?_ ?_)
    | (subst hK)
    | exact trivial
  all_goals (try (intros; assumption))
  all_goals (try simp only [Bool.or_eq_true, Bool.and_eq_true, Bool.or_eq_false_iff, Bool.and_eq_false_iff, Bool.not_eq_true', Bool.not_eq_false', Bool.not_eq_true, Bool.not_eq_false, decide_eq_true_eq, decide_eq_false_iff_not, beq_iff_eq, bne_iff_ne, beq_eq_false_iff_ne, bne_eq_false_iff_eq, ne_eq, Int.not_lt, Int.not_le, D.b.injEq, D.i.injEq, D.s.injEq, D.agg.injEq, D.sl.injEq, true_and, and_true, List.cons.injEq, gt_iff_lt, ge_iff_le,  Bool.cond_true_left, Bool.cond_false_right, Bool.cond_true_right, Bool.cond_false_left, seq_iff, seq_dec, dec_f, dec_t, eqB_t, eqB_f] at *)
  all_goals (try (intros; trivial))
  all_goals (try (intros; omega))
  all_goals (try (rw [w64 (by omega) (by omega)]; first | done | omega))
  all_goals (try have B := imgs_bound l file rrn i)
  all_goals clear hC
  all_goals first
    | omega
    | assumption
    | (intro d hd; subst hd; exact ⟨rfl, by simp [D.cells, D.one]⟩)
    | (rw [img_err (by assumption)]; done)
    | (rw [img_err (by assumption)]; rfl)
    | exact name_ok (by assumption)
    | exact hi.2.2.1
    | (rw [img_name (by assumption) (by first | assumption | exact name_no (by assumption))]; done)
    | (rw [img_name (by assumption) (by first | assumption | exact name_no (by assumption))]; rfl)
    | (rw [img_name (by assumption) (by first | assumption | exact name_no (by assumption)), if_pos (by first | assumption | exact name_no (by assumption))]; done)
    | (rw [img_rrn (by assumption) (by first | assumption | exact name_ok (by assumption)) h]; done)
    | (rw [img_rrn (by assumption) (by first | assumption | exact name_ok (by assumption)) h]; rfl)
    | (rw [imgs_skip (by omega) (by rintro ⟨q1, q2, q3⟩; rcases h with (h | h) | h <;> first | exact h q1 | exact h q2 | exact h q3)]; done)
    | (rw [imgs_skip (by omega) (by rintro ⟨q1, q2, q3⟩; rcases h with (h | h) | h <;> first | exact h q1 | exact h q2 | exact h q3)]; exact dles_refl _)
    | (rename_i hq; rw [imgs_first (by omega) ⟨hq.1.1, hq.1.2, hq.2⟩ (by first | exact emp_t h | omega)]; simp; done)
    | (rename_i hq; rw [imgs_first (by omega) ⟨hq.1.1, hq.1.2, hq.2⟩ (by first | exact emp_t h | omega), List.map_append, List.map_append]; exact dles_refl _)
    | (rename_i hq; rw [imgs_more (by omega) ⟨hq.1.1, hq.1.2, hq.2⟩ (by first | exact emp_f h | omega)]; simp; done)
    | (rename_i hq; rw [imgs_more (by omega) ⟨hq.1.1, hq.1.2, hq.2⟩ (by first | exact emp_f h | omega), List.map_append]; exact dles_refl _)
    | (rw [img_ok hi.2.1 hi.2.2.1 hi.2.2.2, List.take_of_length_le (by omega)]; exact dles_refl _)
    | (rw [img_ok hi.2.1 hi.2.2.1 hi.2.2.2]; done)
end
noncomputable def cfg16 : Cfg := ⟨Try.prog, 66, tab15, (fun _ _ => []), [], (fun _ => none)⟩
theorem cfg16_ti32 : cfg16.ti 32 = none := rfl
theorem cfg16_ti33 : cfg16.ti 33 = none := rfl
theorem cfg16_ti34 : cfg16.ti 34 = none := rfl
theorem cfg16_pins : cfg16.pins = [] := rfl
theorem cfg16_P : cfg16.P = Try.prog := rfl
theorem cfg16_N : cfg16.N = 66 := rfl
theorem cfg16_T32 : cfg16.T 32 = e32 := rfl
theorem cfg16_mv32 : cfg16.mv 32 = (fun _ => []) := rfl
theorem cfg16_T33 : cfg16.T 33 = e33 := rfl
theorem cfg16_mv33 : cfg16.mv 33 = (fun _ => []) := rfl
theorem cfg16_T34 : cfg16.T 34 = e34 := rfl
theorem cfg16_mv34 : cfg16.mv 34 = (fun _ => []) := rfl
section
attribute [local go_sem] cfg16_P cfg16_N cfg16_pins cfg16_ti32 cfg16_ti33 cfg16_ti34 cfg16_T32 e32 cfg16_mv32 cfg16_T33 e33 cfg16_mv33 cfg16_T34 e34 cfg16_mv34 sz3 ag3 zr3 zo3 zd3 by3 sl3 st3 bo3 pt3 ck3 sz4 ag4 zr4 zo4 zd4 by4 sl4 st4 bo4 pt4 sz9 ag9 zr9 zo9 zd9 by9 sl9 un9 st9 bo9 pt9 ck9 sz22 ag22 zr22 zo22 zd22 by22 el22 sl22 un22 st22 bo22 pt22 sz36 ag36 zr36 zo36 zd36 by36 el36 sl36 un36 st36 bo36 pt36 sz49 ag49 zr49 zd49 by49 sl49 st49 bo49 pt49 of49_0 fa49_0 of49_1 fa49_1 of49_2 fa49_2 of49_3 fa49_3 of49_4 fa49_4 pl49 ek49 sz51 ag51 zr51 zd51 by51 sl51 st51 bo51 pt51 of51_0 fa51_0 of51_1 fa51_1 of51_2 fa51_2 of51_3 fa51_3 pl51 ek51
attribute [local go_sem] encChange encEntry ceqChange ceqEntry etaChange etaEntry zfChange zfEntry decChange decEntry seq_dec getDz_Entry dL_Entry List.length_map Int.toNat_natCast Int.toNat_zero Nat.sub_zero List.length_take decL_sl decM_cons decM_nil decM_append take_map_snoc dM_Entry dM_Packet dM_RAct getDz_AUnit dL_AUnit dM_AUnit encAUnit decAUnit etaAUnit zfAUnit ceqAUnit getDz_str dL_str dM_str decL_nil
attribute [local go_sem ←] List.map_take List.map_drop
theorem con16 (hC : COk cfg16) (l : List Entry) (file : ByteArray) (rrn : Int) (hp : l.length ≤ 1000000) : Sem Try.prog 16 [.d (.sl 8 (l.map encEntry)), .d (.s file), .d (.i .i64 rrn)] (.tup [.d (.sl 1 ((imagesC l file rrn).1.map D.s)), .d (.i .i64 (imagesC l file rrn).2)]) := by
  refine sem_of_awR (C := cfg16) (rs := [.tmp 6, .tmp 7]) (fun _ => []) Try.func16 rfl rfl rfl rfl rfl rfl ?_
  simp only [enterSl, enterHp, inO, inO2, inO1, inOs, List.append_nil, List.nil_append, Nat.mul_zero, List.cons_append, Nat.zero_add, Nat.reduceAdd, Nat.reduceMul, encChange, encEntry, List.length_map, encAUnit]
  repeat' first
    | (with_reducible first | refine thenS_n ?_ | refine inBlockS_n ?_ | refine AW.seq ?_ | refine AW.block ?_)
    | (with_reducible first | (refine AW.runK hC ?_; intro K hK) | (refine AW.drawK hC (by kernel_rfl) ?_; intro K hK))
    | ((with_reducible first | refine erun_g ?_ | refine edraw_g ?_ | refine exitS_g ?_); refine siQ ?_; (try simp (disch := omega) only [w64, wu8]))
    | (with_reducible refine hCheck_g (by kernel_rfl) ?_)
    | ((first | (refine AW.cond rfl (fun h => ?_) (fun h => ?_)) | (refine AW.cond_ub rfl (fun h => ?_) ?_) | (refine AW.cond_nb rfl ?_ (fun h => ?_))) <;> (try replace h := boolH h) <;> (try (exfalso; first | omega | exact absurd h (by decide))))
    | (with_reducible first | refine AW.skip ?_ | refine AW.exit ?_ | refine AW.ret ?_ | refine thenS_r ?_ | refine thenS_e ?_ | refine inBlockS_r ?_ | refine inBlockS_e ?_ | refine inBlockS_e2 rfl ?_ | refine exitQ_r ?_ | refine exitQ_n ?_)
    | (refine AW.loopN 10 rfl (ι := Nat) (fun i => mkS [(0, V.d (.sl 8 (l.map encEntry))), (1, V.d (.s file)), (2, V.d (.i .i64 rrn)), (9, V.row 144 1 0 (imgs file rrn (l.take i)).length), (10, V.d (.i .i64 (i : Int)))] ([(144, .live (.row 9 1 false ((imgs file rrn (l.take i)).map D.s)))])) (fun i => i ≤ l.length ∧ (check l).2 = 0 ∧ isName file = true ∧ ¬(rrn < 1 ∨ 60 < rrn)) (fun i => l.length - i) (0) ?_ ?_ (fun i hi => ?_) <;> (try dsimp only) <;> (try dsimp only at hi))
    | (refine LoopNext.mk1 10 (i + 1) ?_ ?_ ?_ <;> (try dsimp only))
    | (refine sub_auto ?_; refine subQ ?_)
    | (with_reducible refine And.intro ?_ ?_)
    | (subst hK)
    | exact trivial
  all_goals (try (intros; assumption))
  all_goals (try simp only [Bool.or_eq_true, Bool.and_eq_true, Bool.or_eq_false_iff, Bool.and_eq_false_iff, Bool.not_eq_true', Bool.not_eq_false', Bool.not_eq_true, Bool.not_eq_false, decide_eq_true_eq, decide_eq_false_iff_not, beq_iff_eq, bne_iff_ne, beq_eq_false_iff_ne, bne_eq_false_iff_eq, ne_eq, Int.not_lt, Int.not_le, D.b.injEq, D.i.injEq, D.s.injEq, D.agg.injEq, D.sl.injEq, true_and, and_true, List.cons.injEq, gt_iff_lt, ge_iff_le,  Bool.cond_true_left, Bool.cond_false_right, Bool.cond_true_right, Bool.cond_false_left, seq_iff, seq_dec, dec_f, dec_t, eqB_t, eqB_f] at *)
  all_goals (try (intros; trivial))
  all_goals (try (intros; omega))
  all_goals (try (rw [w64 (by omega) (by omega)]; first | done | omega))
  all_goals (try have B := imgs_bound l file rrn i)
  all_goals clear hC
  all_goals first
    | omega
    | assumption
    | (intro d hd; subst hd; exact ⟨rfl, by simp [D.cells, D.one]⟩)
    | (rw [img_err (by assumption)]; done)
    | (rw [img_err (by assumption)]; rfl)
    | exact name_ok (by assumption)
    | exact hi.2.2.1
    | (rw [img_name (by assumption) (by first | assumption | exact name_no (by assumption))]; done)
    | (rw [img_name (by assumption) (by first | assumption | exact name_no (by assumption))]; rfl)
    | (rw [img_name (by assumption) (by first | assumption | exact name_no (by assumption)), if_pos (by first | assumption | exact name_no (by assumption))]; done)
    | (rw [img_rrn (by assumption) (by first | assumption | exact name_ok (by assumption)) h]; done)
    | (rw [img_rrn (by assumption) (by first | assumption | exact name_ok (by assumption)) h]; rfl)
    | (rw [imgs_skip (by omega) (by rintro ⟨q1, q2, q3⟩; rcases h with (h | h) | h <;> first | exact h q1 | exact h q2 | exact h q3)]; done)
    | (rw [imgs_skip (by omega) (by rintro ⟨q1, q2, q3⟩; rcases h with (h | h) | h <;> first | exact h q1 | exact h q2 | exact h q3)]; exact dles_refl _)
    | (rename_i hq; rw [imgs_first (by omega) ⟨hq.1.1, hq.1.2, hq.2⟩ (by first | exact emp_t h | omega)]; simp; done)
    | (rename_i hq; rw [imgs_first (by omega) ⟨hq.1.1, hq.1.2, hq.2⟩ (by first | exact emp_t h | omega), List.map_append, List.map_append]; exact dles_refl _)
    | (rename_i hq; rw [imgs_more (by omega) ⟨hq.1.1, hq.1.2, hq.2⟩ (by first | exact emp_f h | omega)]; simp; done)
    | (rename_i hq; rw [imgs_more (by omega) ⟨hq.1.1, hq.1.2, hq.2⟩ (by first | exact emp_f h | omega), List.map_append]; exact dles_refl _)
    | (rw [img_ok hi.2.1 hi.2.2.1 hi.2.2.2, List.take_of_length_le (by omega)]; exact dles_refl _)
    | (rw [img_ok hi.2.1 hi.2.2.1 hi.2.2.2]; done)
end
noncomputable def cfg7 : Cfg := ⟨Try.prog, 38, tab16, (fun _ _ => []), [], (fun _ => none)⟩
theorem cfg7_ti11 : cfg7.ti 11 = none := rfl
theorem cfg7_ti13 : cfg7.ti 13 = none := rfl
theorem cfg7_ti15 : cfg7.ti 15 = none := rfl
theorem cfg7_ti17 : cfg7.ti 17 = none := rfl
theorem cfg7_pins : cfg7.pins = [] := rfl
theorem cfg7_P : cfg7.P = Try.prog := rfl
theorem cfg7_N : cfg7.N = 38 := rfl
theorem cfg7_T11 : cfg7.T 11 = e11 := rfl
theorem cfg7_mv11 : cfg7.mv 11 = (fun _ => []) := rfl
theorem cfg7_T13 : cfg7.T 13 = e13 := rfl
theorem cfg7_mv13 : cfg7.mv 13 = (fun _ => []) := rfl
theorem cfg7_T15 : cfg7.T 15 = e15 := rfl
theorem cfg7_mv15 : cfg7.mv 15 = (fun _ => []) := rfl
theorem cfg7_T17 : cfg7.T 17 = e17 := rfl
theorem cfg7_mv17 : cfg7.mv 17 = (fun _ => []) := rfl
section
attribute [local go_sem] cfg7_P cfg7_N cfg7_pins cfg7_ti11 cfg7_ti13 cfg7_ti15 cfg7_ti17 cfg7_T11 e11 cfg7_mv11 cfg7_T13 e13 cfg7_mv13 cfg7_T15 e15 cfg7_mv15 cfg7_T17 e17 cfg7_mv17 sz3 ag3 zr3 zo3 zd3 by3 sl3 st3 bo3 pt3 ck3 sz9 ag9 zr9 zo9 zd9 by9 sl9 un9 st9 bo9 pt9 ck9 sz22 ag22 zr22 zo22 zd22 by22 el22 sl22 un22 st22 bo22 pt22 sz25 ag25 zr25 zo25 zd25 by25 sl25 st25 bo25 pt25 ck25 sz29 ag29 zr29 zo29 zd29 by29 el29 sl29 un29 st29 bo29 pt29 sz36 ag36 zr36 zo36 zd36 by36 el36 sl36 un36 st36 bo36 pt36 sz49 ag49 zr49 zd49 by49 sl49 st49 bo49 pt49 of49_0 fa49_0 of49_1 fa49_1 of49_2 fa49_2 of49_3 fa49_3 of49_4 fa49_4 pl49 ek49 sz51 ag51 zr51 zd51 by51 sl51 st51 bo51 pt51 of51_0 fa51_0 of51_1 fa51_1 of51_2 fa51_2 of51_3 fa51_3 pl51 ek51 sz57 ag57 zr57 zd57 by57 sl57 st57 bo57 pt57 of57_0 fa57_0 of57_1 fa57_1 of57_2 fa57_2 of57_3 fa57_3 pl57 ek57
attribute [local go_sem] encChange encEntry ceqChange ceqEntry etaChange etaEntry zfChange zfEntry decChange decEntry seq_dec getDz_Entry dL_Entry List.length_map Int.toNat_natCast Int.toNat_zero Nat.sub_zero List.length_take decL_sl decM_cons decM_nil decM_append take_map_snoc dM_Entry dM_Packet dM_RAct getDz_AUnit dL_AUnit dM_AUnit encAUnit decAUnit etaAUnit zfAUnit ceqAUnit getDz_str dL_str dM_str decL_nil nc0 nc1 nc2 eqB List.getD_cons_zero aw35_check aw35_cycles aw35_images List.map_cons List.map_nil decS_enc
attribute [local go_sem ←] List.map_take List.map_drop
theorem con7 (hC : COk cfg7)  : Sem Try.prog 7 [] (.d (.b true)) := by
  refine sem_of_awR (C := cfg7) (rs := [.tmp 0]) (fun _ => []) Try.func7 rfl rfl rfl rfl rfl rfl ?_
  simp only [enterSl, enterHp, inO, inO2, inO1, inOs, List.append_nil, List.nil_append, Nat.mul_zero, List.cons_append, Nat.zero_add, Nat.reduceAdd, Nat.reduceMul, encChange, encEntry, List.length_map, encAUnit]
  repeat' first
    | (with_reducible first | refine thenS_n ?_ | refine inBlockS_n ?_ | refine AW.seq ?_ | refine AW.block ?_)
    | (with_reducible first | (refine AW.runK hC ?_; intro K hK) | (refine AW.drawK hC (by kernel_rfl) ?_; intro K hK))
    | ((with_reducible first | refine erun_g ?_ | refine edraw_g ?_ | refine exitS_g ?_); refine siQ ?_; (try simp (disch := omega) only [w64, wu8]))
    | (with_reducible refine hCheck_g (by kernel_rfl) ?_)
    | ((first | (refine AW.cond rfl (fun h => ?_) (fun h => ?_)) | (refine AW.cond_ub rfl (fun h => ?_) ?_) | (refine AW.cond_nb rfl ?_ (fun h => ?_))) <;> (try replace h := boolH h) <;> (try (exfalso; first | omega | exact absurd h (by decide))))
    | (with_reducible first | refine AW.skip ?_ | refine AW.exit ?_ | refine AW.ret ?_ | refine thenS_r ?_ | refine thenS_e ?_ | refine inBlockS_r ?_ | refine inBlockS_e ?_ | refine inBlockS_e2 rfl ?_ | refine exitQ_r ?_ | refine exitQ_n ?_)
    | (refine sub_auto ?_; refine subQ ?_)
    | (with_reducible refine And.intro ?_ ?_)
    | (subst hK)
    | exact trivial
  all_goals (try (intros; assumption))
  all_goals (try simp only [Bool.or_eq_true, Bool.and_eq_true, Bool.or_eq_false_iff, Bool.and_eq_false_iff, Bool.not_eq_true', Bool.not_eq_false', Bool.not_eq_true, Bool.not_eq_false, decide_eq_true_eq, decide_eq_false_iff_not, beq_iff_eq, bne_iff_ne, beq_eq_false_iff_ne, bne_eq_false_iff_eq, ne_eq, Int.not_lt, Int.not_le, D.b.injEq, D.i.injEq, D.s.injEq, D.agg.injEq, D.sl.injEq, true_and, and_true, List.cons.injEq, gt_iff_lt, ge_iff_le,  Bool.cond_true_left, Bool.cond_false_right, Bool.cond_true_right, Bool.cond_false_left, seq_iff, seq_dec, dec_f, dec_t, eqB_t, eqB_f] at *)
  all_goals (try (intros; trivial))
  all_goals (try (intros; omega))
  all_goals (try (rw [w64 (by omega) (by omega)]; first | done | omega))
  all_goals first
    | (intro d hd; rcases hd with rfl | rfl | rfl <;> exact ⟨rfl, by simp [D.cells, D.one]⟩)
end
noncomputable def cfg3 : Cfg := ⟨Try.prog, 67, tab7, (fun _ _ => []), [], (fun _ => none)⟩
theorem cfg3_ti7 : cfg3.ti 7 = none := rfl
theorem cfg3_ti8 : cfg3.ti 8 = none := rfl
theorem cfg3_ti9 : cfg3.ti 9 = none := rfl
theorem cfg3_ti10 : cfg3.ti 10 = none := rfl
theorem cfg3_ti11 : cfg3.ti 11 = none := rfl
theorem cfg3_ti12 : cfg3.ti 12 = none := rfl
theorem cfg3_ti13 : cfg3.ti 13 = none := rfl
theorem cfg3_ti14 : cfg3.ti 14 = none := rfl
theorem cfg3_pins : cfg3.pins = [] := rfl
theorem cfg3_P : cfg3.P = Try.prog := rfl
theorem cfg3_N : cfg3.N = 67 := rfl
theorem cfg3_T7 : cfg3.T 7 = e7 := rfl
theorem cfg3_mv7 : cfg3.mv 7 = (fun _ => []) := rfl
theorem cfg3_T8 : cfg3.T 8 = e8 := rfl
theorem cfg3_mv8 : cfg3.mv 8 = (fun _ => []) := rfl
theorem cfg3_T9 : cfg3.T 9 = e9 := rfl
theorem cfg3_mv9 : cfg3.mv 9 = (fun _ => []) := rfl
theorem cfg3_T10 : cfg3.T 10 = e10 := rfl
theorem cfg3_mv10 : cfg3.mv 10 = (fun _ => []) := rfl
theorem cfg3_T11 : cfg3.T 11 = e11 := rfl
theorem cfg3_mv11 : cfg3.mv 11 = (fun _ => []) := rfl
theorem cfg3_T12 : cfg3.T 12 = e12 := rfl
theorem cfg3_mv12 : cfg3.mv 12 = (fun _ => []) := rfl
theorem cfg3_T13 : cfg3.T 13 = e13 := rfl
theorem cfg3_mv13 : cfg3.mv 13 = (fun _ => []) := rfl
theorem cfg3_T14 : cfg3.T 14 = e14 := rfl
theorem cfg3_mv14 : cfg3.mv 14 = (fun _ => []) := rfl
section
attribute [local go_sem] cfg3_P cfg3_N cfg3_pins cfg3_ti7 cfg3_ti8 cfg3_ti9 cfg3_ti10 cfg3_ti11 cfg3_ti12 cfg3_ti13 cfg3_ti14 cfg3_T7 e7 cfg3_mv7 cfg3_T8 e8 cfg3_mv8 cfg3_T9 e9 cfg3_mv9 cfg3_T10 e10 cfg3_mv10 cfg3_T11 e11 cfg3_mv11 cfg3_T12 e12 cfg3_mv12 cfg3_T13 e13 cfg3_mv13 cfg3_T14 e14 cfg3_mv14 sz3 ag3 zr3 zo3 zd3 by3 sl3 st3 bo3 pt3 ck3 sz4 ag4 zr4 zo4 zd4 by4 sl4 st4 bo4 pt4 sz9 ag9 zr9 zo9 zd9 by9 sl9 un9 st9 bo9 pt9 ck9 sz22 ag22 zr22 zo22 zd22 by22 el22 sl22 un22 st22 bo22 pt22 sz25 ag25 zr25 zo25 zd25 by25 sl25 st25 bo25 pt25 ck25 sz29 ag29 zr29 zo29 zd29 by29 el29 sl29 un29 st29 bo29 pt29 sz49 ag49 zr49 zd49 by49 sl49 st49 bo49 pt49 of49_0 fa49_0 of49_1 fa49_1 of49_2 fa49_2 of49_3 fa49_3 of49_4 fa49_4 pl49 ek49 sz51 ag51 zr51 zd51 by51 sl51 st51 bo51 pt51 of51_0 fa51_0 of51_1 fa51_1 of51_2 fa51_2 of51_3 fa51_3 pl51 ek51 sz57 ag57 zr57 zd57 by57 sl57 st57 bo57 pt57 of57_0 fa57_0 of57_1 fa57_1 of57_2 fa57_2 of57_3 fa57_3 pl57 ek57
attribute [local irreducible] refsTo cycles check
attribute [local go_sem] encChange encEntry ceqChange ceqEntry etaChange etaEntry zfChange zfEntry decChange decEntry seq_dec getDz_Entry dL_Entry List.length_map Int.toNat_natCast Int.toNat_zero Nat.sub_zero List.length_take decL_sl decM_cons decM_nil decM_append take_map_snoc dM_Entry dM_Packet dM_RAct getDz_AUnit dL_AUnit dM_AUnit encAUnit decAUnit etaAUnit zfAUnit ceqAUnit getDz_str dL_str dM_str decL_nil nc0 Int.add_zero beq_self_eq_true Int.reduceBEq List.length_nil
attribute [local go_sem ←] List.map_take List.map_drop
theorem con3 (hC : COk cfg3) (l : List Entry) : Sem Try.prog 3 [.d (.sl 8 (l.map encEntry))] (.d (.b true)) := by
  refine sem_of_awR (C := cfg3) (rs := [.tmp 2]) (fun _ => []) Try.func3 rfl rfl rfl rfl rfl rfl ?_
  simp only [enterSl, enterHp, inO, inO2, inO1, inOs, List.append_nil, List.nil_append, Nat.mul_zero, List.cons_append, Nat.zero_add, Nat.reduceAdd, Nat.reduceMul, encChange, encEntry, List.length_map, encAUnit]
  repeat' first
    | (with_reducible first | refine thenS_n ?_ | refine inBlockS_n ?_ | refine AW.seq ?_ | refine AW.block ?_)
    | (refine AW.atR 9 rfl ?_; have hcy := cycles_err h)
    | (refine AW.atR 10 rfl ?_; have hcy := units_ref h; have hce := check_ok h)
    | (with_reducible first | (refine AWh.runK hC ?_; intro K hK) | (refine AWh.drawK hC (by kernel_rfl) ?_; intro K hK))
    | (with_reducible first | (refine AW.runK hC ?_; intro K hK) | (refine AW.drawK hC (by kernel_rfl) ?_; intro K hK))
    | ((with_reducible first | refine erun_g ?_ | refine edraw_g ?_ | refine exitS_g ?_); (first | (simp (maxSteps := 1000000) only [go_sem, ↓reduceIte, reduceCtorEq, Nat.reduceEqDiff, Nat.reduceLT, Nat.reduceLeDiff, Nat.reduceMul, Nat.reduceAdd, Nat.reduceSub, reduceDIte, Nat.reduceBEq, Nat.reduceBNe, hcy, hce]) | (simp (maxSteps := 1000000) only [go_sem, ↓reduceIte, reduceCtorEq, Nat.reduceEqDiff, Nat.reduceLT, Nat.reduceLeDiff, Nat.reduceMul, Nat.reduceAdd, Nat.reduceSub, reduceDIte, Nat.reduceBEq, Nat.reduceBNe, hcy]) | (refine siQ ?_)); (try simp (disch := omega) only [w64, wu8]))
    | (with_reducible refine hCheck_g (by kernel_rfl) ?_)
    | ((first | (refine AW.cond rfl (fun h => ?_) (fun h => ?_)) | (refine AW.cond_ub rfl (fun h => ?_) ?_) | (refine AW.cond_nb rfl ?_ (fun h => ?_))) <;> (try replace h := boolH h) <;> (try (exfalso; first | omega | exact absurd h (by decide))))
    | (with_reducible first | refine AW.skip ?_ | refine AW.exit ?_ | refine AW.ret ?_ | refine thenS_r ?_ | refine thenS_e ?_ | refine inBlockS_r ?_ | refine inBlockS_e ?_ | refine inBlockS_e2 rfl ?_ | refine exitQ_r ?_ | refine exitQ_n ?_)
    | (refine sub_auto ?_; refine subQ ?_)
    | (with_reducible refine And.intro ?_ ?_)
    | (subst hK)
    | exact trivial
  all_goals (try (intros; assumption))
  all_goals (try simp only [Bool.or_eq_true, Bool.and_eq_true, Bool.or_eq_false_iff, Bool.and_eq_false_iff, Bool.not_eq_true', Bool.not_eq_false', Bool.not_eq_true, Bool.not_eq_false, decide_eq_true_eq, decide_eq_false_iff_not, beq_iff_eq, bne_iff_ne, beq_eq_false_iff_ne, bne_eq_false_iff_eq, ne_eq, Int.not_lt, Int.not_le, D.b.injEq, D.i.injEq, D.s.injEq, D.agg.injEq, D.sl.injEq, true_and, and_true, List.cons.injEq, gt_iff_lt, ge_iff_le,  Bool.cond_true_left, Bool.cond_false_right, Bool.cond_true_right, Bool.cond_false_left, seq_iff, seq_dec, dec_f, dec_t, eqB_t, eqB_f] at *)
  all_goals (try (intros; trivial))
  all_goals (try (intros; omega))
  all_goals (try (rw [w64 (by omega) (by omega)]; first | done | omega))
  all_goals (try have F := few35_len (l := l) (by assumption))
  all_goals (try have R := refsTo_len l l.length)
  all_goals clear hC
  all_goals first
    | omega
    | (intro _; omega)
end
noncomputable def cfg4 : Cfg := ⟨Try.prog, 44, tab3, (fun _ _ => []), [], (fun _ => none)⟩
theorem cfg4_ti7 : cfg4.ti 7 = none := rfl
theorem cfg4_ti8 : cfg4.ti 8 = none := rfl
theorem cfg4_ti10 : cfg4.ti 10 = none := rfl
theorem cfg4_ti15 : cfg4.ti 15 = none := rfl
theorem cfg4_ti16 : cfg4.ti 16 = none := rfl
theorem cfg4_ti17 : cfg4.ti 17 = none := rfl
theorem cfg4_pins : cfg4.pins = [] := rfl
theorem cfg4_P : cfg4.P = Try.prog := rfl
theorem cfg4_N : cfg4.N = 44 := rfl
theorem cfg4_T7 : cfg4.T 7 = e7 := rfl
theorem cfg4_mv7 : cfg4.mv 7 = (fun _ => []) := rfl
theorem cfg4_T8 : cfg4.T 8 = e8 := rfl
theorem cfg4_mv8 : cfg4.mv 8 = (fun _ => []) := rfl
theorem cfg4_T10 : cfg4.T 10 = e10 := rfl
theorem cfg4_mv10 : cfg4.mv 10 = (fun _ => []) := rfl
theorem cfg4_T15 : cfg4.T 15 = e15 := rfl
theorem cfg4_mv15 : cfg4.mv 15 = (fun _ => []) := rfl
theorem cfg4_T16 : cfg4.T 16 = e16 := rfl
theorem cfg4_mv16 : cfg4.mv 16 = (fun _ => []) := rfl
theorem cfg4_T17 : cfg4.T 17 = e17 := rfl
theorem cfg4_mv17 : cfg4.mv 17 = (fun _ => []) := rfl
section
attribute [local go_sem] cfg4_P cfg4_N cfg4_pins cfg4_ti7 cfg4_ti8 cfg4_ti10 cfg4_ti15 cfg4_ti16 cfg4_ti17 cfg4_T7 e7 cfg4_mv7 cfg4_T8 e8 cfg4_mv8 cfg4_T10 e10 cfg4_mv10 cfg4_T15 e15 cfg4_mv15 cfg4_T16 e16 cfg4_mv16 cfg4_T17 e17 cfg4_mv17 sz3 ag3 zr3 zo3 zd3 by3 sl3 st3 bo3 pt3 ck3 sz4 ag4 zr4 zo4 zd4 by4 sl4 st4 bo4 pt4 sz9 ag9 zr9 zo9 zd9 by9 sl9 un9 st9 bo9 pt9 ck9 sz22 ag22 zr22 zo22 zd22 by22 el22 sl22 un22 st22 bo22 pt22 sz36 ag36 zr36 zo36 zd36 by36 el36 sl36 un36 st36 bo36 pt36 sz49 ag49 zr49 zd49 by49 sl49 st49 bo49 pt49 of49_0 fa49_0 of49_1 fa49_1 of49_2 fa49_2 of49_3 fa49_3 of49_4 fa49_4 pl49 ek49 sz51 ag51 zr51 zd51 by51 sl51 st51 bo51 pt51 of51_0 fa51_0 of51_1 fa51_1 of51_2 fa51_2 of51_3 fa51_3 pl51 ek51
attribute [local go_sem] encChange encEntry ceqChange ceqEntry etaChange etaEntry zfChange zfEntry decChange decEntry seq_dec getDz_Entry dL_Entry List.length_map Int.toNat_natCast Int.toNat_zero Nat.sub_zero List.length_take decL_sl decM_cons decM_nil decM_append take_map_snoc dM_Entry dM_Packet dM_RAct getDz_AUnit dL_AUnit dM_AUnit encAUnit decAUnit etaAUnit zfAUnit ceqAUnit getDz_str dL_str dM_str decL_nil nc0
attribute [local go_sem ←] List.map_take List.map_drop
theorem con4 (hC : COk cfg4) (l : List Entry) (file : ByteArray) (rrn : Int) : Sem Try.prog 4 [.d (.sl 8 (l.map encEntry)), .d (.s file), .d (.i .i64 rrn)] (.d (.b true)) := by
  refine sem_of_awR (C := cfg4) (rs := [.tmp 6]) (fun _ => []) Try.func4 rfl rfl rfl rfl rfl rfl ?_
  simp only [enterSl, enterHp, inO, inO2, inO1, inOs, List.append_nil, List.nil_append, Nat.mul_zero, List.cons_append, Nat.zero_add, Nat.reduceAdd, Nat.reduceMul, encChange, encEntry, List.length_map, encAUnit]
  repeat' first
    | (with_reducible first | refine thenS_n ?_ | refine inBlockS_n ?_ | refine AW.seq ?_ | refine AW.block ?_)
    | (with_reducible first | (refine AW.runK hC ?_; intro K hK) | (refine AW.drawK hC (by kernel_rfl) ?_; intro K hK))
    | ((with_reducible first | refine erun_g ?_ | refine edraw_g ?_ | refine exitS_g ?_); refine siQ ?_; (try simp (disch := omega) only [w64, wu8]))
    | (with_reducible refine hCheck_g (by kernel_rfl) ?_)
    | ((first | (refine AW.cond rfl (fun h => ?_) (fun h => ?_)) | (refine AW.cond_ub rfl (fun h => ?_) ?_) | (refine AW.cond_nb rfl ?_ (fun h => ?_))) <;> (try replace h := boolH h) <;> (try (exfalso; first | omega | exact absurd h (by decide))))
    | (with_reducible first | refine AW.skip ?_ | refine AW.exit ?_ | refine AW.ret ?_ | refine thenS_r ?_ | refine thenS_e ?_ | refine inBlockS_r ?_ | refine inBlockS_e ?_ | refine inBlockS_e2 rfl ?_ | refine exitQ_r ?_ | refine exitQ_n ?_)
    | (refine sub_auto ?_; refine subQ ?_)
    | (with_reducible refine And.intro ?_ ?_)
    | (subst hK)
    | exact trivial
  all_goals (try (intros; assumption))
  all_goals (try simp only [Bool.or_eq_true, Bool.and_eq_true, Bool.or_eq_false_iff, Bool.and_eq_false_iff, Bool.not_eq_true', Bool.not_eq_false', Bool.not_eq_true, Bool.not_eq_false, decide_eq_true_eq, decide_eq_false_iff_not, beq_iff_eq, bne_iff_ne, beq_eq_false_iff_ne, bne_eq_false_iff_eq, ne_eq, Int.not_lt, Int.not_le, D.b.injEq, D.i.injEq, D.s.injEq, D.agg.injEq, D.sl.injEq, true_and, and_true, List.cons.injEq, gt_iff_lt, ge_iff_le,  Bool.cond_true_left, Bool.cond_false_right, Bool.cond_true_right, Bool.cond_false_left, seq_iff, seq_dec, dec_f, dec_t, eqB_t, eqB_f] at *)
  all_goals (try (intros; trivial))
  all_goals (try (intros; omega))
  all_goals (try (rw [w64 (by omega) (by omega)]; first | done | omega))
  all_goals (try have F := few35_len (l := l) (by first | assumption | exact h.1))
  all_goals have IL := img_len l file rrn
  all_goals clear hC
  all_goals first
    | omega
    | (intro _; omega)
end
noncomputable def cfg111 : Cfg := ⟨Try.prog, 15, tab4, (fun _ _ => []), [], (fun _ => none)⟩
theorem cfg111_pins : cfg111.pins = [] := rfl
theorem cfg111_P : cfg111.P = Try.prog := rfl
theorem cfg111_N : cfg111.N = 15 := rfl
section
attribute [local go_sem] cfg111_P cfg111_N cfg111_pins sz3 ag3 zr3 zo3 zd3 by3 sl3 st3 bo3 pt3 ck3
theorem con111 (hC : COk cfg111) (n : Int) (lo : Int) (hi : Int) : Sem Try.prog 111 [.d (.i .i64 n), .d (.i .i64 lo), .d (.i .i64 hi)] (.d (.b (decide (lo ≤ n) && decide (n ≤ hi)))) := by
  refine sem_of_awR (C := cfg111) (rs := [.tmp 6]) (fun _ => []) Try.func111 rfl rfl rfl rfl rfl rfl ?_
  simp only [enterSl, enterHp, inO, inO2, inO1, inOs, List.append_nil, List.nil_append, Nat.mul_zero, List.cons_append, Nat.zero_add, Nat.reduceAdd, Nat.reduceMul]
  repeat' first
    | (with_reducible first | refine thenS_n ?_ | refine inBlockS_n ?_ | refine AW.seq ?_ | refine AW.block ?_)
    | (with_reducible first | (refine AW.runK hC ?_; intro K hK) | (refine AW.drawK hC (by kernel_rfl) ?_; intro K hK))
    | ((with_reducible first | refine erun_g ?_ | refine edraw_g ?_ | refine exitS_g ?_); refine siQ ?_; (try simp (disch := omega) only [w64, wu8]))
    | (with_reducible refine hCheck_g (by kernel_rfl) ?_)
    | ((first | (refine AW.cond rfl (fun h => ?_) (fun h => ?_)) | (refine AW.cond_ub rfl (fun h => ?_) ?_) | (refine AW.cond_nb rfl ?_ (fun h => ?_))) <;> (try replace h := boolH h) <;> (try (exfalso; first | omega | exact absurd h (by decide))))
    | (with_reducible first | refine AW.skip ?_ | refine AW.exit ?_ | refine AW.ret ?_ | refine thenS_r ?_ | refine thenS_e ?_ | refine inBlockS_r ?_ | refine inBlockS_e ?_ | refine inBlockS_e2 rfl ?_ | refine exitQ_r ?_ | refine exitQ_n ?_)
    | (refine sub_auto ?_; refine subQ ?_)
    | (with_reducible refine And.intro ?_ ?_)
    | (subst hK)
    | exact trivial
  all_goals (try (intros; assumption))
  all_goals (try simp only [Bool.or_eq_true, Bool.and_eq_true, Bool.or_eq_false_iff, Bool.and_eq_false_iff, Bool.not_eq_true', Bool.not_eq_false', Bool.not_eq_true, Bool.not_eq_false, decide_eq_true_eq, decide_eq_false_iff_not, beq_iff_eq, bne_iff_ne, beq_eq_false_iff_ne, bne_eq_false_iff_eq, ne_eq, Int.not_lt, Int.not_le, D.b.injEq, D.i.injEq, D.s.injEq, D.agg.injEq, D.sl.injEq, true_and, and_true, List.cons.injEq, gt_iff_lt, ge_iff_le,  Bool.cond_true_left, Bool.cond_false_right, Bool.cond_true_right, Bool.cond_false_left, seq_iff, seq_dec, dec_f, dec_t, eqB_t, eqB_f] at *)
  all_goals (try (intros; trivial))
  all_goals (try (intros; omega))
  all_goals (try (rw [w64 (by omega) (by omega)]; first | done | omega))
 
end
noncomputable def cfg113 : Cfg := ⟨Try.prog, 7, tab111, (fun _ _ => []), [], (fun _ => none)⟩
theorem cfg113_pins : cfg113.pins = [] := rfl
theorem cfg113_P : cfg113.P = Try.prog := rfl
theorem cfg113_N : cfg113.N = 7 := rfl
section
attribute [local go_sem] cfg113_P cfg113_N cfg113_pins
theorem con113 (hC : COk cfg113) (b : Bool) (e : Int) : Sem Try.prog 113 [.d (.b b), .d (.i .i64 e)] (.d (.i .i64 (if b = true then e else 0))) := by
  refine sem_of_awR (C := cfg113) (rs := [.tmp 4]) (fun _ => []) Try.func113 rfl rfl rfl rfl rfl rfl ?_
  simp only [enterSl, enterHp, inO, inO2, inO1, inOs, List.append_nil, List.nil_append, Nat.mul_zero, List.cons_append, Nat.zero_add, Nat.reduceAdd, Nat.reduceMul]
  repeat' first
    | (with_reducible first | refine thenS_n ?_ | refine inBlockS_n ?_ | refine AW.seq ?_ | refine AW.block ?_)
    | (with_reducible first | (refine AW.runK hC ?_; intro K hK) | (refine AW.drawK hC (by kernel_rfl) ?_; intro K hK))
    | ((with_reducible first | refine erun_g ?_ | refine edraw_g ?_ | refine exitS_g ?_); refine siQ ?_; (try simp (disch := omega) only [w64, wu8]))
    | (with_reducible refine hCheck_g (by kernel_rfl) ?_)
    | ((first | (refine AW.cond rfl (fun h => ?_) (fun h => ?_)) | (refine AW.cond_ub rfl (fun h => ?_) ?_) | (refine AW.cond_nb rfl ?_ (fun h => ?_))) <;> (try replace h := boolH h) <;> (try (exfalso; first | omega | exact absurd h (by decide))))
    | (with_reducible first | refine AW.skip ?_ | refine AW.exit ?_ | refine AW.ret ?_ | refine thenS_r ?_ | refine thenS_e ?_ | refine inBlockS_r ?_ | refine inBlockS_e ?_ | refine inBlockS_e2 rfl ?_ | refine exitQ_r ?_ | refine exitQ_n ?_)
    | (refine sub_auto ?_; refine subQ ?_)
    | (with_reducible refine And.intro ?_ ?_)
    | (subst hK)
    | exact trivial
  all_goals (try (intros; assumption))
  all_goals (try simp only [Bool.or_eq_true, Bool.and_eq_true, Bool.or_eq_false_iff, Bool.and_eq_false_iff, Bool.not_eq_true', Bool.not_eq_false', Bool.not_eq_true, Bool.not_eq_false, decide_eq_true_eq, decide_eq_false_iff_not, beq_iff_eq, bne_iff_ne, beq_eq_false_iff_ne, bne_eq_false_iff_eq, ne_eq, Int.not_lt, Int.not_le, D.b.injEq, D.i.injEq, D.s.injEq, D.agg.injEq, D.sl.injEq, true_and, and_true, List.cons.injEq, gt_iff_lt, ge_iff_le,  Bool.cond_true_left, Bool.cond_false_right, Bool.cond_true_right, Bool.cond_false_left, seq_iff, seq_dec, dec_f, dec_t, eqB_t, eqB_f] at *)
  all_goals (try (intros; trivial))
  all_goals (try (intros; omega))
  all_goals (try (rw [w64 (by omega) (by omega)]; first | done | omega))
  all_goals simp [*]
end
end Go.Ev
