/- Tools and contracts under the laws of this seat: Dxc29, Dxc12, Dxc32, Dxc25, Dxc9, Dxc10. -/
import Derived.Test.YtkgkgcojfocomaaE05
set_option linter.unusedVariables false
set_option linter.unusedSimpArgs false
namespace Go.Ev
open Go.Proofs Ty
set_option maxRecDepth 10000
set_option maxHeartbeats 4000000
set_option linter.unusedSimpArgs false
set_option linter.unusedVariables false
attribute [local go_sem] erun_nil erun_cons edraw_eq edrun_nil edrun_cons e1_n e1_g guardSlot_eq lkAll_tmp lkAll_nil lkAll_const lkAll_func val_tmp val_const val_func aget getBox_mk getRow_mk liveRow_mk hp_mk eU_move_n eU_assign_n eU_move eU_assign eU_pick eU_alloc eU_box eU_load eU_store eU_nilCheck eU_binOp eU_unOp eU_fieldAddr eU_field eU_indexAddr eU_index eU_build eU_buildSlice eU_slice eU_extract eU_makeFunc eU_builtin eU_call eU_callv V.cells V.one D.one D.cells newObj nm HS.isFree HS.isLive andOk_some andOk_none List.map_cons List.map_nil Option.bind_some Option.bind_none putL List.cons_append List.nil_append thenS_normal thenS_ret thenS_exit inBlockS_normal inBlockS_ret inBlockS_exit true_and and_true justV justO cval Option.map_some Option.map_none loadAt storeAt ldV ldD mkAgg V.asD spliceL List.take_succ_cons List.take_zero List.drop_succ_cons List.drop_zero List.getElem?_cons_zero List.getElem?_cons_succ List.getElem?_nil List.all_cons List.all_nil Bool.and_true Bool.true_and Bool.and_self List.length_cons List.length_nil vals aopCall argsO argO toD3 toD2 toD1 toDs O.ok O.ok2 O.ok1 O.flat O.flat1 D.flat D.flatA inO inO2 inO1 inOs List.filterMap_nil List.filterMap_cons List.filter_nil List.filter_cons List.nodup_nil decide_true decide_false Bool.not_true Bool.not_false not_true_eq_false not_false_eq_true or_false false_or and_false false_and ne_eq List.append_nil optB guardQ guardRes beq_self_eq_true List.mapM_cons List.mapM_nil Option.pure_def Option.bind_eq_bind true_or or_true or_self callHp ite_self not_true not_false_iff ite_true ite_false if_true if_false Bool.false_eq_true Bool.true_eq_false List.any_nil List.any_cons List.contains_nil List.contains_cons eq_self aopAppend builtinV elems aopBin nilEqS nilEqP aopSlice bound natOf lenOf binD intBin unD bindEq eU_makeMap eU_convert eU_makeSlice aopConv aopMake isShift shiftD eU_lookup eU_mapUpdate getMp_mk List.range_zero Nat.zero_le Nat.zero_mul Nat.zero_add Nat.add_zero List.length_append List.take_length List.isEmpty_nil List.isEmpty_cons V.neg List.flatMap_nil and_self List.range_succ forall_const implies_true Nat.not_lt_zero exitQ_normal exitQ_ret exitS_eq exitO resVs resV_tmp resV_cell takeRow argCells mvAt dle_same dles_same ole_same ole oles dle dles List.nodup_cons List.mem_cons List.not_mem_nil List.drop_length Nat.le_refl Nat.lt_irrefl id_eq Option.some.injEq Bool.or_false Bool.false_or Bool.or_self Bool.or_true Bool.true_or false_implies Bool.and_false Bool.false_and List.reverse_cons List.reverse_nil sh1 mget1 mget aopLookup aopMapUpdate mapOf msetK msetV Option.isSome_some Option.isSome_none Bool.cond_true_left Bool.cond_false_right Bool.cond_true_right Bool.cond_false_left beq_true beq_false Bool.not_not imp_self guardVal notB strBin aopSliceS buildV argOk D.splice kEq Option.toList_some Option.toList_none adel List.getD_cons_zero List.getD_cons_succ bxIds bxId backHp hget one1 aopCall0 aopTurn
attribute [local go_sem] sz3 ag3 zr3 zo3 zd3 by3 sl3 st3 bo3 pt3 ck3 sz9 ag9 zr9 zo9 zd9 by9 sl9 un9 st9 bo9 pt9 ck9 sz22 ag22 zr22 zo22 zd22 by22 el22 sl22 un22 st22 bo22 pt22 sz49 ag49 zr49 zd49 by49 sl49 st49 bo49 pt49 of49_0 fa49_0 of49_1 fa49_1 of49_2 fa49_2 of49_3 fa49_3 of49_4 fa49_4 pl49 ek49 sz51 ag51 zr51 zd51 by51 sl51 st51 bo51 pt51 of51_0 fa51_0 of51_1 fa51_1 of51_2 fa51_2 of51_3 fa51_3 pl51 ek51 getDz_Entry dL_Entry List.length_map Int.toNat_natCast Int.toNat_zero Nat.sub_zero List.length_take decL_sl decM_cons decM_nil decM_append take_map_snoc dM_Entry dM_Packet dM_RAct
attribute [local go_sem ←] List.map_take List.map_drop
noncomputable def cfg29 : Cfg := ⟨Try.prog, 39, tab50, (fun _ _ => []), [], (fun _ => none)⟩
theorem cfg29_ti47 : cfg29.ti 47 = none := rfl
theorem cfg29_ti50 : cfg29.ti 50 = none := rfl
theorem cfg29_ti51 : cfg29.ti 51 = none := rfl
theorem cfg29_pins : cfg29.pins = [] := rfl
theorem cfg29_P : cfg29.P = Try.prog := rfl
theorem cfg29_N : cfg29.N = 39 := rfl
theorem cfg29_T47 : cfg29.T 47 = e47 := rfl
theorem cfg29_mv47 : cfg29.mv 47 = (fun _ => []) := rfl
theorem cfg29_T50 : cfg29.T 50 = e50 := rfl
theorem cfg29_mv50 : cfg29.mv 50 = (fun _ => []) := rfl
theorem cfg29_T51 : cfg29.T 51 = e51 := rfl
theorem cfg29_mv51 : cfg29.mv 51 = (fun _ => []) := rfl
section
attribute [local go_sem] cfg29_P cfg29_N cfg29_pins cfg29_ti47 cfg29_ti50 cfg29_ti51 cfg29_T47 e47 cfg29_mv47 cfg29_T50 e50 cfg29_mv50 cfg29_T51 e51 cfg29_mv51 sz4 ag4 zr4 zo4 zd4 by4 sl4 st4 bo4 pt4
attribute [local go_sem] encChange encEntry ceqChange ceqEntry etaChange etaEntry zfChange zfEntry decChange decEntry seq_dec
theorem con29 (hC : COk cfg29) (l : List Entry) (e : Entry) (hp : l.length ≤ 1000000) : Sem Try.prog 29 [.d (.sl 8 (l.map encEntry)), .d (encEntry e)] (.d (.i .i64 (stateErr l e))) := by
  refine sem_of_awR (C := cfg29) (rs := [.tmp 4]) (fun _ => []) Try.func29 rfl rfl rfl rfl rfl rfl ?_
  simp only [enterSl, enterHp, inO, inO2, inO1, inOs, List.append_nil, List.nil_append, Nat.mul_zero, List.cons_append, Nat.zero_add, Nat.reduceAdd, Nat.reduceMul, encChange, encEntry, List.length_map]
  repeat' first
    | (with_reducible first | refine thenS_n ?_ | refine inBlockS_n ?_ | refine AW.seq ?_ | refine AW.block ?_)
    | (with_reducible first | (refine AW.runK hC ?_; intro K hK) | (refine AW.drawK hC (by kernel_rfl) ?_; intro K hK))
    | ((with_reducible first | refine erun_g ?_ | refine edraw_g ?_ | refine exitS_g ?_); refine siQ ?_; (try simp (disch := omega) only [w64, wu8]))
    | (with_reducible refine hCheck_g (by kernel_rfl) ?_)
    | ((first | (refine AW.cond rfl (fun h => ?_) (fun h => ?_)) | (refine AW.cond_ub rfl (fun h => ?_) ?_) | (refine AW.cond_nb rfl ?_ (fun h => ?_))) <;> (try replace h := boolH h) <;> (try (exfalso; first | omega | exact absurd h (by decide))))
    | (with_reducible first | refine AW.skip ?_ | refine AW.exit ?_ | refine AW.ret ?_ | refine thenS_r ?_ | refine thenS_e ?_ | refine inBlockS_r ?_ | refine inBlockS_e ?_ | refine inBlockS_e2 rfl ?_ | refine exitQ_r ?_ | refine exitQ_n ?_)
    | (refine sub_auto ?_; refine subQ ?_)
    | (with_reducible refine And.intro ?_ ?_)
    | (subst hK)
    | exact trivial
  all_goals (try (intros; assumption))
  all_goals (try simp only [Bool.or_eq_true, Bool.and_eq_true, Bool.or_eq_false_iff, Bool.and_eq_false_iff, Bool.not_eq_true', Bool.not_eq_false', Bool.not_eq_true, Bool.not_eq_false, decide_eq_true_eq, decide_eq_false_iff_not, beq_iff_eq, bne_iff_ne, beq_eq_false_iff_ne, bne_eq_false_iff_eq, ne_eq, Int.not_lt, Int.not_le, D.b.injEq, D.i.injEq, D.s.injEq, D.agg.injEq, D.sl.injEq, true_and, and_true, List.cons.injEq, gt_iff_lt, ge_iff_le,  Bool.cond_true_left, Bool.cond_false_right, Bool.cond_true_right, Bool.cond_false_left, seq_iff, seq_dec, dec_f, dec_t, eqB_t, eqB_f] at *)
  all_goals (try (intros; trivial))
  all_goals (try (intros; omega))
  all_goals (try (rw [w64 (by omega) (by omega)]; first | done | omega))
  all_goals grind [stateErr]
end
noncomputable def cfg12 : Cfg := ⟨Try.prog, 55, tab29, (fun _ _ => []), [], (fun _ => none)⟩
theorem cfg12_ti28 : cfg12.ti 28 = none := rfl
theorem cfg12_ti29 : cfg12.ti 29 = none := rfl
theorem cfg12_pins : cfg12.pins = [] := rfl
theorem cfg12_P : cfg12.P = Try.prog := rfl
theorem cfg12_N : cfg12.N = 55 := rfl
theorem cfg12_T28 : cfg12.T 28 = e28 := rfl
theorem cfg12_mv28 : cfg12.mv 28 = (fun _ => []) := rfl
theorem cfg12_T29 : cfg12.T 29 = e29 := rfl
theorem cfg12_mv29 : cfg12.mv 29 = (fun _ => []) := rfl
section
attribute [local go_sem] cfg12_P cfg12_N cfg12_pins cfg12_ti28 cfg12_ti29 cfg12_T28 e28 cfg12_mv28 cfg12_T29 e29 cfg12_mv29
attribute [local go_sem] encChange encEntry ceqChange ceqEntry etaChange etaEntry zfChange zfEntry decChange decEntry seq_dec
theorem con12 (hC : COk cfg12) (l : List Entry) (hp : l.length ≤ 1000000) : Sem Try.prog 12 [.d (.sl 8 (l.map encEntry))] (.tup [.d (.i .i64 (check l).1), .d (.i .i64 (check l).2)]) := by
  refine sem_of_awR (C := cfg12) (rs := [.tmp 2, .tmp 3]) (fun _ => []) Try.func12 rfl rfl rfl rfl rfl rfl ?_
  simp only [enterSl, enterHp, inO, inO2, inO1, inOs, List.append_nil, List.nil_append, Nat.mul_zero, List.cons_append, Nat.zero_add, Nat.reduceAdd, Nat.reduceMul, encChange, encEntry, List.length_map]
  repeat' first
    | (with_reducible first | refine thenS_n ?_ | refine inBlockS_n ?_ | refine AW.seq ?_ | refine AW.block ?_)
    | (with_reducible first | (refine AW.runK hC ?_; intro K hK) | (refine AW.drawK hC (by kernel_rfl) ?_; intro K hK))
    | ((with_reducible first | refine erun_g ?_ | refine edraw_g ?_ | refine exitS_g ?_); refine siQ ?_; (try simp (disch := omega) only [w64, wu8]))
    | (with_reducible refine hCheck_g (by kernel_rfl) ?_)
    | ((first | (refine AW.cond rfl (fun h => ?_) (fun h => ?_)) | (refine AW.cond_ub rfl (fun h => ?_) ?_) | (refine AW.cond_nb rfl ?_ (fun h => ?_))) <;> (try replace h := boolH h) <;> (try (exfalso; first | omega | exact absurd h (by decide))))
    | (with_reducible first | refine AW.skip ?_ | refine AW.exit ?_ | refine AW.ret ?_ | refine thenS_r ?_ | refine thenS_e ?_ | refine inBlockS_r ?_ | refine inBlockS_e ?_ | refine inBlockS_e2 rfl ?_ | refine exitQ_r ?_ | refine exitQ_n ?_)
    | (refine AW.loopN 4 rfl (ι := Nat) (fun i => mkS [(0, V.d (.sl 8 (l.map encEntry))), (4, V.d (.i .i64 (i : Int)))] ([])) (fun i => i ≤ l.length ∧ l.length ≤ 80 ∧ checkFrom l (l.length - i) i = check l) (fun i => l.length - i) (0) ?_ ?_ (fun i hi => ?_) <;> (try dsimp only) <;> (try dsimp only at hi))
    | (refine LoopNext.mk1 4 (i + 1) ?_ ?_ ?_ <;> (try dsimp only))
    | (refine sub_auto ?_; refine subQ ?_)
    | (with_reducible refine And.intro ?_ ?_)
    | (subst hK)
    | exact trivial
  all_goals (try (intros; assumption))
  all_goals (try simp only [Bool.or_eq_true, Bool.and_eq_true, Bool.or_eq_false_iff, Bool.and_eq_false_iff, Bool.not_eq_true', Bool.not_eq_false', Bool.not_eq_true, Bool.not_eq_false, decide_eq_true_eq, decide_eq_false_iff_not, beq_iff_eq, bne_iff_ne, beq_eq_false_iff_ne, bne_eq_false_iff_eq, ne_eq, Int.not_lt, Int.not_le, D.b.injEq, D.i.injEq, D.s.injEq, D.agg.injEq, D.sl.injEq, true_and, and_true, List.cons.injEq, gt_iff_lt, ge_iff_le,  Bool.cond_true_left, Bool.cond_false_right, Bool.cond_true_right, Bool.cond_false_left, seq_iff, seq_dec, dec_f, dec_t, eqB_t, eqB_f] at *)
  all_goals (try (intros; trivial))
  all_goals (try (intros; omega))
  all_goals (try (rw [w64 (by omega) (by omega)]; first | done | omega))
  all_goals first
    | (rw [check, if_pos (by omega)])
    | (rw [check, if_neg (by omega)]; rfl)
    | exact (checkFrom_bad1 hi.2.2 (by omega) (by assumption)).1
    | exact (checkFrom_bad1 hi.2.2 (by omega) (by assumption)).2
    | exact (checkFrom_bad2 hi.2.2 (by omega) (by assumption) h.1 h.2).1
    | exact (checkFrom_bad2 hi.2.2 (by omega) (by assumption) h.1 h.2).2
    | exact (checkFrom_bad3 hi.2.2 (by omega) (by assumption) (by assumption) h).1
    | exact (checkFrom_bad3 hi.2.2 (by omega) (by assumption) (by assumption) h).2
    | exact checkFrom_next hi.2.2 (by omega) (by assumption) (by assumption) h
    | (rw [← hi.2.2, checkFrom_end (by omega)])
end
noncomputable def cfg32 : Cfg := ⟨Try.prog, 11, tab12, (fun _ _ => []), [], (fun _ => none)⟩
theorem cfg32_ti12 : cfg32.ti 12 = none := rfl
theorem cfg32_pins : cfg32.pins = [] := rfl
theorem cfg32_P : cfg32.P = Try.prog := rfl
theorem cfg32_N : cfg32.N = 11 := rfl
theorem cfg32_T12 : cfg32.T 12 = e12 := rfl
theorem cfg32_mv12 : cfg32.mv 12 = (fun _ => []) := rfl
section
attribute [local go_sem] cfg32_P cfg32_N cfg32_pins cfg32_ti12 cfg32_T12 e12 cfg32_mv12
attribute [local go_sem] encChange encEntry ceqChange ceqEntry etaChange etaEntry zfChange zfEntry decChange decEntry seq_dec
theorem con32 (hC : COk cfg32) (l : List Entry) (hp : l.length ≤ 1000000) : Sem Try.prog 32 [.d (.sl 8 (l.map encEntry))] (.d (.i .i64 (check l).2)) := by
  refine sem_of_awR (C := cfg32) (rs := [.tmp 2]) (fun _ => []) Try.func32 rfl rfl rfl rfl rfl rfl ?_
  simp only [enterSl, enterHp, inO, inO2, inO1, inOs, List.append_nil, List.nil_append, Nat.mul_zero, List.cons_append, Nat.zero_add, Nat.reduceAdd, Nat.reduceMul, encChange, encEntry, List.length_map]
  repeat' first
    | (with_reducible first | refine thenS_n ?_ | refine inBlockS_n ?_ | refine AW.seq ?_ | refine AW.block ?_)
    | (with_reducible first | (refine AW.runK hC ?_; intro K hK) | (refine AW.drawK hC (by kernel_rfl) ?_; intro K hK))
    | ((with_reducible first | refine erun_g ?_ | refine edraw_g ?_ | refine exitS_g ?_); refine siQ ?_; (try simp (disch := omega) only [w64, wu8]))
    | (with_reducible refine hCheck_g (by kernel_rfl) ?_)
    | ((first | (refine AW.cond rfl (fun h => ?_) (fun h => ?_)) | (refine AW.cond_ub rfl (fun h => ?_) ?_) | (refine AW.cond_nb rfl ?_ (fun h => ?_))) <;> (try replace h := boolH h) <;> (try (exfalso; first | omega | exact absurd h (by decide))))
    | (with_reducible first | refine AW.skip ?_ | refine AW.exit ?_ | refine AW.ret ?_ | refine thenS_r ?_ | refine thenS_e ?_ | refine inBlockS_r ?_ | refine inBlockS_e ?_ | refine inBlockS_e2 rfl ?_ | refine exitQ_r ?_ | refine exitQ_n ?_)
    | (refine sub_auto ?_; refine subQ ?_)
    | (with_reducible refine And.intro ?_ ?_)
    | (subst hK)
    | exact trivial
  all_goals (try (intros; assumption))
  all_goals (try simp only [Bool.or_eq_true, Bool.and_eq_true, Bool.or_eq_false_iff, Bool.and_eq_false_iff, Bool.not_eq_true', Bool.not_eq_false', Bool.not_eq_true, Bool.not_eq_false, decide_eq_true_eq, decide_eq_false_iff_not, beq_iff_eq, bne_iff_ne, beq_eq_false_iff_ne, bne_eq_false_iff_eq, ne_eq, Int.not_lt, Int.not_le, D.b.injEq, D.i.injEq, D.s.injEq, D.agg.injEq, D.sl.injEq, true_and, and_true, List.cons.injEq, gt_iff_lt, ge_iff_le,  Bool.cond_true_left, Bool.cond_false_right, Bool.cond_true_right, Bool.cond_false_left, seq_iff, seq_dec, dec_f, dec_t, eqB_t, eqB_f] at *)
  all_goals (try (intros; trivial))
  all_goals (try (intros; omega))
  all_goals (try (rw [w64 (by omega) (by omega)]; first | done | omega))
end
noncomputable def cfg25 : Cfg := ⟨Try.prog, 112, tab32, (fun _ _ => []), [], (fun _ => none)⟩
theorem cfg25_ti44 : cfg25.ti 44 = none := rfl
theorem cfg25_pins : cfg25.pins = [] := rfl
theorem cfg25_P : cfg25.P = Try.prog := rfl
theorem cfg25_N : cfg25.N = 112 := rfl
theorem cfg25_T44 : cfg25.T 44 = e44 := rfl
theorem cfg25_mv44 : cfg25.mv 44 = (fun _ => []) := rfl
section
attribute [local go_sem] cfg25_P cfg25_N cfg25_pins cfg25_ti44 cfg25_T44 e44 cfg25_mv44 sz4 ag4 zr4 zo4 zd4 by4 sl4 st4 bo4 pt4 sz25 ag25 zr25 zo25 zd25 by25 sl25 st25 bo25 pt25 ck25 sz57 ag57 zr57 zd57 by57 sl57 st57 bo57 pt57 of57_0 fa57_0 of57_1 fa57_1 of57_2 fa57_2 of57_3 fa57_3 pl57 ek57 sz58 ag58 by58 sl58 st58 bo58 pt58 mt58 sz61 ag61 zr61 zo61 zd61 by61 sl61 st61 bo61 pt61
attribute [local go_sem] encChange encEntry ceqChange ceqEntry etaChange etaEntry zfChange zfEntry decChange decEntry seq_dec isK3 keyIdx_U aget_fam_lt toDs_U fnm_inj fnm_lit lit_fnm
theorem con25 (hC : COk cfg25) (l : List Entry) (hp : l.length ≤ 1000000) : Sem Try.prog 25 [.d (.sl 8 (l.map encEntry))] (.tup [.d (.mp ((cycles l).map keyU) ((cycles l).map fun u => .cp (cellsU u))), .d (.i .i64 (check l).1), .d (.i .i64 (check l).2)]) := by
  refine sem_of_awR (C := cfg25) (rs := [.tmp 2, .tmp 3, .tmp 4]) (fun _ => []) Try.func25 rfl rfl rfl rfl rfl rfl ?_
  simp only [enterSl, enterHp, inO, inO2, inO1, inOs, List.append_nil, List.nil_append, Nat.mul_zero, List.cons_append, Nat.zero_add, Nat.reduceAdd, Nat.reduceMul, encChange, encEntry, List.length_map]
  repeat' first
    | (with_reducible first | refine thenS_n ?_ | refine inBlockS_n ?_ | refine AW.seq ?_ | refine AW.block ?_)
    | (refine AW.atR 12 rfl ?_; rcases hq : uidx (unitsOf (l.take i)) (l.getD i zEntry).unit with _ | k; rotate_left; obtain ⟨u, hu, hun, hlt⟩ := uidx_some hq; have hv := ptrs_get hlt; have hf := fam_box (t := 57) hu; clear hlt)
    | (with_reducible first | (refine AWh.runK hC ?_; intro K hK) | (refine AWh.drawK hC (by kernel_rfl) ?_; intro K hK))
    | (with_reducible first | (refine AW.runK hC ?_; intro K hK) | (refine AW.drawK hC (by kernel_rfl) ?_; intro K hK))
    | ((with_reducible first | refine erun_g ?_ | refine edraw_g ?_ | refine exitS_g ?_); (first | (simp (maxSteps := 1000000) only [go_sem, ↓reduceIte, reduceCtorEq, Nat.reduceEqDiff, Nat.reduceLT, Nat.reduceLeDiff, Nat.reduceMul, Nat.reduceAdd, Nat.reduceSub, reduceDIte, Nat.reduceBEq, Nat.reduceBNe, hq, hv, hf]) | (simp (maxSteps := 1000000) only [go_sem, ↓reduceIte, reduceCtorEq, Nat.reduceEqDiff, Nat.reduceLT, Nat.reduceLeDiff, Nat.reduceMul, Nat.reduceAdd, Nat.reduceSub, reduceDIte, Nat.reduceBEq, Nat.reduceBNe, hq]) | (refine siQ ?_)); (try simp (disch := omega) only [w64, wu8]))
    | (with_reducible refine hCheck_g (by kernel_rfl) ?_)
    | ((first | (refine AW.cond rfl (fun h => ?_) (fun h => ?_)) | (refine AW.cond_ub rfl (fun h => ?_) ?_) | (refine AW.cond_nb rfl ?_ (fun h => ?_))) <;> (try replace h := boolH h) <;> (try (exfalso; first | omega | exact absurd h (by decide))))
    | (with_reducible first | refine AW.skip ?_ | refine AW.exit ?_ | refine AW.ret ?_ | refine thenS_r ?_ | refine thenS_e ?_ | refine inBlockS_r ?_ | refine inBlockS_e ?_ | refine inBlockS_e2 rfl ?_ | refine exitQ_r ?_ | refine exitQ_n ?_)
    | (refine AW.loopN 5 rfl (ι := Nat) (fun i => mkS [(0, V.d (.sl 8 (l.map encEntry))), (5, V.mref 240), (16, V.d (.sl 8 (l.map encEntry))), (17, V.d (.i .i64 (l.length : Int))), (18, V.d (.i .i64 (i : Int)))] ((240, .live (.mp 58 ((unitsOf (l.take i)).map keyU) (ptrs ((unitsOf (l.take i)).map cellsU).length))) :: fam 57 ((unitsOf (l.take i)).map cellsU))) (fun i => i ≤ l.length ∧ l.length ≤ 80 ∧ checkFrom l (l.length - i) i = check l ∧ UInv (unitsOf (l.take i)) (l.take i)) (fun i => l.length - i) (0) ?_ ?_ (fun i hi => ?_) <;> (try dsimp only) <;> (try dsimp only at hi))
    | (refine LoopNext.mk1 5 (i + 1) ?_ ?_ ?_ <;> (try dsimp only))
    | (refine subU_same (M := 240) (us := []) (by omega) rfl ?_ ?_ ?_ ?_ <;> first
      | (simp only [aget, Nat.reduceEqDiff, fnm_inj, fnm_lit, lit_fnm, Nat.reduceLT, ↓reduceIte, List.take_zero]; done)
      | (intro j; simp only [aget, Nat.reduceEqDiff, fnm_inj, fnm_lit, lit_fnm, Nat.reduceLT, ↓reduceIte]; done)
      | (intro j hj; simp only [aget, Nat.reduceEqDiff, fnm_inj, fnm_lit, lit_fnm, Nat.reduceLT, hj, ↓reduceIte]; done)
      | (intro ρ nf h1 h2; simp only [slSub, aget, vs, ↓reduceIte, Nat.reduceEqDiff, dle_same, dles_same, dle, D.i.injEq, eq_self, and_self, and_true, true_and, V.mref.injEq, exists_eq_left', h1, h2]; first | done | omega)
      | (rw [unitsOf_take (by omega), uStep_same (by omega) (by omega)]; done)
      | (rw [unitsOf_take (by omega), uStep_new (by omega)]; done)
      | (rw [unitsOf_take (by omega), uStep_upd (by omega) (by omega) hq hu]; done)
      | (simp only [aget, Nat.reduceEqDiff, fnm_inj, fnm_lit, lit_fnm, Nat.reduceLT, ↓reduceIte, uEnd]; (repeat' split) <;> first | rfl | (exfalso; omega))
      | (show unitsOf (l.take 0) = []; rfl))
    | (refine subU_same (M := 240) (us := unitsOf (l.take i)) (by omega) rfl ?_ ?_ ?_ ?_ <;> first
      | (simp only [aget, Nat.reduceEqDiff, fnm_inj, fnm_lit, lit_fnm, Nat.reduceLT, ↓reduceIte, List.take_zero]; done)
      | (intro j; simp only [aget, Nat.reduceEqDiff, fnm_inj, fnm_lit, lit_fnm, Nat.reduceLT, ↓reduceIte]; done)
      | (intro j hj; simp only [aget, Nat.reduceEqDiff, fnm_inj, fnm_lit, lit_fnm, Nat.reduceLT, hj, ↓reduceIte]; done)
      | (intro ρ nf h1 h2; simp only [slSub, aget, vs, ↓reduceIte, Nat.reduceEqDiff, dle_same, dles_same, dle, D.i.injEq, eq_self, and_self, and_true, true_and, V.mref.injEq, exists_eq_left', h1, h2]; first | done | omega)
      | (rw [unitsOf_take (by omega), uStep_same (by omega) (by omega)]; done)
      | (rw [unitsOf_take (by omega), uStep_new (by omega)]; done)
      | (rw [unitsOf_take (by omega), uStep_upd (by omega) (by omega) hq hu]; done)
      | (simp only [aget, Nat.reduceEqDiff, fnm_inj, fnm_lit, lit_fnm, Nat.reduceLT, ↓reduceIte, uEnd]; (repeat' split) <;> first | rfl | (exfalso; omega))
      | (show unitsOf (l.take 0) = []; rfl))
    | (refine subU_new (M := 240) (us := unitsOf (l.take i)) (by omega) rfl (b := 1232) (u := ⟨(l.getD i zEntry).unit, (l.getD i zEntry).number, (l.getD i zEntry).number, 2⟩) (by omega) (by omega) ?_ ?_ ?_ ?_ ?_ <;> first
      | (simp only [aget, Nat.reduceEqDiff, fnm_inj, fnm_lit, lit_fnm, Nat.reduceLT, ↓reduceIte, List.take_zero]; done)
      | (intro j; simp only [aget, Nat.reduceEqDiff, fnm_inj, fnm_lit, lit_fnm, Nat.reduceLT, ↓reduceIte]; done)
      | (intro j hj; simp only [aget, Nat.reduceEqDiff, fnm_inj, fnm_lit, lit_fnm, Nat.reduceLT, hj, ↓reduceIte]; done)
      | (intro ρ nf h1 h2; simp only [slSub, aget, vs, ↓reduceIte, Nat.reduceEqDiff, dle_same, dles_same, dle, D.i.injEq, eq_self, and_self, and_true, true_and, V.mref.injEq, exists_eq_left', h1, h2]; first | done | omega)
      | (rw [unitsOf_take (by omega), uStep_same (by omega) (by omega)]; done)
      | (rw [unitsOf_take (by omega), uStep_new (by omega)]; done)
      | (rw [unitsOf_take (by omega), uStep_upd (by omega) (by omega) hq hu]; done)
      | (simp only [aget, Nat.reduceEqDiff, fnm_inj, fnm_lit, lit_fnm, Nat.reduceLT, ↓reduceIte, uEnd]; (repeat' split) <;> first | rfl | (exfalso; omega))
      | (show unitsOf (l.take 0) = []; rfl))
    | (refine subU_upd (M := 240) (us := unitsOf (l.take i)) (by omega) rfl (u' := uEnd (l.getD i zEntry) u) hu ?_ ?_ rfl ?_ ?_ ?_ <;> first
      | (simp only [aget, Nat.reduceEqDiff, fnm_inj, fnm_lit, lit_fnm, Nat.reduceLT, ↓reduceIte, List.take_zero]; done)
      | (intro j; simp only [aget, Nat.reduceEqDiff, fnm_inj, fnm_lit, lit_fnm, Nat.reduceLT, ↓reduceIte]; done)
      | (intro j hj; simp only [aget, Nat.reduceEqDiff, fnm_inj, fnm_lit, lit_fnm, Nat.reduceLT, hj, ↓reduceIte]; done)
      | (intro ρ nf h1 h2; simp only [slSub, aget, vs, ↓reduceIte, Nat.reduceEqDiff, dle_same, dles_same, dle, D.i.injEq, eq_self, and_self, and_true, true_and, V.mref.injEq, exists_eq_left', h1, h2]; first | done | omega)
      | (rw [unitsOf_take (by omega), uStep_same (by omega) (by omega)]; done)
      | (rw [unitsOf_take (by omega), uStep_new (by omega)]; done)
      | (rw [unitsOf_take (by omega), uStep_upd (by omega) (by omega) hq hu]; done)
      | (simp only [aget, Nat.reduceEqDiff, fnm_inj, fnm_lit, lit_fnm, Nat.reduceLT, ↓reduceIte, uEnd]; (repeat' split) <;> first | rfl | (exfalso; omega))
      | (show unitsOf (l.take 0) = []; rfl))
    | (refine sub_auto ?_; refine subQ ?_)
    | (with_reducible refine And.intro ?_ ?_)
    | (subst hK)
    | exact trivial
  all_goals (try (intros; assumption))
  all_goals (try simp only [Bool.or_eq_true, Bool.and_eq_true, Bool.or_eq_false_iff, Bool.and_eq_false_iff, Bool.not_eq_true', Bool.not_eq_false', Bool.not_eq_true, Bool.not_eq_false, decide_eq_true_eq, decide_eq_false_iff_not, beq_iff_eq, bne_iff_ne, beq_eq_false_iff_ne, bne_eq_false_iff_eq, ne_eq, Int.not_lt, Int.not_le, D.b.injEq, D.i.injEq, D.s.injEq, D.agg.injEq, D.sl.injEq, true_and, and_true, List.cons.injEq, gt_iff_lt, ge_iff_le,  Bool.cond_true_left, Bool.cond_false_right, Bool.cond_true_right, Bool.cond_false_left, seq_iff, seq_dec, dec_f, dec_t, eqB_t, eqB_f] at *)
  all_goals (try (intros; trivial))
  all_goals (try (intros; omega))
  all_goals (try (rw [w64 (by omega) (by omega)]; first | done | omega))
  all_goals first
    | (rw [check_large (by omega)]; done)
    | (rw [cycles_err (by rw [check_large (by omega)]; decide)]; trivial)
    | exact check_of (by omega)
    | exact UInv.nil
    | exact isK3s _
    | (rw [check_bad1 hi.2.2.1 (by omega) (by assumption)]; done)
    | (rw [cycles_err (by rw [check_bad1 hi.2.2.1 (by omega) (by assumption)]; assumption)]; trivial)
    | (rw [check_bad2 hi.2.2.1 (by omega) (by assumption) (by assumption)]; done)
    | (rw [cycles_err (by rw [check_bad2 hi.2.2.1 (by omega) (by assumption) (by assumption)]; show (14 : Int) ≠ 0; decide)]; trivial)
    | (have e : l.take i = l := List.take_of_length_le (by omega)
       rw [e, cycles_ok (by rw [← hi.2.2.1, checkFrom_end (by omega)])]; exact dles_refl _)
    | (rw [← hi.2.2.1, checkFrom_end (by omega)]; done)
    | (have hst := (hi.2.2.2.st (l.getD i zEntry)).trans (stU_none hq)
       have hck := check_state hi.2.2.1 (by omega) (by assumption) (by omega) hst
       clear hC hq
       first
       | (rw [if_pos (by (repeat' split) <;> omega)] at hck; first | exact hck | exact hi.2.2.2.next (by omega) (hst.trans (by (repeat' split) <;> omega)))
       | (rw [if_neg (by (repeat' split) <;> omega)] at hck; first | (rw [hck]; done) | (rw [hck]; (repeat' split) <;> first | rfl | omega) | (rw [cycles_err (by rw [hck]; dsimp only; (repeat' split) <;> omega)]; trivial)))
    | (have hst := (hi.2.2.2.st (l.getD i zEntry)).trans (stU_some hq hu)
       have hck := check_state hi.2.2.1 (by omega) (by assumption) (by omega) hst
       clear hC hq
       first
       | (rw [if_pos (by (repeat' split) <;> omega)] at hck; first | exact hck | exact hi.2.2.2.next (by omega) (hst.trans (by (repeat' split) <;> omega)))
       | (rw [if_neg (by (repeat' split) <;> omega)] at hck; first | (rw [hck]; done) | (rw [hck]; (repeat' split) <;> first | rfl | omega) | (rw [cycles_err (by rw [hck]; dsimp only; (repeat' split) <;> omega)]; trivial)))
end
noncomputable def cfg9 : Cfg := ⟨Try.prog, 15, tab25, (fun _ _ => []), [], (fun _ => none)⟩
theorem cfg9_ti25 : cfg9.ti 25 = none := rfl
theorem cfg9_pins : cfg9.pins = [] := rfl
theorem cfg9_P : cfg9.P = Try.prog := rfl
theorem cfg9_N : cfg9.N = 15 := rfl
theorem cfg9_T25 : cfg9.T 25 = e25 := rfl
theorem cfg9_mv25 : cfg9.mv 25 = (fun _ => []) := rfl
section
attribute [local go_sem] cfg9_P cfg9_N cfg9_pins cfg9_ti25 cfg9_T25 e25 cfg9_mv25
attribute [local go_sem] encChange encEntry ceqChange ceqEntry etaChange etaEntry zfChange zfEntry decChange decEntry seq_dec
theorem con9 (hC : COk cfg9) (l : List Entry) (hp : l.length ≤ 1000000) : Sem Try.prog 9 [.d (.sl 8 (l.map encEntry))] (.tup [.d (.i .i64 (check l).1), .d (.i .i64 (check l).2)]) := by
  refine sem_of_awR (C := cfg9) (rs := [.tmp 2, .tmp 3]) (fun _ => []) Try.func9 rfl rfl rfl rfl rfl rfl ?_
  simp only [enterSl, enterHp, inO, inO2, inO1, inOs, List.append_nil, List.nil_append, Nat.mul_zero, List.cons_append, Nat.zero_add, Nat.reduceAdd, Nat.reduceMul, encChange, encEntry, List.length_map]
  repeat' first
    | (with_reducible first | refine thenS_n ?_ | refine inBlockS_n ?_ | refine AW.seq ?_ | refine AW.block ?_)
    | (with_reducible first | (refine AW.runK hC ?_; intro K hK) | (refine AW.drawK hC (by kernel_rfl) ?_; intro K hK))
    | ((with_reducible first | refine erun_g ?_ | refine edraw_g ?_ | refine exitS_g ?_); refine siQ ?_; (try simp (disch := omega) only [w64, wu8]))
    | (with_reducible refine hCheck_g (by kernel_rfl) ?_)
    | ((first | (refine AW.cond rfl (fun h => ?_) (fun h => ?_)) | (refine AW.cond_ub rfl (fun h => ?_) ?_) | (refine AW.cond_nb rfl ?_ (fun h => ?_))) <;> (try replace h := boolH h) <;> (try (exfalso; first | omega | exact absurd h (by decide))))
    | (with_reducible first | refine AW.skip ?_ | refine AW.exit ?_ | refine AW.ret ?_ | refine thenS_r ?_ | refine thenS_e ?_ | refine inBlockS_r ?_ | refine inBlockS_e ?_ | refine inBlockS_e2 rfl ?_ | refine exitQ_r ?_ | refine exitQ_n ?_)
    | (refine sub_auto ?_; refine subQ ?_)
    | (with_reducible refine And.intro ?_ ?_)
    | (subst hK)
    | exact trivial
  all_goals (try (intros; assumption))
  all_goals (try simp only [Bool.or_eq_true, Bool.and_eq_true, Bool.or_eq_false_iff, Bool.and_eq_false_iff, Bool.not_eq_true', Bool.not_eq_false', Bool.not_eq_true, Bool.not_eq_false, decide_eq_true_eq, decide_eq_false_iff_not, beq_iff_eq, bne_iff_ne, beq_eq_false_iff_ne, bne_eq_false_iff_eq, ne_eq, Int.not_lt, Int.not_le, D.b.injEq, D.i.injEq, D.s.injEq, D.agg.injEq, D.sl.injEq, true_and, and_true, List.cons.injEq, gt_iff_lt, ge_iff_le,  Bool.cond_true_left, Bool.cond_false_right, Bool.cond_true_right, Bool.cond_false_left, seq_iff, seq_dec, dec_f, dec_t, eqB_t, eqB_f] at *)
  all_goals (try (intros; trivial))
  all_goals (try (intros; omega))
  all_goals (try (rw [w64 (by omega) (by omega)]; first | done | omega))
end
noncomputable def cfg10 : Cfg := ⟨Try.prog, 5, tab9, (fun _ _ => []), [], (fun _ => none)⟩
theorem cfg10_pins : cfg10.pins = [] := rfl
theorem cfg10_P : cfg10.P = Try.prog := rfl
theorem cfg10_N : cfg10.N = 5 := rfl
section
attribute [local go_sem] cfg10_P cfg10_N cfg10_pins
theorem con10 (hC : COk cfg10) (l : List Entry) (hp : l.length ≤ 1000000) : Sem Try.prog 10 [.d (.sl 8 (l.map encEntry))] (.own 51 8 (l.map encEntry)) := by
  refine sem_of_awR (C := cfg10) (rs := [.tmp 2]) (fun _ => [(0, 51, 8)]) Try.func10 rfl rfl rfl rfl rfl rfl ?_
  simp only [enterSl, enterHp, inO, inO2, inO1, inOs, List.append_nil, List.nil_append, Nat.mul_zero, List.cons_append, Nat.zero_add, Nat.reduceAdd, Nat.reduceMul, List.length_map]
  repeat' first
    | (with_reducible first | refine thenS_n ?_ | refine inBlockS_n ?_ | refine AW.seq ?_ | refine AW.block ?_)
    | (with_reducible first | (refine AW.runK hC ?_; intro K hK) | (refine AW.drawK hC (by kernel_rfl) ?_; intro K hK))
    | ((with_reducible first | refine erun_g ?_ | refine edraw_g ?_ | refine exitS_g ?_); refine siQ ?_; (try simp (disch := omega) only [w64, wu8]))
    | (with_reducible refine hCheck_g (by kernel_rfl) ?_)
    | ((first | (refine AW.cond rfl (fun h => ?_) (fun h => ?_)) | (refine AW.cond_ub rfl (fun h => ?_) ?_) | (refine AW.cond_nb rfl ?_ (fun h => ?_))) <;> (try replace h := boolH h) <;> (try (exfalso; first | omega | exact absurd h (by decide))))
    | (with_reducible first | refine AW.skip ?_ | refine AW.exit ?_ | refine AW.ret ?_ | refine thenS_r ?_ | refine thenS_e ?_ | refine inBlockS_r ?_ | refine inBlockS_e ?_ | refine inBlockS_e2 rfl ?_ | refine exitQ_r ?_ | refine exitQ_n ?_)
    | (refine sub_auto ?_; refine subQ ?_)
    | (with_reducible refine And.intro ?_ ?_)
    | (subst hK)
    | exact trivial
  all_goals (try (intros; assumption))
  all_goals (try simp only [Bool.or_eq_true, Bool.and_eq_true, Bool.or_eq_false_iff, Bool.and_eq_false_iff, Bool.not_eq_true', Bool.not_eq_false', Bool.not_eq_true, Bool.not_eq_false, decide_eq_true_eq, decide_eq_false_iff_not, beq_iff_eq, bne_iff_ne, beq_eq_false_iff_ne, bne_eq_false_iff_eq, ne_eq, Int.not_lt, Int.not_le, D.b.injEq, D.i.injEq, D.s.injEq, D.agg.injEq, D.sl.injEq, true_and, and_true, List.cons.injEq, gt_iff_lt, ge_iff_le,  Bool.cond_true_left, Bool.cond_false_right, Bool.cond_true_right, Bool.cond_false_left, seq_iff, seq_dec, dec_f, dec_t, eqB_t, eqB_f] at *)
  all_goals (try (intros; trivial))
  all_goals (try (intros; omega))
  all_goals (try (rw [w64 (by omega) (by omega)]; first | done | omega))
  all_goals first | omega | (simp_all [dles]; done)
end
end Go.Ev
