/- Tools and contracts under the laws of this seat: Dvc58, Dvc45, Dvc21, Dvc23, Dvc38, Dvc44, Dvc51, Dvc15, Dvc36. -/
import Derived.Test.YtblpebplbdoneaaE03
set_option linter.unusedVariables false
set_option linter.unusedSimpArgs false
namespace Go.Ev
open Go.Proofs Ty
set_option maxRecDepth 10000
set_option maxHeartbeats 4000000
set_option linter.unusedSimpArgs false
set_option linter.unusedVariables false
attribute [local go_sem] erun_nil erun_cons edraw_eq edrun_nil edrun_cons e1_n e1_g guardSlot_eq lkAll_tmp lkAll_nil lkAll_const lkAll_func val_tmp val_const val_func aget getBox_mk getRow_mk liveRow_mk hp_mk eU_move_n eU_assign_n eU_move eU_assign eU_pick eU_alloc eU_box eU_load eU_store eU_nilCheck eU_binOp eU_unOp eU_fieldAddr eU_field eU_indexAddr eU_index eU_build eU_buildSlice eU_slice eU_extract eU_makeFunc eU_builtin eU_call eU_callv V.cells V.one D.one D.cells newObj nm HS.isFree HS.isLive andOk_some andOk_none List.map_cons List.map_nil Option.bind_some Option.bind_none putL List.cons_append List.nil_append thenS_normal thenS_ret thenS_exit inBlockS_normal inBlockS_ret inBlockS_exit true_and and_true justV justO cval Option.map_some Option.map_none loadAt storeAt ldV ldD mkAgg V.asD spliceL List.take_succ_cons List.take_zero List.drop_succ_cons List.drop_zero List.getElem?_cons_zero List.getElem?_cons_succ List.getElem?_nil List.all_cons List.all_nil Bool.and_true Bool.true_and Bool.and_self List.length_cons List.length_nil vals aopCall argsO argO toD3 toD2 toD1 toDs O.ok O.ok2 O.ok1 O.flat O.flat1 D.flat D.flatA inO inO2 inO1 inOs List.filterMap_nil List.filterMap_cons List.filter_nil List.filter_cons List.nodup_nil decide_true decide_false Bool.not_true Bool.not_false not_true_eq_false not_false_eq_true or_false false_or and_false false_and ne_eq List.append_nil optB guardQ guardRes beq_self_eq_true List.mapM_cons List.mapM_nil Option.pure_def Option.bind_eq_bind true_or or_true or_self callHp ite_self not_true not_false_iff ite_true ite_false if_true if_false Bool.false_eq_true Bool.true_eq_false List.any_nil List.any_cons List.contains_nil List.contains_cons eq_self aopAppend builtinV elems aopBin nilEqS nilEqP aopSlice bound natOf lenOf binD intBin unD bindEq eU_makeMap eU_lookup eU_mapUpdate getMp_mk List.range_zero Nat.zero_le Nat.zero_mul Nat.zero_add Nat.add_zero List.length_append List.take_length List.isEmpty_nil List.isEmpty_cons V.neg List.flatMap_nil and_self List.range_succ forall_const implies_true Nat.not_lt_zero exitQ_normal exitQ_ret exitS_eq exitO resVs resV_tmp resV_cell takeRow argCells mvAt dle_same dles_same ole_same ole oles dle dles List.nodup_cons List.mem_cons List.not_mem_nil List.drop_length Nat.le_refl Nat.lt_irrefl id_eq Option.some.injEq Bool.or_false Bool.false_or Bool.or_self Bool.or_true Bool.true_or false_implies Bool.and_false Bool.false_and List.reverse_cons List.reverse_nil sh1 mget1 mget aopLookup aopMapUpdate mapOf msetK msetV Option.isSome_some Option.isSome_none Bool.cond_true_left Bool.cond_false_right Bool.cond_true_right Bool.cond_false_left beq_true beq_false Bool.not_not imp_self guardVal notB strBin aopSliceS buildV argOk D.splice kEq Option.toList_some Option.toList_none adel List.getD_cons_zero List.getD_cons_succ bxIds bxId backHp hget one1 aopCall0 aopTurn

/- midrange/apply.cycles -/
noncomputable def cfg58 : Cfg := ⟨Try.prog, 112, tab42, mvs, [], (fun _ => none)⟩
theorem cfg58_ti64 : cfg58.ti 64 = none := rfl
theorem cfg58_pins : cfg58.pins = [] := rfl
theorem cfg58_P : cfg58.P = Try.prog := rfl
theorem cfg58_N : cfg58.N = 112 := rfl
theorem cfg58_T64 : cfg58.T 64 = e64 := rfl
theorem cfg58_mv64 : cfg58.mv 64 = (fun _ => []) := rfl
section
attribute [local go_sem] cfg58_P cfg58_N cfg58_pins cfg58_ti64 cfg58_T64 e64 cfg58_mv64 sz3 ag3 zr3 zo3 zd3 by3 sl3 st3 bo3 pt3 sz4 ag4 zr4 zo4 zd4 by4 sl4 st4 bo4 pt4 sz9 ag9 zr9 zo9 zd9 by9 sl9 un9 st9 bo9 pt9 sz22 ag22 zr22 zo22 zd22 by22 el22 sl22 un22 st22 bo22 pt22 sz30 ag30 zr30 zo30 zd30 by30 sl30 st30 bo30 pt30 sz40 ag40 zr40 zd40 by40 sl40 st40 bo40 pt40 of40_0 fa40_0 of40_1 fa40_1 of40_2 fa40_2 of40_3 fa40_3 of40_4 fa40_4 pl40 ek40 sz42 ag42 zr42 zd42 by42 sl42 st42 bo42 pt42 of42_0 fa42_0 of42_1 fa42_1 of42_2 fa42_2 of42_3 fa42_3 pl42 ek42 sz86 ag86 by86 sl86 st86 bo86 pt86 mt86 sz94 ag94 zr94 zo94 zd94 by94 sl94 st94 bo94 pt94 sz97 ag97 zr97 zd97 by97 sl97 st97 bo97 pt97 of97_0 fa97_0 of97_1 fa97_1 of97_2 fa97_2 of97_3 fa97_3 pl97 ek97 
theorem con58 (hC : COk cfg58) (l : List Entry) (hp : l.length ≤ 1000000) : Sem Try.prog 58 [.d (.sl 8 (l.map encEntry))] (.tup [.d (.mp ((cycles l).map keyU) ((cycles l).map fun u => .cp (cellsU u))), .d (.i .i64 (check l).1), .d (.i .i64 (check l).2)]) := by
  refine sem_of_awR (C := cfg58) (rs := [.tmp 2, .tmp 3, .tmp 4]) (fun _ => []) Try.func58 rfl rfl rfl rfl rfl rfl ?_
  simp only [enterSl, enterHp, inO, inO2, inO1, inOs, List.append_nil, List.nil_append, Nat.mul_zero, List.cons_append, Nat.zero_add, Nat.reduceAdd, Nat.reduceMul, encChange, encEntry, ceqChange, ceqEntry, etaChange, etaEntry, zfChange, zfEntry, decChange, decEntry, seq_dec, getDz_Entry, dL_Entry, List.length_map, Int.toNat_natCast, Int.toNat_zero, Nat.sub_zero, ← List.map_take, ← List.map_drop, List.length_take, decL_sl, decM_cons, decM_nil, decM_append, take_map_snoc, dM_Entry, dM_Packet, dM_RAct, isK3, keyIdx_U, aget_fam_lt, toDs_U, fnm_inj, fnm_lit, lit_fnm]
  repeat' first
    | (with_reducible refine thenS_n ?_)
    | (with_reducible refine inBlockS_n ?_)
    | (with_reducible refine AW.seq ?_)
    | (with_reducible refine AW.block ?_)
    | (refine AW.atR 12 rfl ?_; rcases hq : uidx (unitsOf (l.take i)) (l.getD i zEntry).unit with _ | k; rotate_left; obtain ⟨u, hu, hun, hlt⟩ := uidx_some hq; have hv := ptrs_get hlt; have hf := fam_box (t := 97) hu; clear hlt)
    | (with_reducible refine AWh.runK hC ?_; intro K hK)
    | (with_reducible refine AWh.drawK hC (by kernel_rfl) ?_; intro K hK)
    | (with_reducible refine AW.runK hC ?_; intro K hK)
    | (with_reducible refine AW.drawK hC (by kernel_rfl) ?_; intro K hK)
    | ((first | (with_reducible refine erun_g ?_) | (with_reducible refine edraw_g ?_) | (with_reducible refine exitS_g ?_)); (first | (simp (maxSteps := 1000000) only [go_sem, ↓reduceIte, reduceCtorEq, Nat.reduceEqDiff, Nat.reduceLT, Nat.reduceLeDiff, Nat.reduceMul, Nat.reduceAdd, Nat.reduceSub, reduceDIte, Nat.reduceBEq, Nat.reduceBNe, encChange, encEntry, ceqChange, ceqEntry, etaChange, etaEntry, zfChange, zfEntry, decChange, decEntry, seq_dec, getDz_Entry, dL_Entry, List.length_map, Int.toNat_natCast, Int.toNat_zero, Nat.sub_zero, ← List.map_take, ← List.map_drop, List.length_take, decL_sl, decM_cons, decM_nil, decM_append, take_map_snoc, dM_Entry, dM_Packet, dM_RAct, isK3, keyIdx_U, aget_fam_lt, toDs_U, fnm_inj, fnm_lit, lit_fnm, hq, hv, hf]) | (simp (maxSteps := 1000000) only [go_sem, ↓reduceIte, reduceCtorEq, Nat.reduceEqDiff, Nat.reduceLT, Nat.reduceLeDiff, Nat.reduceMul, Nat.reduceAdd, Nat.reduceSub, reduceDIte, Nat.reduceBEq, Nat.reduceBNe, encChange, encEntry, ceqChange, ceqEntry, etaChange, etaEntry, zfChange, zfEntry, decChange, decEntry, seq_dec, getDz_Entry, dL_Entry, List.length_map, Int.toNat_natCast, Int.toNat_zero, Nat.sub_zero, ← List.map_take, ← List.map_drop, List.length_take, decL_sl, decM_cons, decM_nil, decM_append, take_map_snoc, dM_Entry, dM_Packet, dM_RAct, isK3, keyIdx_U, aget_fam_lt, toDs_U, fnm_inj, fnm_lit, lit_fnm, hq]) | (simp (maxSteps := 1000000) only [go_sem, ↓reduceIte, reduceCtorEq, Nat.reduceEqDiff, Nat.reduceLT, Nat.reduceLeDiff, Nat.reduceMul, Nat.reduceAdd, Nat.reduceSub, reduceDIte, Nat.reduceBEq, Nat.reduceBNe, encChange, encEntry, ceqChange, ceqEntry, etaChange, etaEntry, zfChange, zfEntry, decChange, decEntry, seq_dec, getDz_Entry, dL_Entry, List.length_map, Int.toNat_natCast, Int.toNat_zero, Nat.sub_zero, ← List.map_take, ← List.map_drop, List.length_take, decL_sl, decM_cons, decM_nil, decM_append, take_map_snoc, dM_Entry, dM_Packet, dM_RAct, isK3, keyIdx_U, aget_fam_lt, toDs_U, fnm_inj, fnm_lit, lit_fnm])); (try simp (disch := omega) only [w64, wu8]))
    | (with_reducible refine hCheck_g (by kernel_rfl) ?_)
    | ((first | (refine AW.cond rfl (fun h => ?_) (fun h => ?_)) | (refine AW.cond_ub rfl (fun h => ?_) ?_) | (refine AW.cond_nb rfl ?_ (fun h => ?_))) <;> (try simp only [Bool.or_eq_true, Bool.and_eq_true, Bool.or_eq_false_iff, Bool.and_eq_false_iff, Bool.not_eq_true', Bool.not_eq_false', Bool.not_eq_true, Bool.not_eq_false, decide_eq_true_eq, decide_eq_false_iff_not, beq_iff_eq, bne_iff_ne, beq_eq_false_iff_ne, bne_eq_false_iff_eq, ne_eq, Int.not_lt, Int.not_le, D.b.injEq, D.i.injEq, D.s.injEq, D.agg.injEq, D.sl.injEq, true_and, and_true, List.cons.injEq, gt_iff_lt, ge_iff_le,  Bool.cond_true_left, Bool.cond_false_right, Bool.cond_true_right, Bool.cond_false_left, seq_iff, seq_dec, dec_f, dec_t, eqB_t, eqB_f] at h) <;> (try (exfalso; first | omega | exact absurd h (by decide))))
    | (with_reducible refine AW.skip ?_)
    | (with_reducible refine AW.exit ?_)
    | (with_reducible refine AW.ret ?_)
    | (with_reducible refine thenS_r ?_)
    | (with_reducible refine thenS_e ?_)
    | (with_reducible refine inBlockS_r ?_)
    | (with_reducible refine inBlockS_e ?_)
    | (with_reducible refine inBlockS_e2 rfl ?_)
    | (with_reducible refine exitQ_r ?_)
    | (with_reducible refine exitQ_n ?_)
    | (refine AW.loopN 5 rfl (ι := Nat) (fun i => mkS [(0, V.d (.sl 8 (l.map encEntry))), (5, V.mref 240), (16, V.d (.sl 8 (l.map encEntry))), (17, V.d (.i .i64 (l.length : Int))), (18, V.d (.i .i64 (i : Int)))] ((240, .live (.mp 86 ((unitsOf (l.take i)).map keyU) (ptrs ((unitsOf (l.take i)).map cellsU).length))) :: fam 97 ((unitsOf (l.take i)).map cellsU))) (fun i => i ≤ l.length ∧ l.length ≤ 80 ∧ checkFrom l (l.length - i) i = check l ∧ UInv (unitsOf (l.take i)) (l.take i)) (fun i => l.length - i) (0) ?_ ?_ (fun i hi => ?_) <;> (try dsimp only) <;> (try dsimp only at hi))
    | (refine LoopNext.mk1 5 (i + 1) ?_ ?_ ?_ <;> (try dsimp only))
    | (refine subU_same (M := 240) (us := []) (by omega) rfl ?_ ?_ ?_ ?_ <;> first
      | (simp only [aget, Nat.reduceEqDiff, fnm_inj, fnm_lit, lit_fnm, Nat.reduceLT, ↓reduceIte, List.take_zero]; done)
      | (intro j; simp only [aget, Nat.reduceEqDiff, fnm_inj, fnm_lit, lit_fnm, Nat.reduceLT, ↓reduceIte]; done)
      | (intro j hj; simp only [aget, Nat.reduceEqDiff, fnm_inj, fnm_lit, lit_fnm, Nat.reduceLT, hj, ↓reduceIte]; done)
      | (intro ρ nf h1 h2; simp only [slSub, aget, vs, ↓reduceIte, Nat.reduceEqDiff, dle_same, dles_same, dle, D.i.injEq, eq_self, and_self, and_true, true_and, V.mref.injEq, exists_eq_left', h1, h2]; first | done | omega)
      | (rw [unitsOf_take (by omega), uStep_same (by omega) (by omega)]; done)
      | (rw [unitsOf_take (by omega), uStep_new (by omega)]; done)
      | (rw [unitsOf_take (by omega), uStep_upd (by omega) (by omega) hq hu]; done)
      | (simp only [aget, Nat.reduceEqDiff, fnm_inj, fnm_lit, lit_fnm, Nat.reduceLT, ↓reduceIte, uEnd]; (repeat' split) <;> first | rfl | (exfalso; omega))
      | (show unitsOf (l.take 0) = []; rfl))
    | (refine subU_same (M := 240) (us := unitsOf (l.take i)) (by omega) rfl ?_ ?_ ?_ ?_ <;> first
      | (simp only [aget, Nat.reduceEqDiff, fnm_inj, fnm_lit, lit_fnm, Nat.reduceLT, ↓reduceIte, List.take_zero]; done)
      | (intro j; simp only [aget, Nat.reduceEqDiff, fnm_inj, fnm_lit, lit_fnm, Nat.reduceLT, ↓reduceIte]; done)
      | (intro j hj; simp only [aget, Nat.reduceEqDiff, fnm_inj, fnm_lit, lit_fnm, Nat.reduceLT, hj, ↓reduceIte]; done)
      | (intro ρ nf h1 h2; simp only [slSub, aget, vs, ↓reduceIte, Nat.reduceEqDiff, dle_same, dles_same, dle, D.i.injEq, eq_self, and_self, and_true, true_and, V.mref.injEq, exists_eq_left', h1, h2]; first | done | omega)
      | (rw [unitsOf_take (by omega), uStep_same (by omega) (by omega)]; done)
      | (rw [unitsOf_take (by omega), uStep_new (by omega)]; done)
      | (rw [unitsOf_take (by omega), uStep_upd (by omega) (by omega) hq hu]; done)
      | (simp only [aget, Nat.reduceEqDiff, fnm_inj, fnm_lit, lit_fnm, Nat.reduceLT, ↓reduceIte, uEnd]; (repeat' split) <;> first | rfl | (exfalso; omega))
      | (show unitsOf (l.take 0) = []; rfl))
    | (refine subU_new (M := 240) (us := unitsOf (l.take i)) (by omega) rfl (b := 1232) (u := ⟨(l.getD i zEntry).unit, (l.getD i zEntry).number, (l.getD i zEntry).number, 2⟩) (by omega) (by omega) ?_ ?_ ?_ ?_ ?_ <;> first
      | (simp only [aget, Nat.reduceEqDiff, fnm_inj, fnm_lit, lit_fnm, Nat.reduceLT, ↓reduceIte, List.take_zero]; done)
      | (intro j; simp only [aget, Nat.reduceEqDiff, fnm_inj, fnm_lit, lit_fnm, Nat.reduceLT, ↓reduceIte]; done)
      | (intro j hj; simp only [aget, Nat.reduceEqDiff, fnm_inj, fnm_lit, lit_fnm, Nat.reduceLT, hj, ↓reduceIte]; done)
      | (intro ρ nf h1 h2; simp only [slSub, aget, vs, ↓reduceIte, Nat.reduceEqDiff, dle_same, dles_same, dle, D.i.injEq, eq_self, and_self, and_true, true_and, V.mref.injEq, exists_eq_left', h1, h2]; first | done | omega)
      | (rw [unitsOf_take (by omega), uStep_same (by omega) (by omega)]; done)
      | (rw [unitsOf_take (by omega), uStep_new (by omega)]; done)
      | (rw [unitsOf_take (by omega), uStep_upd (by omega) (by omega) hq hu]; done)
      | (simp only [aget, Nat.reduceEqDiff, fnm_inj, fnm_lit, lit_fnm, Nat.reduceLT, ↓reduceIte, uEnd]; (repeat' split) <;> first | rfl | (exfalso; omega))
      | (show unitsOf (l.take 0) = []; rfl))
    | (refine subU_upd (M := 240) (us := unitsOf (l.take i)) (by omega) rfl (u' := uEnd (l.getD i zEntry) u) hu ?_ ?_ rfl ?_ ?_ ?_ <;> first
      | (simp only [aget, Nat.reduceEqDiff, fnm_inj, fnm_lit, lit_fnm, Nat.reduceLT, ↓reduceIte, List.take_zero]; done)
      | (intro j; simp only [aget, Nat.reduceEqDiff, fnm_inj, fnm_lit, lit_fnm, Nat.reduceLT, ↓reduceIte]; done)
      | (intro j hj; simp only [aget, Nat.reduceEqDiff, fnm_inj, fnm_lit, lit_fnm, Nat.reduceLT, hj, ↓reduceIte]; done)
      | (intro ρ nf h1 h2; simp only [slSub, aget, vs, ↓reduceIte, Nat.reduceEqDiff, dle_same, dles_same, dle, D.i.injEq, eq_self, and_self, and_true, true_and, V.mref.injEq, exists_eq_left', h1, h2]; first | done | omega)
      | (rw [unitsOf_take (by omega), uStep_same (by omega) (by omega)]; done)
      | (rw [unitsOf_take (by omega), uStep_new (by omega)]; done)
      | (rw [unitsOf_take (by omega), uStep_upd (by omega) (by omega) hq hu]; done)
      | (simp only [aget, Nat.reduceEqDiff, fnm_inj, fnm_lit, lit_fnm, Nat.reduceLT, ↓reduceIte, uEnd]; (repeat' split) <;> first | rfl | (exfalso; omega))
      | (show unitsOf (l.take 0) = []; rfl))
    | (refine sub_auto ?_; simp (maxSteps := 1000000) only [forall_eq, V.ptr.injEq, V.row.injEq, V.rp.injEq, V.mref.injEq, exists_eq_left', and_assoc, rhoV, rhoVs, rhoSl, rhoO, rhoHp, rhoDd, rho1, HS.obj?, forall_eq', slSub, hpSub, hpSub1, nfL, vs, vss, vds, vd1, os, aget, go_sem, ↓reduceIte, reduceCtorEq, Nat.reduceEqDiff, Nat.reduceLT, Nat.reduceLeDiff, Nat.reduceMul, Nat.reduceAdd, Nat.reduceSub, reduceDIte, Nat.reduceBEq, Nat.reduceBNe, encChange, encEntry, ceqChange, ceqEntry, etaChange, etaEntry, zfChange, zfEntry, decChange, decEntry, seq_dec, getDz_Entry, dL_Entry, List.length_map, Int.toNat_natCast, Int.toNat_zero, Nat.sub_zero, ← List.map_take, ← List.map_drop, List.length_take, decL_sl, decM_cons, decM_nil, decM_append, take_map_snoc, dM_Entry, dM_Packet, dM_RAct, isK3, keyIdx_U, aget_fam_lt, toDs_U, fnm_inj, fnm_lit, lit_fnm])
    | (with_reducible refine And.intro ?_ ?_)
    | (subst hK)
  all_goals (try (intros; assumption))
  all_goals (try simp only [Bool.or_eq_true, Bool.and_eq_true, Bool.or_eq_false_iff, Bool.and_eq_false_iff, Bool.not_eq_true', Bool.not_eq_false', Bool.not_eq_true, Bool.not_eq_false, decide_eq_true_eq, decide_eq_false_iff_not, beq_iff_eq, bne_iff_ne, beq_eq_false_iff_ne, bne_eq_false_iff_eq, ne_eq, Int.not_lt, Int.not_le, D.b.injEq, D.i.injEq, D.s.injEq, D.agg.injEq, D.sl.injEq, true_and, and_true, List.cons.injEq, gt_iff_lt, ge_iff_le,  Bool.cond_true_left, Bool.cond_false_right, Bool.cond_true_right, Bool.cond_false_left, seq_iff, seq_dec, dec_f, dec_t, eqB_t, eqB_f] at *)
  all_goals (try (intros; trivial))
  all_goals (try (intros; omega))
  all_goals (try (rw [w64 (by omega) (by omega)]; first | done | omega))
  all_goals first
    | (rw [check_large (by omega)]; done)
    | (rw [cycles_err (by rw [check_large (by omega)]; decide)]; trivial)
    | exact check_of (by omega)
    | exact UInv.nil
    | exact isK3s _
    | (rw [check_bad1 hi.2.2.1 (by omega) (by assumption)]; done)
    | (rw [cycles_err (by rw [check_bad1 hi.2.2.1 (by omega) (by assumption)]; assumption)]; trivial)
    | (rw [check_bad2 hi.2.2.1 (by omega) (by assumption) (by assumption)]; done)
    | (rw [cycles_err (by rw [check_bad2 hi.2.2.1 (by omega) (by assumption) (by assumption)]; show (14 : Int) ≠ 0; decide)]; trivial)
    | (have e : l.take i = l := List.take_of_length_le (by omega)
       rw [e, cycles_ok (by rw [← hi.2.2.1, checkFrom_end (by omega)])]; exact dles_refl _)
    | (rw [← hi.2.2.1, checkFrom_end (by omega)]; done)
    | (have hst := (hi.2.2.2.st (l.getD i zEntry)).trans (stU_none hq)
       have hck := check_state hi.2.2.1 (by omega) (by assumption) (by omega) hst
       clear hC hq
       first
       | (rw [if_pos (by (repeat' split) <;> omega)] at hck; first | exact hck | exact hi.2.2.2.next (by omega) (hst.trans (by (repeat' split) <;> omega)))
       | (rw [if_neg (by (repeat' split) <;> omega)] at hck; first | (rw [hck]; done) | (rw [hck]; (repeat' split) <;> first | rfl | omega) | (rw [cycles_err (by rw [hck]; dsimp only; (repeat' split) <;> omega)]; trivial)))
    | (have hst := (hi.2.2.2.st (l.getD i zEntry)).trans (stU_some hq hu)
       have hck := check_state hi.2.2.1 (by omega) (by assumption) (by omega) hst
       clear hC hq
       first
       | (rw [if_pos (by (repeat' split) <;> omega)] at hck; first | exact hck | exact hi.2.2.2.next (by omega) (hst.trans (by (repeat' split) <;> omega)))
       | (rw [if_neg (by (repeat' split) <;> omega)] at hck; first | (rw [hck]; done) | (rw [hck]; (repeat' split) <;> first | rfl | omega) | (rw [cycles_err (by rw [hck]; dsimp only; (repeat' split) <;> omega)]; trivial)))

end
/- midrange/apply.CheckEntries -/
noncomputable def cfg45 : Cfg := ⟨Try.prog, 15, tab58, mvs, [], (fun _ => none)⟩
theorem cfg45_ti58 : cfg45.ti 58 = none := rfl
theorem cfg45_pins : cfg45.pins = [] := rfl
theorem cfg45_P : cfg45.P = Try.prog := rfl
theorem cfg45_N : cfg45.N = 15 := rfl
theorem cfg45_T58 : cfg45.T 58 = e58 := rfl
theorem cfg45_mv58 : cfg45.mv 58 = (fun _ => []) := rfl
section
attribute [local go_sem] cfg45_P cfg45_N cfg45_pins cfg45_ti58 cfg45_T58 e58 cfg45_mv58 sz3 ag3 zr3 zo3 zd3 by3 sl3 st3 bo3 pt3 sz9 ag9 zr9 zo9 zd9 by9 sl9 un9 st9 bo9 pt9 sz22 ag22 zr22 zo22 zd22 by22 el22 sl22 un22 st22 bo22 pt22 sz40 ag40 zr40 zd40 by40 sl40 st40 bo40 pt40 of40_0 fa40_0 of40_1 fa40_1 of40_2 fa40_2 of40_3 fa40_3 of40_4 fa40_4 pl40 ek40 sz42 ag42 zr42 zd42 by42 sl42 st42 bo42 pt42 of42_0 fa42_0 of42_1 fa42_1 of42_2 fa42_2 of42_3 fa42_3 pl42 ek42 
theorem con45 (hC : COk cfg45) (l : List Entry) (hp : l.length ≤ 1000000) : Sem Try.prog 45 [.d (.sl 8 (l.map encEntry))] (.tup [.d (.i .i64 (check l).1), .d (.i .i64 (check l).2)]) := by
  refine sem_of_awR (C := cfg45) (rs := [.tmp 2, .tmp 3]) (fun _ => []) Try.func45 rfl rfl rfl rfl rfl rfl ?_
  simp only [enterSl, enterHp, inO, inO2, inO1, inOs, List.append_nil, List.nil_append, Nat.mul_zero, List.cons_append, Nat.zero_add, Nat.reduceAdd, Nat.reduceMul, encChange, encEntry, ceqChange, ceqEntry, etaChange, etaEntry, zfChange, zfEntry, decChange, decEntry, seq_dec, getDz_Entry, dL_Entry, List.length_map, Int.toNat_natCast, Int.toNat_zero, Nat.sub_zero, ← List.map_take, ← List.map_drop, List.length_take, decL_sl, decM_cons, decM_nil, decM_append, take_map_snoc, dM_Entry, dM_Packet, dM_RAct]
  repeat' first
    | (with_reducible refine thenS_n ?_)
    | (with_reducible refine inBlockS_n ?_)
    | (with_reducible refine AW.seq ?_)
    | (with_reducible refine AW.block ?_)
    | (with_reducible refine AW.runK hC ?_; intro K hK)
    | (with_reducible refine AW.drawK hC (by kernel_rfl) ?_; intro K hK)
    | ((first | (with_reducible refine erun_g ?_) | (with_reducible refine edraw_g ?_) | (with_reducible refine exitS_g ?_)); simp (maxSteps := 1000000) only [go_sem, ↓reduceIte, reduceCtorEq, Nat.reduceEqDiff, Nat.reduceLT, Nat.reduceLeDiff, Nat.reduceMul, Nat.reduceAdd, Nat.reduceSub, reduceDIte, Nat.reduceBEq, Nat.reduceBNe, encChange, encEntry, ceqChange, ceqEntry, etaChange, etaEntry, zfChange, zfEntry, decChange, decEntry, seq_dec, getDz_Entry, dL_Entry, List.length_map, Int.toNat_natCast, Int.toNat_zero, Nat.sub_zero, ← List.map_take, ← List.map_drop, List.length_take, decL_sl, decM_cons, decM_nil, decM_append, take_map_snoc, dM_Entry, dM_Packet, dM_RAct]; (try simp (disch := omega) only [w64, wu8]))
    | (with_reducible refine hCheck_g (by kernel_rfl) ?_)
    | ((first | (refine AW.cond rfl (fun h => ?_) (fun h => ?_)) | (refine AW.cond_ub rfl (fun h => ?_) ?_) | (refine AW.cond_nb rfl ?_ (fun h => ?_))) <;> (try simp only [Bool.or_eq_true, Bool.and_eq_true, Bool.or_eq_false_iff, Bool.and_eq_false_iff, Bool.not_eq_true', Bool.not_eq_false', Bool.not_eq_true, Bool.not_eq_false, decide_eq_true_eq, decide_eq_false_iff_not, beq_iff_eq, bne_iff_ne, beq_eq_false_iff_ne, bne_eq_false_iff_eq, ne_eq, Int.not_lt, Int.not_le, D.b.injEq, D.i.injEq, D.s.injEq, D.agg.injEq, D.sl.injEq, true_and, and_true, List.cons.injEq, gt_iff_lt, ge_iff_le,  Bool.cond_true_left, Bool.cond_false_right, Bool.cond_true_right, Bool.cond_false_left, seq_iff, seq_dec, dec_f, dec_t, eqB_t, eqB_f] at h) <;> (try (exfalso; first | omega | exact absurd h (by decide))))
    | (with_reducible refine AW.skip ?_)
    | (with_reducible refine AW.exit ?_)
    | (with_reducible refine AW.ret ?_)
    | (with_reducible refine thenS_r ?_)
    | (with_reducible refine thenS_e ?_)
    | (with_reducible refine inBlockS_r ?_)
    | (with_reducible refine inBlockS_e ?_)
    | (with_reducible refine inBlockS_e2 rfl ?_)
    | (with_reducible refine exitQ_r ?_)
    | (with_reducible refine exitQ_n ?_)
    | (refine sub_auto ?_; simp (maxSteps := 1000000) only [forall_eq, V.ptr.injEq, V.row.injEq, V.rp.injEq, V.mref.injEq, exists_eq_left', and_assoc, rhoV, rhoVs, rhoSl, rhoO, rhoHp, rhoDd, rho1, HS.obj?, forall_eq', slSub, hpSub, hpSub1, nfL, vs, vss, vds, vd1, os, aget, go_sem, ↓reduceIte, reduceCtorEq, Nat.reduceEqDiff, Nat.reduceLT, Nat.reduceLeDiff, Nat.reduceMul, Nat.reduceAdd, Nat.reduceSub, reduceDIte, Nat.reduceBEq, Nat.reduceBNe, encChange, encEntry, ceqChange, ceqEntry, etaChange, etaEntry, zfChange, zfEntry, decChange, decEntry, seq_dec, getDz_Entry, dL_Entry, List.length_map, Int.toNat_natCast, Int.toNat_zero, Nat.sub_zero, ← List.map_take, ← List.map_drop, List.length_take, decL_sl, decM_cons, decM_nil, decM_append, take_map_snoc, dM_Entry, dM_Packet, dM_RAct])
    | (with_reducible refine And.intro ?_ ?_)
    | (subst hK)
  all_goals (try (intros; assumption))
  all_goals (try simp only [Bool.or_eq_true, Bool.and_eq_true, Bool.or_eq_false_iff, Bool.and_eq_false_iff, Bool.not_eq_true', Bool.not_eq_false', Bool.not_eq_true, Bool.not_eq_false, decide_eq_true_eq, decide_eq_false_iff_not, beq_iff_eq, bne_iff_ne, beq_eq_false_iff_ne, bne_eq_false_iff_eq, ne_eq, Int.not_lt, Int.not_le, D.b.injEq, D.i.injEq, D.s.injEq, D.agg.injEq, D.sl.injEq, true_and, and_true, List.cons.injEq, gt_iff_lt, ge_iff_le,  Bool.cond_true_left, Bool.cond_false_right, Bool.cond_true_right, Bool.cond_false_left, seq_iff, seq_dec, dec_f, dec_t, eqB_t, eqB_f] at *)
  all_goals (try (intros; trivial))
  all_goals (try (intros; omega))
  all_goals (try (rw [w64 (by omega) (by omega)]; first | done | omega))
end
/- midrange/midrangeref36.Err -/
noncomputable def cfg21 : Cfg := ⟨Try.prog, 99, tab45, mvs, [], (fun _ => none)⟩
theorem cfg21_ti41 : cfg21.ti 41 = none := rfl
theorem cfg21_ti42 : cfg21.ti 42 = none := rfl
theorem cfg21_ti43 : cfg21.ti 43 = none := rfl
theorem cfg21_pins : cfg21.pins = [] := rfl
theorem cfg21_P : cfg21.P = Try.prog := rfl
theorem cfg21_N : cfg21.N = 99 := rfl
theorem cfg21_T41 : cfg21.T 41 = e41 := rfl
theorem cfg21_mv41 : cfg21.mv 41 = (fun _ => []) := rfl
theorem cfg21_T42 : cfg21.T 42 = e42 := rfl
theorem cfg21_mv42 : cfg21.mv 42 = (fun _ => []) := rfl
theorem cfg21_T43 : cfg21.T 43 = e43 := rfl
theorem cfg21_mv43 : cfg21.mv 43 = (fun _ => []) := rfl
section
attribute [local go_sem] cfg21_P cfg21_N cfg21_pins cfg21_ti41 cfg21_ti42 cfg21_ti43 cfg21_T41 e41 cfg21_mv41 cfg21_T42 e42 cfg21_mv42 cfg21_T43 e43 cfg21_mv43 sz3 ag3 zr3 zo3 zd3 by3 sl3 st3 bo3 pt3 sz4 ag4 zr4 zo4 zd4 by4 sl4 st4 bo4 pt4 sz9 ag9 zr9 zo9 zd9 by9 sl9 un9 st9 bo9 pt9 sz22 ag22 zr22 zo22 zd22 by22 el22 sl22 un22 st22 bo22 pt22 sz23 ag23 zr23 zo23 zd23 by23 el23 sl23 un23 st23 bo23 pt23 sz25 ag25 zr25 zd25 by25 sl25 st25 bo25 pt25 of25_0 fa25_0 of25_1 fa25_1 of25_2 fa25_2 of25_3 fa25_3 of25_4 fa25_4 of25_5 fa25_5 pl25 sz40 ag40 zr40 zd40 by40 sl40 st40 bo40 pt40 of40_0 fa40_0 of40_1 fa40_1 of40_2 fa40_2 of40_3 fa40_3 of40_4 fa40_4 pl40 ek40 sz42 ag42 zr42 zd42 by42 sl42 st42 bo42 pt42 of42_0 fa42_0 of42_1 fa42_1 of42_2 fa42_2 of42_3 fa42_3 pl42 ek42 sz66 ag66 zr66 zd66 by66 sl66 st66 bo66 pt66 of66_0 fa66_0 of66_1 fa66_1 pl66 ek66 
theorem con21 (hC : COk cfg21) (x : Remote) (hp : x.source.length ≤ 1000000 ∧ x.target.length ≤ 1000000 ∧ x.wire.length ≤ 1000000) : Sem Try.prog 21 [.d (encRemote x)] (.d (.i .i64 (remoteErr x))) := by
  refine sem_of_awR (C := cfg21) (rs := [.tmp 2]) (fun _ => []) Try.func21 rfl rfl rfl rfl rfl rfl ?_
  simp only [enterSl, enterHp, inO, inO2, inO1, inOs, List.append_nil, List.nil_append, Nat.mul_zero, List.cons_append, Nat.zero_add, Nat.reduceAdd, Nat.reduceMul, encChange, encEntry, ceqChange, ceqEntry, etaChange, etaEntry, zfChange, zfEntry, decChange, decEntry, seq_dec, encRemote, decRemote, encPacket, decPacket, encRAct, decRAct, etaRemote, zfRemote, etaPacket, zfPacket, ceqPacket, etaRAct, zfRAct, ceqRAct, getDz_Packet, getDz_RAct, dL_Packet, dL_RAct, dM_Entry, dM_Packet, getDz_Entry, dL_Entry, List.length_map, Int.toNat_natCast, Int.toNat_zero, Nat.sub_zero, ← List.map_take, ← List.map_drop, List.length_take, decL_sl, decM_cons, decM_nil, decM_append, take_map_snoc, dM_Entry, dM_Packet, dM_RAct]
  repeat' first
    | (with_reducible refine thenS_n ?_)
    | (with_reducible refine inBlockS_n ?_)
    | (with_reducible refine AW.seq ?_)
    | (with_reducible refine AW.block ?_)
    | (with_reducible refine AW.runK hC ?_; intro K hK)
    | (with_reducible refine AW.drawK hC (by kernel_rfl) ?_; intro K hK)
    | ((first | (with_reducible refine erun_g ?_) | (with_reducible refine edraw_g ?_) | (with_reducible refine exitS_g ?_)); simp (maxSteps := 1000000) only [go_sem, ↓reduceIte, reduceCtorEq, Nat.reduceEqDiff, Nat.reduceLT, Nat.reduceLeDiff, Nat.reduceMul, Nat.reduceAdd, Nat.reduceSub, reduceDIte, Nat.reduceBEq, Nat.reduceBNe, encChange, encEntry, ceqChange, ceqEntry, etaChange, etaEntry, zfChange, zfEntry, decChange, decEntry, seq_dec, encRemote, decRemote, encPacket, decPacket, encRAct, decRAct, etaRemote, zfRemote, etaPacket, zfPacket, ceqPacket, etaRAct, zfRAct, ceqRAct, getDz_Packet, getDz_RAct, dL_Packet, dL_RAct, dM_Entry, dM_Packet, getDz_Entry, dL_Entry, List.length_map, Int.toNat_natCast, Int.toNat_zero, Nat.sub_zero, ← List.map_take, ← List.map_drop, List.length_take, decL_sl, decM_cons, decM_nil, decM_append, take_map_snoc, dM_Entry, dM_Packet, dM_RAct]; (try simp (disch := omega) only [w64, wu8]))
    | (with_reducible refine hCheck_g (by kernel_rfl) ?_)
    | ((first | (refine AW.cond rfl (fun h => ?_) (fun h => ?_)) | (refine AW.cond_ub rfl (fun h => ?_) ?_) | (refine AW.cond_nb rfl ?_ (fun h => ?_))) <;> (try simp only [Bool.or_eq_true, Bool.and_eq_true, Bool.or_eq_false_iff, Bool.and_eq_false_iff, Bool.not_eq_true', Bool.not_eq_false', Bool.not_eq_true, Bool.not_eq_false, decide_eq_true_eq, decide_eq_false_iff_not, beq_iff_eq, bne_iff_ne, beq_eq_false_iff_ne, bne_eq_false_iff_eq, ne_eq, Int.not_lt, Int.not_le, D.b.injEq, D.i.injEq, D.s.injEq, D.agg.injEq, D.sl.injEq, true_and, and_true, List.cons.injEq, gt_iff_lt, ge_iff_le,  Bool.cond_true_left, Bool.cond_false_right, Bool.cond_true_right, Bool.cond_false_left, seq_iff, seq_dec, dec_f, dec_t, eqB_t, eqB_f] at h) <;> (try (exfalso; first | omega | exact absurd h (by decide))))
    | (with_reducible refine AW.skip ?_)
    | (with_reducible refine AW.exit ?_)
    | (with_reducible refine AW.ret ?_)
    | (with_reducible refine thenS_r ?_)
    | (with_reducible refine thenS_e ?_)
    | (with_reducible refine inBlockS_r ?_)
    | (with_reducible refine inBlockS_e ?_)
    | (with_reducible refine inBlockS_e2 rfl ?_)
    | (with_reducible refine exitQ_r ?_)
    | (with_reducible refine exitQ_n ?_)
    | (refine AW.loopN 15 rfl (ι := Nat) (fun i => mkS [(1, V.ptr 16 0), (4, V.d (.i .i64 (i : Int)))] ([(16, .live (.box 25 [.d (.b x.sync), .d (.sl 8 (x.source.map encEntry)), .d (.sl 8 (x.target.map encEntry)), .d (.i .i64 x.sent), .d (.i .i64 x.acked), .d (.sl 2 (x.wire.map encPacket))]))])) (fun i => i ≤ x.wire.length ∧ wireErr x.source.length x.target.length (x.wire.drop i) = remoteErr x) (fun i => x.wire.length - i) (0) ?_ ?_ (fun i hi => ?_) <;> (try dsimp only) <;> (try dsimp only at hi))
    | (refine LoopNext.mk1 15 (i + 1) ?_ ?_ ?_ <;> (try dsimp only))
    | (refine sub_auto ?_; simp (maxSteps := 1000000) only [forall_eq, V.ptr.injEq, V.row.injEq, V.rp.injEq, V.mref.injEq, exists_eq_left', and_assoc, rhoV, rhoVs, rhoSl, rhoO, rhoHp, rhoDd, rho1, HS.obj?, forall_eq', slSub, hpSub, hpSub1, nfL, vs, vss, vds, vd1, os, aget, go_sem, ↓reduceIte, reduceCtorEq, Nat.reduceEqDiff, Nat.reduceLT, Nat.reduceLeDiff, Nat.reduceMul, Nat.reduceAdd, Nat.reduceSub, reduceDIte, Nat.reduceBEq, Nat.reduceBNe, encChange, encEntry, ceqChange, ceqEntry, etaChange, etaEntry, zfChange, zfEntry, decChange, decEntry, seq_dec, encRemote, decRemote, encPacket, decPacket, encRAct, decRAct, etaRemote, zfRemote, etaPacket, zfPacket, ceqPacket, etaRAct, zfRAct, ceqRAct, getDz_Packet, getDz_RAct, dL_Packet, dL_RAct, dM_Entry, dM_Packet, getDz_Entry, dL_Entry, List.length_map, Int.toNat_natCast, Int.toNat_zero, Nat.sub_zero, ← List.map_take, ← List.map_drop, List.length_take, decL_sl, decM_cons, decM_nil, decM_append, take_map_snoc, dM_Entry, dM_Packet, dM_RAct])
    | (with_reducible refine And.intro ?_ ?_)
    | (subst hK)
  all_goals (try (intros; assumption))
  all_goals (try simp only [Bool.or_eq_true, Bool.and_eq_true, Bool.or_eq_false_iff, Bool.and_eq_false_iff, Bool.not_eq_true', Bool.not_eq_false', Bool.not_eq_true, Bool.not_eq_false, decide_eq_true_eq, decide_eq_false_iff_not, beq_iff_eq, bne_iff_ne, beq_eq_false_iff_ne, bne_eq_false_iff_eq, ne_eq, Int.not_lt, Int.not_le, D.b.injEq, D.i.injEq, D.s.injEq, D.agg.injEq, D.sl.injEq, true_and, and_true, List.cons.injEq, gt_iff_lt, ge_iff_le,  Bool.cond_true_left, Bool.cond_false_right, Bool.cond_true_right, Bool.cond_false_left, seq_iff, seq_dec, dec_f, dec_t, eqB_t, eqB_f] at *)
  all_goals (try (intros; trivial))
  all_goals (try (intros; omega))
  all_goals (try (rw [w64 (by omega) (by omega)]; first | done | omega))
  all_goals first
    | (rw [← hi.2, drop_getD zPacket (by omega), wireErr]; grind)
    | (have := hi.2; rw [drop_getD zPacket (by omega), wireErr] at this; grind)
    | (rw [← hi.2, List.drop_of_length_le (by omega)]; rfl)
    | grind [remoteErr]
    | grind [remoteErr, beginsWith]

end
/- midrange/remote.CheckRemote -/
noncomputable def cfg23 : Cfg := ⟨Try.prog, 118, tab21, mvs, [], (fun _ => none)⟩
theorem cfg23_ti45 : cfg23.ti 45 = none := rfl
theorem cfg23_ti46 : cfg23.ti 46 = none := rfl
theorem cfg23_pins : cfg23.pins = [] := rfl
theorem cfg23_P : cfg23.P = Try.prog := rfl
theorem cfg23_N : cfg23.N = 118 := rfl
theorem cfg23_T45 : cfg23.T 45 = e45 := rfl
theorem cfg23_mv45 : cfg23.mv 45 = (fun _ => []) := rfl
theorem cfg23_T46 : cfg23.T 46 = e46 := rfl
theorem cfg23_mv46 : cfg23.mv 46 = (fun _ => []) := rfl
section
attribute [local go_sem] cfg23_P cfg23_N cfg23_pins cfg23_ti45 cfg23_ti46 cfg23_T45 e45 cfg23_mv45 cfg23_T46 e46 cfg23_mv46 sz3 ag3 zr3 zo3 zd3 by3 sl3 st3 bo3 pt3 sz4 ag4 zr4 zo4 zd4 by4 sl4 st4 bo4 pt4 sz9 ag9 zr9 zo9 zd9 by9 sl9 un9 st9 bo9 pt9 sz22 ag22 zr22 zo22 zd22 by22 el22 sl22 un22 st22 bo22 pt22 sz23 ag23 zr23 zo23 zd23 by23 el23 sl23 un23 st23 bo23 pt23 sz25 ag25 zr25 zd25 by25 sl25 st25 bo25 pt25 of25_0 fa25_0 of25_1 fa25_1 of25_2 fa25_2 of25_3 fa25_3 of25_4 fa25_4 of25_5 fa25_5 pl25 sz30 ag30 zr30 zo30 zd30 by30 sl30 st30 bo30 pt30 sz40 ag40 zr40 zd40 by40 sl40 st40 bo40 pt40 of40_0 fa40_0 of40_1 fa40_1 of40_2 fa40_2 of40_3 fa40_3 of40_4 fa40_4 pl40 ek40 sz42 ag42 zr42 zd42 by42 sl42 st42 bo42 pt42 of42_0 fa42_0 of42_1 fa42_1 of42_2 fa42_2 of42_3 fa42_3 pl42 ek42 sz66 ag66 zr66 zd66 by66 sl66 st66 bo66 pt66 of66_0 fa66_0 of66_1 fa66_1 pl66 ek66 
theorem con23 (hC : COk cfg23) (x : Remote) (hp : x.source.length ≤ 1000000 ∧ x.target.length ≤ 1000000 ∧ x.wire.length ≤ 1000000) : Sem Try.prog 23 [.d (encRemote x)] (.d (.i .i64 (remoteErr x))) := by
  refine sem_of_awR (C := cfg23) (rs := [.tmp 2]) (fun _ => []) Try.func23 rfl rfl rfl rfl rfl rfl ?_
  simp only [enterSl, enterHp, inO, inO2, inO1, inOs, List.append_nil, List.nil_append, Nat.mul_zero, List.cons_append, Nat.zero_add, Nat.reduceAdd, Nat.reduceMul, encChange, encEntry, ceqChange, ceqEntry, etaChange, etaEntry, zfChange, zfEntry, decChange, decEntry, seq_dec, encRemote, decRemote, encPacket, decPacket, encRAct, decRAct, etaRemote, zfRemote, etaPacket, zfPacket, ceqPacket, etaRAct, zfRAct, ceqRAct, getDz_Packet, getDz_RAct, dL_Packet, dL_RAct, dM_Entry, dM_Packet, getDz_Entry, dL_Entry, List.length_map, Int.toNat_natCast, Int.toNat_zero, Nat.sub_zero, ← List.map_take, ← List.map_drop, List.length_take, decL_sl, decM_cons, decM_nil, decM_append, take_map_snoc, dM_Entry, dM_Packet, dM_RAct]
  repeat' first
    | (with_reducible refine thenS_n ?_)
    | (with_reducible refine inBlockS_n ?_)
    | (with_reducible refine AW.seq ?_)
    | (with_reducible refine AW.block ?_)
    | (with_reducible refine AW.runK hC ?_; intro K hK)
    | (with_reducible refine AW.drawK hC (by kernel_rfl) ?_; intro K hK)
    | ((first | (with_reducible refine erun_g ?_) | (with_reducible refine edraw_g ?_) | (with_reducible refine exitS_g ?_)); simp (maxSteps := 1000000) only [go_sem, ↓reduceIte, reduceCtorEq, Nat.reduceEqDiff, Nat.reduceLT, Nat.reduceLeDiff, Nat.reduceMul, Nat.reduceAdd, Nat.reduceSub, reduceDIte, Nat.reduceBEq, Nat.reduceBNe, encChange, encEntry, ceqChange, ceqEntry, etaChange, etaEntry, zfChange, zfEntry, decChange, decEntry, seq_dec, encRemote, decRemote, encPacket, decPacket, encRAct, decRAct, etaRemote, zfRemote, etaPacket, zfPacket, ceqPacket, etaRAct, zfRAct, ceqRAct, getDz_Packet, getDz_RAct, dL_Packet, dL_RAct, dM_Entry, dM_Packet, getDz_Entry, dL_Entry, List.length_map, Int.toNat_natCast, Int.toNat_zero, Nat.sub_zero, ← List.map_take, ← List.map_drop, List.length_take, decL_sl, decM_cons, decM_nil, decM_append, take_map_snoc, dM_Entry, dM_Packet, dM_RAct]; (try simp (disch := omega) only [w64, wu8]))
    | (with_reducible refine hCheck_g (by kernel_rfl) ?_)
    | ((first | (refine AW.cond rfl (fun h => ?_) (fun h => ?_)) | (refine AW.cond_ub rfl (fun h => ?_) ?_) | (refine AW.cond_nb rfl ?_ (fun h => ?_))) <;> (try simp only [Bool.or_eq_true, Bool.and_eq_true, Bool.or_eq_false_iff, Bool.and_eq_false_iff, Bool.not_eq_true', Bool.not_eq_false', Bool.not_eq_true, Bool.not_eq_false, decide_eq_true_eq, decide_eq_false_iff_not, beq_iff_eq, bne_iff_ne, beq_eq_false_iff_ne, bne_eq_false_iff_eq, ne_eq, Int.not_lt, Int.not_le, D.b.injEq, D.i.injEq, D.s.injEq, D.agg.injEq, D.sl.injEq, true_and, and_true, List.cons.injEq, gt_iff_lt, ge_iff_le,  Bool.cond_true_left, Bool.cond_false_right, Bool.cond_true_right, Bool.cond_false_left, seq_iff, seq_dec, dec_f, dec_t, eqB_t, eqB_f] at h) <;> (try (exfalso; first | omega | exact absurd h (by decide))))
    | (with_reducible refine AW.skip ?_)
    | (with_reducible refine AW.exit ?_)
    | (with_reducible refine AW.ret ?_)
    | (with_reducible refine thenS_r ?_)
    | (with_reducible refine thenS_e ?_)
    | (with_reducible refine inBlockS_r ?_)
    | (with_reducible refine inBlockS_e ?_)
    | (with_reducible refine inBlockS_e2 rfl ?_)
    | (with_reducible refine exitQ_r ?_)
    | (with_reducible refine exitQ_n ?_)
    | (refine AW.loopN 15 rfl (ι := Nat) (fun i => mkS [(1, V.ptr 16 0), (83, V.d (.sl 2 (x.wire.map encPacket))), (84, V.d (.i .i64 (x.wire.length : Int))), (85, V.d (.i .i64 (i : Int)))] ([(16, .live (.box 25 [.d (.b x.sync), .d (.sl 8 (x.source.map encEntry)), .d (.sl 8 (x.target.map encEntry)), .d (.i .i64 x.sent), .d (.i .i64 x.acked), .d (.sl 2 (x.wire.map encPacket))]))])) (fun i => i ≤ x.wire.length ∧ wireErr x.source.length x.target.length (x.wire.drop i) = remoteErr x) (fun i => x.wire.length - i) (0) ?_ ?_ (fun i hi => ?_) <;> (try dsimp only) <;> (try dsimp only at hi))
    | (refine LoopNext.mk1 15 (i + 1) ?_ ?_ ?_ <;> (try dsimp only))
    | (refine sub_auto ?_; simp (maxSteps := 1000000) only [forall_eq, V.ptr.injEq, V.row.injEq, V.rp.injEq, V.mref.injEq, exists_eq_left', and_assoc, rhoV, rhoVs, rhoSl, rhoO, rhoHp, rhoDd, rho1, HS.obj?, forall_eq', slSub, hpSub, hpSub1, nfL, vs, vss, vds, vd1, os, aget, go_sem, ↓reduceIte, reduceCtorEq, Nat.reduceEqDiff, Nat.reduceLT, Nat.reduceLeDiff, Nat.reduceMul, Nat.reduceAdd, Nat.reduceSub, reduceDIte, Nat.reduceBEq, Nat.reduceBNe, encChange, encEntry, ceqChange, ceqEntry, etaChange, etaEntry, zfChange, zfEntry, decChange, decEntry, seq_dec, encRemote, decRemote, encPacket, decPacket, encRAct, decRAct, etaRemote, zfRemote, etaPacket, zfPacket, ceqPacket, etaRAct, zfRAct, ceqRAct, getDz_Packet, getDz_RAct, dL_Packet, dL_RAct, dM_Entry, dM_Packet, getDz_Entry, dL_Entry, List.length_map, Int.toNat_natCast, Int.toNat_zero, Nat.sub_zero, ← List.map_take, ← List.map_drop, List.length_take, decL_sl, decM_cons, decM_nil, decM_append, take_map_snoc, dM_Entry, dM_Packet, dM_RAct])
    | (with_reducible refine And.intro ?_ ?_)
    | (subst hK)
  all_goals (try (intros; assumption))
  all_goals (try simp only [Bool.or_eq_true, Bool.and_eq_true, Bool.or_eq_false_iff, Bool.and_eq_false_iff, Bool.not_eq_true', Bool.not_eq_false', Bool.not_eq_true, Bool.not_eq_false, decide_eq_true_eq, decide_eq_false_iff_not, beq_iff_eq, bne_iff_ne, beq_eq_false_iff_ne, bne_eq_false_iff_eq, ne_eq, Int.not_lt, Int.not_le, D.b.injEq, D.i.injEq, D.s.injEq, D.agg.injEq, D.sl.injEq, true_and, and_true, List.cons.injEq, gt_iff_lt, ge_iff_le,  Bool.cond_true_left, Bool.cond_false_right, Bool.cond_true_right, Bool.cond_false_left, seq_iff, seq_dec, dec_f, dec_t, eqB_t, eqB_f] at *)
  all_goals (try (intros; trivial))
  all_goals (try (intros; omega))
  all_goals (try (rw [w64 (by omega) (by omega)]; first | done | omega))
  all_goals first
    | (rw [← hi.2, drop_getD zPacket (by omega), wireErr]; grind)
    | (have := hi.2; rw [drop_getD zPacket (by omega), wireErr] at this; grind)
    | (rw [← hi.2, List.drop_of_length_le (by omega)]; rfl)
    | grind [remoteErr]
    | grind [remoteErr, beginsWith]

end
/- midrange/midrangeref32.OwnEntries -/
noncomputable def cfg38 : Cfg := ⟨Try.prog, 5, tab23, mvs, [], (fun _ => none)⟩
theorem cfg38_pins : cfg38.pins = [] := rfl
theorem cfg38_P : cfg38.P = Try.prog := rfl
theorem cfg38_N : cfg38.N = 5 := rfl
section
attribute [local go_sem] cfg38_P cfg38_N cfg38_pins  sz3 ag3 zr3 zo3 zd3 by3 sl3 st3 bo3 pt3 sz9 ag9 zr9 zo9 zd9 by9 sl9 un9 st9 bo9 pt9 sz22 ag22 zr22 zo22 zd22 by22 el22 sl22 un22 st22 bo22 pt22 sz40 ag40 zr40 zd40 by40 sl40 st40 bo40 pt40 of40_0 fa40_0 of40_1 fa40_1 of40_2 fa40_2 of40_3 fa40_3 of40_4 fa40_4 pl40 ek40 sz42 ag42 zr42 zd42 by42 sl42 st42 bo42 pt42 of42_0 fa42_0 of42_1 fa42_1 of42_2 fa42_2 of42_3 fa42_3 pl42 ek42 
theorem con38 (hC : COk cfg38) (l : List Entry) (hp : l.length ≤ 1000000) : Sem Try.prog 38 [.d (.sl 8 (l.map encEntry))] (.own 42 8 (l.map encEntry)) := by
  refine sem_of_awR (C := cfg38) (rs := [.tmp 2]) (fun _ => [(0, 42, 8)]) Try.func38 rfl rfl rfl rfl rfl rfl ?_
  simp only [enterSl, enterHp, inO, inO2, inO1, inOs, List.append_nil, List.nil_append, Nat.mul_zero, List.cons_append, Nat.zero_add, Nat.reduceAdd, Nat.reduceMul, getDz_Entry, dL_Entry, List.length_map, Int.toNat_natCast, Int.toNat_zero, Nat.sub_zero, ← List.map_take, ← List.map_drop, List.length_take, decL_sl, decM_cons, decM_nil, decM_append, take_map_snoc, dM_Entry, dM_Packet, dM_RAct]
  repeat' first
    | (with_reducible refine thenS_n ?_)
    | (with_reducible refine inBlockS_n ?_)
    | (with_reducible refine AW.seq ?_)
    | (with_reducible refine AW.block ?_)
    | (with_reducible refine AW.runK hC ?_; intro K hK)
    | (with_reducible refine AW.drawK hC (by kernel_rfl) ?_; intro K hK)
    | ((first | (with_reducible refine erun_g ?_) | (with_reducible refine edraw_g ?_) | (with_reducible refine exitS_g ?_)); simp (maxSteps := 1000000) only [go_sem, ↓reduceIte, reduceCtorEq, Nat.reduceEqDiff, Nat.reduceLT, Nat.reduceLeDiff, Nat.reduceMul, Nat.reduceAdd, Nat.reduceSub, reduceDIte, Nat.reduceBEq, Nat.reduceBNe, getDz_Entry, dL_Entry, List.length_map, Int.toNat_natCast, Int.toNat_zero, Nat.sub_zero, ← List.map_take, ← List.map_drop, List.length_take, decL_sl, decM_cons, decM_nil, decM_append, take_map_snoc, dM_Entry, dM_Packet, dM_RAct]; (try simp (disch := omega) only [w64, wu8]))
    | (with_reducible refine hCheck_g (by kernel_rfl) ?_)
    | ((first | (refine AW.cond rfl (fun h => ?_) (fun h => ?_)) | (refine AW.cond_ub rfl (fun h => ?_) ?_) | (refine AW.cond_nb rfl ?_ (fun h => ?_))) <;> (try simp only [Bool.or_eq_true, Bool.and_eq_true, Bool.or_eq_false_iff, Bool.and_eq_false_iff, Bool.not_eq_true', Bool.not_eq_false', Bool.not_eq_true, Bool.not_eq_false, decide_eq_true_eq, decide_eq_false_iff_not, beq_iff_eq, bne_iff_ne, beq_eq_false_iff_ne, bne_eq_false_iff_eq, ne_eq, Int.not_lt, Int.not_le, D.b.injEq, D.i.injEq, D.s.injEq, D.agg.injEq, D.sl.injEq, true_and, and_true, List.cons.injEq, gt_iff_lt, ge_iff_le,  Bool.cond_true_left, Bool.cond_false_right, Bool.cond_true_right, Bool.cond_false_left, seq_iff, seq_dec, dec_f, dec_t, eqB_t, eqB_f] at h) <;> (try (exfalso; first | omega | exact absurd h (by decide))))
    | (with_reducible refine AW.skip ?_)
    | (with_reducible refine AW.exit ?_)
    | (with_reducible refine AW.ret ?_)
    | (with_reducible refine thenS_r ?_)
    | (with_reducible refine thenS_e ?_)
    | (with_reducible refine inBlockS_r ?_)
    | (with_reducible refine inBlockS_e ?_)
    | (with_reducible refine inBlockS_e2 rfl ?_)
    | (with_reducible refine exitQ_r ?_)
    | (with_reducible refine exitQ_n ?_)
    | (refine sub_auto ?_; simp (maxSteps := 1000000) only [forall_eq, V.ptr.injEq, V.row.injEq, V.rp.injEq, V.mref.injEq, exists_eq_left', and_assoc, rhoV, rhoVs, rhoSl, rhoO, rhoHp, rhoDd, rho1, HS.obj?, forall_eq', slSub, hpSub, hpSub1, nfL, vs, vss, vds, vd1, os, aget, go_sem, ↓reduceIte, reduceCtorEq, Nat.reduceEqDiff, Nat.reduceLT, Nat.reduceLeDiff, Nat.reduceMul, Nat.reduceAdd, Nat.reduceSub, reduceDIte, Nat.reduceBEq, Nat.reduceBNe, getDz_Entry, dL_Entry, List.length_map, Int.toNat_natCast, Int.toNat_zero, Nat.sub_zero, ← List.map_take, ← List.map_drop, List.length_take, decL_sl, decM_cons, decM_nil, decM_append, take_map_snoc, dM_Entry, dM_Packet, dM_RAct])
    | (with_reducible refine And.intro ?_ ?_)
    | (subst hK)
  all_goals (try (intros; assumption))
  all_goals (try simp only [Bool.or_eq_true, Bool.and_eq_true, Bool.or_eq_false_iff, Bool.and_eq_false_iff, Bool.not_eq_true', Bool.not_eq_false', Bool.not_eq_true, Bool.not_eq_false, decide_eq_true_eq, decide_eq_false_iff_not, beq_iff_eq, bne_iff_ne, beq_eq_false_iff_ne, bne_eq_false_iff_eq, ne_eq, Int.not_lt, Int.not_le, D.b.injEq, D.i.injEq, D.s.injEq, D.agg.injEq, D.sl.injEq, true_and, and_true, List.cons.injEq, gt_iff_lt, ge_iff_le,  Bool.cond_true_left, Bool.cond_false_right, Bool.cond_true_right, Bool.cond_false_left, seq_iff, seq_dec, dec_f, dec_t, eqB_t, eqB_f] at *)
  all_goals (try (intros; trivial))
  all_goals (try (intros; omega))
  all_goals (try (rw [w64 (by omega) (by omega)]; first | done | omega))
  all_goals first | omega | (simp_all [dles]; done)

end
/- slices.Clone[[]midrange/api.JournalEntry,midrange/api.JournalEntry] -/
noncomputable def cfg44 : Cfg := ⟨Try.prog, 8, tab38, mvs, [], (fun _ => none)⟩
theorem cfg44_pins : cfg44.pins = [] := rfl
theorem cfg44_P : cfg44.P = Try.prog := rfl
theorem cfg44_N : cfg44.N = 8 := rfl
section
attribute [local go_sem] cfg44_P cfg44_N cfg44_pins  sz3 ag3 zr3 zo3 zd3 by3 sl3 st3 bo3 pt3 sz9 ag9 zr9 zo9 zd9 by9 sl9 un9 st9 bo9 pt9 sz22 ag22 zr22 zo22 zd22 by22 el22 sl22 un22 st22 bo22 pt22 sz40 ag40 zr40 zd40 by40 sl40 st40 bo40 pt40 of40_0 fa40_0 of40_1 fa40_1 of40_2 fa40_2 of40_3 fa40_3 of40_4 fa40_4 pl40 ek40 sz42 ag42 zr42 zd42 by42 sl42 st42 bo42 pt42 of42_0 fa42_0 of42_1 fa42_1 of42_2 fa42_2 of42_3 fa42_3 pl42 ek42 
theorem con44 (hC : COk cfg44) (l : List Entry) (hp : l.length ≤ 1000000) : Sem Try.prog 44 [.d (.sl 8 (l.map encEntry))] (.own 42 8 (l.map encEntry)) := by
  refine sem_of_awR (C := cfg44) (rs := [.tmp 2]) (fun _ => [(0, 42, 8)]) Try.func44 rfl rfl rfl rfl rfl rfl ?_
  simp only [enterSl, enterHp, inO, inO2, inO1, inOs, List.append_nil, List.nil_append, Nat.mul_zero, List.cons_append, Nat.zero_add, Nat.reduceAdd, Nat.reduceMul, getDz_Entry, dL_Entry, List.length_map, Int.toNat_natCast, Int.toNat_zero, Nat.sub_zero, ← List.map_take, ← List.map_drop, List.length_take, decL_sl, decM_cons, decM_nil, decM_append, take_map_snoc, dM_Entry, dM_Packet, dM_RAct]
  repeat' first
    | (with_reducible refine thenS_n ?_)
    | (with_reducible refine inBlockS_n ?_)
    | (with_reducible refine AW.seq ?_)
    | (with_reducible refine AW.block ?_)
    | (with_reducible refine AW.runK hC ?_; intro K hK)
    | (with_reducible refine AW.drawK hC (by kernel_rfl) ?_; intro K hK)
    | ((first | (with_reducible refine erun_g ?_) | (with_reducible refine edraw_g ?_) | (with_reducible refine exitS_g ?_)); simp (maxSteps := 1000000) only [go_sem, ↓reduceIte, reduceCtorEq, Nat.reduceEqDiff, Nat.reduceLT, Nat.reduceLeDiff, Nat.reduceMul, Nat.reduceAdd, Nat.reduceSub, reduceDIte, Nat.reduceBEq, Nat.reduceBNe, getDz_Entry, dL_Entry, List.length_map, Int.toNat_natCast, Int.toNat_zero, Nat.sub_zero, ← List.map_take, ← List.map_drop, List.length_take, decL_sl, decM_cons, decM_nil, decM_append, take_map_snoc, dM_Entry, dM_Packet, dM_RAct]; (try simp (disch := omega) only [w64, wu8]))
    | (with_reducible refine hCheck_g (by kernel_rfl) ?_)
    | ((first | (refine AW.cond rfl (fun h => ?_) (fun h => ?_)) | (refine AW.cond_ub rfl (fun h => ?_) ?_) | (refine AW.cond_nb rfl ?_ (fun h => ?_))) <;> (try simp only [Bool.or_eq_true, Bool.and_eq_true, Bool.or_eq_false_iff, Bool.and_eq_false_iff, Bool.not_eq_true', Bool.not_eq_false', Bool.not_eq_true, Bool.not_eq_false, decide_eq_true_eq, decide_eq_false_iff_not, beq_iff_eq, bne_iff_ne, beq_eq_false_iff_ne, bne_eq_false_iff_eq, ne_eq, Int.not_lt, Int.not_le, D.b.injEq, D.i.injEq, D.s.injEq, D.agg.injEq, D.sl.injEq, true_and, and_true, List.cons.injEq, gt_iff_lt, ge_iff_le,  Bool.cond_true_left, Bool.cond_false_right, Bool.cond_true_right, Bool.cond_false_left, seq_iff, seq_dec, dec_f, dec_t, eqB_t, eqB_f] at h) <;> (try (exfalso; first | omega | exact absurd h (by decide))))
    | (with_reducible refine AW.skip ?_)
    | (with_reducible refine AW.exit ?_)
    | (with_reducible refine AW.ret ?_)
    | (with_reducible refine thenS_r ?_)
    | (with_reducible refine thenS_e ?_)
    | (with_reducible refine inBlockS_r ?_)
    | (with_reducible refine inBlockS_e ?_)
    | (with_reducible refine inBlockS_e2 rfl ?_)
    | (with_reducible refine exitQ_r ?_)
    | (with_reducible refine exitQ_n ?_)
    | (refine sub_auto ?_; simp (maxSteps := 1000000) only [forall_eq, V.ptr.injEq, V.row.injEq, V.rp.injEq, V.mref.injEq, exists_eq_left', and_assoc, rhoV, rhoVs, rhoSl, rhoO, rhoHp, rhoDd, rho1, HS.obj?, forall_eq', slSub, hpSub, hpSub1, nfL, vs, vss, vds, vd1, os, aget, go_sem, ↓reduceIte, reduceCtorEq, Nat.reduceEqDiff, Nat.reduceLT, Nat.reduceLeDiff, Nat.reduceMul, Nat.reduceAdd, Nat.reduceSub, reduceDIte, Nat.reduceBEq, Nat.reduceBNe, getDz_Entry, dL_Entry, List.length_map, Int.toNat_natCast, Int.toNat_zero, Nat.sub_zero, ← List.map_take, ← List.map_drop, List.length_take, decL_sl, decM_cons, decM_nil, decM_append, take_map_snoc, dM_Entry, dM_Packet, dM_RAct])
    | (with_reducible refine And.intro ?_ ?_)
    | (subst hK)
  all_goals (try (intros; assumption))
  all_goals (try simp only [Bool.or_eq_true, Bool.and_eq_true, Bool.or_eq_false_iff, Bool.and_eq_false_iff, Bool.not_eq_true', Bool.not_eq_false', Bool.not_eq_true, Bool.not_eq_false, decide_eq_true_eq, decide_eq_false_iff_not, beq_iff_eq, bne_iff_ne, beq_eq_false_iff_ne, bne_eq_false_iff_eq, ne_eq, Int.not_lt, Int.not_le, D.b.injEq, D.i.injEq, D.s.injEq, D.agg.injEq, D.sl.injEq, true_and, and_true, List.cons.injEq, gt_iff_lt, ge_iff_le,  Bool.cond_true_left, Bool.cond_false_right, Bool.cond_true_right, Bool.cond_false_left, seq_iff, seq_dec, dec_f, dec_t, eqB_t, eqB_f] at *)
  all_goals (try (intros; trivial))
  all_goals (try (intros; omega))
  all_goals (try (rw [w64 (by omega) (by omega)]; first | done | omega))
  all_goals first | omega | (simp_all [dles]; done)

end
/- slices.Clone[[]midrange/api.WirePacket,midrange/api.WirePacket] -/
noncomputable def cfg51 : Cfg := ⟨Try.prog, 8, tab44, mvs, [], (fun _ => none)⟩
theorem cfg51_pins : cfg51.pins = [] := rfl
theorem cfg51_P : cfg51.P = Try.prog := rfl
theorem cfg51_N : cfg51.N = 8 := rfl
section
attribute [local go_sem] cfg51_P cfg51_N cfg51_pins  sz3 ag3 zr3 zo3 zd3 by3 sl3 st3 bo3 pt3 sz23 ag23 zr23 zo23 zd23 by23 el23 sl23 un23 st23 bo23 pt23 sz66 ag66 zr66 zd66 by66 sl66 st66 bo66 pt66 of66_0 fa66_0 of66_1 fa66_1 pl66 ek66 
theorem con51 (hC : COk cfg51) (l : List Packet) (hp : l.length ≤ 1000000) : Sem Try.prog 51 [.d (.sl 2 (l.map encPacket))] (.own 66 2 (l.map encPacket)) := by
  refine sem_of_awR (C := cfg51) (rs := [.tmp 2]) (fun _ => [(0, 66, 2)]) Try.func51 rfl rfl rfl rfl rfl rfl ?_
  simp only [enterSl, enterHp, inO, inO2, inO1, inOs, List.append_nil, List.nil_append, Nat.mul_zero, List.cons_append, Nat.zero_add, Nat.reduceAdd, Nat.reduceMul, getDz_Entry, dL_Entry, List.length_map, Int.toNat_natCast, Int.toNat_zero, Nat.sub_zero, ← List.map_take, ← List.map_drop, List.length_take, decL_sl, decM_cons, decM_nil, decM_append, take_map_snoc, dM_Entry, dM_Packet, dM_RAct]
  repeat' first
    | (with_reducible refine thenS_n ?_)
    | (with_reducible refine inBlockS_n ?_)
    | (with_reducible refine AW.seq ?_)
    | (with_reducible refine AW.block ?_)
    | (with_reducible refine AW.runK hC ?_; intro K hK)
    | (with_reducible refine AW.drawK hC (by kernel_rfl) ?_; intro K hK)
    | ((first | (with_reducible refine erun_g ?_) | (with_reducible refine edraw_g ?_) | (with_reducible refine exitS_g ?_)); simp (maxSteps := 1000000) only [go_sem, ↓reduceIte, reduceCtorEq, Nat.reduceEqDiff, Nat.reduceLT, Nat.reduceLeDiff, Nat.reduceMul, Nat.reduceAdd, Nat.reduceSub, reduceDIte, Nat.reduceBEq, Nat.reduceBNe, getDz_Entry, dL_Entry, List.length_map, Int.toNat_natCast, Int.toNat_zero, Nat.sub_zero, ← List.map_take, ← List.map_drop, List.length_take, decL_sl, decM_cons, decM_nil, decM_append, take_map_snoc, dM_Entry, dM_Packet, dM_RAct]; (try simp (disch := omega) only [w64, wu8]))
    | (with_reducible refine hCheck_g (by kernel_rfl) ?_)
    | ((first | (refine AW.cond rfl (fun h => ?_) (fun h => ?_)) | (refine AW.cond_ub rfl (fun h => ?_) ?_) | (refine AW.cond_nb rfl ?_ (fun h => ?_))) <;> (try simp only [Bool.or_eq_true, Bool.and_eq_true, Bool.or_eq_false_iff, Bool.and_eq_false_iff, Bool.not_eq_true', Bool.not_eq_false', Bool.not_eq_true, Bool.not_eq_false, decide_eq_true_eq, decide_eq_false_iff_not, beq_iff_eq, bne_iff_ne, beq_eq_false_iff_ne, bne_eq_false_iff_eq, ne_eq, Int.not_lt, Int.not_le, D.b.injEq, D.i.injEq, D.s.injEq, D.agg.injEq, D.sl.injEq, true_and, and_true, List.cons.injEq, gt_iff_lt, ge_iff_le,  Bool.cond_true_left, Bool.cond_false_right, Bool.cond_true_right, Bool.cond_false_left, seq_iff, seq_dec, dec_f, dec_t, eqB_t, eqB_f] at h) <;> (try (exfalso; first | omega | exact absurd h (by decide))))
    | (with_reducible refine AW.skip ?_)
    | (with_reducible refine AW.exit ?_)
    | (with_reducible refine AW.ret ?_)
    | (with_reducible refine thenS_r ?_)
    | (with_reducible refine thenS_e ?_)
    | (with_reducible refine inBlockS_r ?_)
    | (with_reducible refine inBlockS_e ?_)
    | (with_reducible refine inBlockS_e2 rfl ?_)
    | (with_reducible refine exitQ_r ?_)
    | (with_reducible refine exitQ_n ?_)
    | (refine sub_auto ?_; simp (maxSteps := 1000000) only [forall_eq, V.ptr.injEq, V.row.injEq, V.rp.injEq, V.mref.injEq, exists_eq_left', and_assoc, rhoV, rhoVs, rhoSl, rhoO, rhoHp, rhoDd, rho1, HS.obj?, forall_eq', slSub, hpSub, hpSub1, nfL, vs, vss, vds, vd1, os, aget, go_sem, ↓reduceIte, reduceCtorEq, Nat.reduceEqDiff, Nat.reduceLT, Nat.reduceLeDiff, Nat.reduceMul, Nat.reduceAdd, Nat.reduceSub, reduceDIte, Nat.reduceBEq, Nat.reduceBNe, getDz_Entry, dL_Entry, List.length_map, Int.toNat_natCast, Int.toNat_zero, Nat.sub_zero, ← List.map_take, ← List.map_drop, List.length_take, decL_sl, decM_cons, decM_nil, decM_append, take_map_snoc, dM_Entry, dM_Packet, dM_RAct])
    | (with_reducible refine And.intro ?_ ?_)
    | (subst hK)
  all_goals (try (intros; assumption))
  all_goals (try simp only [Bool.or_eq_true, Bool.and_eq_true, Bool.or_eq_false_iff, Bool.and_eq_false_iff, Bool.not_eq_true', Bool.not_eq_false', Bool.not_eq_true, Bool.not_eq_false, decide_eq_true_eq, decide_eq_false_iff_not, beq_iff_eq, bne_iff_ne, beq_eq_false_iff_ne, bne_eq_false_iff_eq, ne_eq, Int.not_lt, Int.not_le, D.b.injEq, D.i.injEq, D.s.injEq, D.agg.injEq, D.sl.injEq, true_and, and_true, List.cons.injEq, gt_iff_lt, ge_iff_le,  Bool.cond_true_left, Bool.cond_false_right, Bool.cond_true_right, Bool.cond_false_left, seq_iff, seq_dec, dec_f, dec_t, eqB_t, eqB_f] at *)
  all_goals (try (intros; trivial))
  all_goals (try (intros; omega))
  all_goals (try (rw [w64 (by omega) (by omega)]; first | done | omega))
  all_goals first | omega | (simp_all [dles]; done)

end
/- midrange/midrangeref36.OwnActs -/
noncomputable def cfg15 : Cfg := ⟨Try.prog, 5, tab51, mvs, [], (fun _ => none)⟩
theorem cfg15_pins : cfg15.pins = [] := rfl
theorem cfg15_P : cfg15.P = Try.prog := rfl
theorem cfg15_N : cfg15.N = 5 := rfl
section
attribute [local go_sem] cfg15_P cfg15_N cfg15_pins  sz3 ag3 zr3 zo3 zd3 by3 sl3 st3 bo3 pt3 sz9 ag9 zr9 zo9 zd9 by9 sl9 un9 st9 bo9 pt9 sz26 ag26 zr26 zo26 zd26 by26 el26 sl26 un26 st26 bo26 pt26 sz40 ag40 zr40 zd40 by40 sl40 st40 bo40 pt40 of40_0 fa40_0 of40_1 fa40_1 of40_2 fa40_2 of40_3 fa40_3 of40_4 fa40_4 pl40 ek40 sz42 ag42 zr42 zd42 by42 sl42 st42 bo42 pt42 of42_0 fa42_0 of42_1 fa42_1 of42_2 fa42_2 of42_3 fa42_3 pl42 ek42 sz44 ag44 zr44 zd44 by44 sl44 st44 bo44 pt44 of44_0 fa44_0 of44_1 fa44_1 of44_2 fa44_2 pl44 ek44 
theorem con15 (hC : COk cfg15) (l : List RAct) (hp : l.length ≤ 1000000) : Sem Try.prog 15 [.d (.sl 10 (l.map encRAct))] (.own 44 10 (l.map encRAct)) := by
  refine sem_of_awR (C := cfg15) (rs := [.tmp 2]) (fun _ => [(0, 44, 10)]) Try.func15 rfl rfl rfl rfl rfl rfl ?_
  simp only [enterSl, enterHp, inO, inO2, inO1, inOs, List.append_nil, List.nil_append, Nat.mul_zero, List.cons_append, Nat.zero_add, Nat.reduceAdd, Nat.reduceMul, getDz_Entry, dL_Entry, List.length_map, Int.toNat_natCast, Int.toNat_zero, Nat.sub_zero, ← List.map_take, ← List.map_drop, List.length_take, decL_sl, decM_cons, decM_nil, decM_append, take_map_snoc, dM_Entry, dM_Packet, dM_RAct]
  repeat' first
    | (with_reducible refine thenS_n ?_)
    | (with_reducible refine inBlockS_n ?_)
    | (with_reducible refine AW.seq ?_)
    | (with_reducible refine AW.block ?_)
    | (with_reducible refine AW.runK hC ?_; intro K hK)
    | (with_reducible refine AW.drawK hC (by kernel_rfl) ?_; intro K hK)
    | ((first | (with_reducible refine erun_g ?_) | (with_reducible refine edraw_g ?_) | (with_reducible refine exitS_g ?_)); simp (maxSteps := 1000000) only [go_sem, ↓reduceIte, reduceCtorEq, Nat.reduceEqDiff, Nat.reduceLT, Nat.reduceLeDiff, Nat.reduceMul, Nat.reduceAdd, Nat.reduceSub, reduceDIte, Nat.reduceBEq, Nat.reduceBNe, getDz_Entry, dL_Entry, List.length_map, Int.toNat_natCast, Int.toNat_zero, Nat.sub_zero, ← List.map_take, ← List.map_drop, List.length_take, decL_sl, decM_cons, decM_nil, decM_append, take_map_snoc, dM_Entry, dM_Packet, dM_RAct]; (try simp (disch := omega) only [w64, wu8]))
    | (with_reducible refine hCheck_g (by kernel_rfl) ?_)
    | ((first | (refine AW.cond rfl (fun h => ?_) (fun h => ?_)) | (refine AW.cond_ub rfl (fun h => ?_) ?_) | (refine AW.cond_nb rfl ?_ (fun h => ?_))) <;> (try simp only [Bool.or_eq_true, Bool.and_eq_true, Bool.or_eq_false_iff, Bool.and_eq_false_iff, Bool.not_eq_true', Bool.not_eq_false', Bool.not_eq_true, Bool.not_eq_false, decide_eq_true_eq, decide_eq_false_iff_not, beq_iff_eq, bne_iff_ne, beq_eq_false_iff_ne, bne_eq_false_iff_eq, ne_eq, Int.not_lt, Int.not_le, D.b.injEq, D.i.injEq, D.s.injEq, D.agg.injEq, D.sl.injEq, true_and, and_true, List.cons.injEq, gt_iff_lt, ge_iff_le,  Bool.cond_true_left, Bool.cond_false_right, Bool.cond_true_right, Bool.cond_false_left, seq_iff, seq_dec, dec_f, dec_t, eqB_t, eqB_f] at h) <;> (try (exfalso; first | omega | exact absurd h (by decide))))
    | (with_reducible refine AW.skip ?_)
    | (with_reducible refine AW.exit ?_)
    | (with_reducible refine AW.ret ?_)
    | (with_reducible refine thenS_r ?_)
    | (with_reducible refine thenS_e ?_)
    | (with_reducible refine inBlockS_r ?_)
    | (with_reducible refine inBlockS_e ?_)
    | (with_reducible refine inBlockS_e2 rfl ?_)
    | (with_reducible refine exitQ_r ?_)
    | (with_reducible refine exitQ_n ?_)
    | (refine sub_auto ?_; simp (maxSteps := 1000000) only [forall_eq, V.ptr.injEq, V.row.injEq, V.rp.injEq, V.mref.injEq, exists_eq_left', and_assoc, rhoV, rhoVs, rhoSl, rhoO, rhoHp, rhoDd, rho1, HS.obj?, forall_eq', slSub, hpSub, hpSub1, nfL, vs, vss, vds, vd1, os, aget, go_sem, ↓reduceIte, reduceCtorEq, Nat.reduceEqDiff, Nat.reduceLT, Nat.reduceLeDiff, Nat.reduceMul, Nat.reduceAdd, Nat.reduceSub, reduceDIte, Nat.reduceBEq, Nat.reduceBNe, getDz_Entry, dL_Entry, List.length_map, Int.toNat_natCast, Int.toNat_zero, Nat.sub_zero, ← List.map_take, ← List.map_drop, List.length_take, decL_sl, decM_cons, decM_nil, decM_append, take_map_snoc, dM_Entry, dM_Packet, dM_RAct])
    | (with_reducible refine And.intro ?_ ?_)
    | (subst hK)
  all_goals (try (intros; assumption))
  all_goals (try simp only [Bool.or_eq_true, Bool.and_eq_true, Bool.or_eq_false_iff, Bool.and_eq_false_iff, Bool.not_eq_true', Bool.not_eq_false', Bool.not_eq_true, Bool.not_eq_false, decide_eq_true_eq, decide_eq_false_iff_not, beq_iff_eq, bne_iff_ne, beq_eq_false_iff_ne, bne_eq_false_iff_eq, ne_eq, Int.not_lt, Int.not_le, D.b.injEq, D.i.injEq, D.s.injEq, D.agg.injEq, D.sl.injEq, true_and, and_true, List.cons.injEq, gt_iff_lt, ge_iff_le,  Bool.cond_true_left, Bool.cond_false_right, Bool.cond_true_right, Bool.cond_false_left, seq_iff, seq_dec, dec_f, dec_t, eqB_t, eqB_f] at *)
  all_goals (try (intros; trivial))
  all_goals (try (intros; omega))
  all_goals (try (rw [w64 (by omega) (by omega)]; first | done | omega))
  all_goals first | omega | (simp_all [dles]; done)

end
/- midrange/remote.copied -/
noncomputable def cfg36 : Cfg := ⟨Try.prog, 16, tab15, mvs, [], (fun _ => none)⟩
theorem cfg36_ti44 : cfg36.ti 44 = none := rfl
theorem cfg36_ti51 : cfg36.ti 51 = none := rfl
theorem cfg36_pins : cfg36.pins = [] := rfl
theorem cfg36_P : cfg36.P = Try.prog := rfl
theorem cfg36_N : cfg36.N = 16 := rfl
theorem cfg36_T44 : cfg36.T 44 = e44 := rfl
theorem cfg36_mv44 : cfg36.mv 44 = (fun _ => []) := rfl
theorem cfg36_T51 : cfg36.T 51 = e51 := rfl
theorem cfg36_mv51 : cfg36.mv 51 = (fun _ => []) := rfl
section
attribute [local go_sem] cfg36_P cfg36_N cfg36_pins cfg36_ti44 cfg36_ti51 cfg36_T44 e44 cfg36_mv44 cfg36_T51 e51 cfg36_mv51 sz3 ag3 zr3 zo3 zd3 by3 sl3 st3 bo3 pt3 sz4 ag4 zr4 zo4 zd4 by4 sl4 st4 bo4 pt4 sz9 ag9 zr9 zo9 zd9 by9 sl9 un9 st9 bo9 pt9 sz22 ag22 zr22 zo22 zd22 by22 el22 sl22 un22 st22 bo22 pt22 sz23 ag23 zr23 zo23 zd23 by23 el23 sl23 un23 st23 bo23 pt23 sz25 ag25 zr25 zd25 by25 sl25 st25 bo25 pt25 of25_0 fa25_0 of25_1 fa25_1 of25_2 fa25_2 of25_3 fa25_3 of25_4 fa25_4 of25_5 fa25_5 pl25 sz40 ag40 zr40 zd40 by40 sl40 st40 bo40 pt40 of40_0 fa40_0 of40_1 fa40_1 of40_2 fa40_2 of40_3 fa40_3 of40_4 fa40_4 pl40 ek40 sz42 ag42 zr42 zd42 by42 sl42 st42 bo42 pt42 of42_0 fa42_0 of42_1 fa42_1 of42_2 fa42_2 of42_3 fa42_3 pl42 ek42 sz66 ag66 zr66 zd66 by66 sl66 st66 bo66 pt66 of66_0 fa66_0 of66_1 fa66_1 pl66 ek66 
theorem con36 (hC : COk cfg36) (x : Remote) (hp : x.source.length ≤ 1000000 ∧ x.target.length ≤ 1000000 ∧ x.wire.length ≤ 1000000) : Sem Try.prog 36 [.d (encRemote x)] (.agg [.d (.b x.sync), .own 42 8 (x.source.map encEntry), .own 42 8 (x.target.map encEntry), .d (.i .i64 x.sent), .d (.i .i64 x.acked), .own 66 2 (x.wire.map encPacket)]) := by
  refine sem_of_awR (C := cfg36) (rs := [.cell 2 25]) (fun _ => [(1, 42, 8), (2, 42, 8), (5, 66, 2)]) Try.func36 rfl rfl rfl rfl rfl rfl ?_
  simp only [enterSl, enterHp, inO, inO2, inO1, inOs, List.append_nil, List.nil_append, Nat.mul_zero, List.cons_append, Nat.zero_add, Nat.reduceAdd, Nat.reduceMul, encChange, encEntry, ceqChange, ceqEntry, etaChange, etaEntry, zfChange, zfEntry, decChange, decEntry, seq_dec, encRemote, decRemote, encPacket, decPacket, encRAct, decRAct, etaRemote, zfRemote, etaPacket, zfPacket, ceqPacket, etaRAct, zfRAct, ceqRAct, getDz_Packet, getDz_RAct, dL_Packet, dL_RAct, dM_Entry, dM_Packet, getDz_Entry, dL_Entry, List.length_map, Int.toNat_natCast, Int.toNat_zero, Nat.sub_zero, ← List.map_take, ← List.map_drop, List.length_take, decL_sl, decM_cons, decM_nil, decM_append, take_map_snoc, dM_Entry, dM_Packet, dM_RAct]
  repeat' first
    | (with_reducible refine thenS_n ?_)
    | (with_reducible refine inBlockS_n ?_)
    | (with_reducible refine AW.seq ?_)
    | (with_reducible refine AW.block ?_)
    | (with_reducible refine AW.runK hC ?_; intro K hK)
    | (with_reducible refine AW.drawK hC (by kernel_rfl) ?_; intro K hK)
    | ((first | (with_reducible refine erun_g ?_) | (with_reducible refine edraw_g ?_) | (with_reducible refine exitS_g ?_)); simp (maxSteps := 1000000) only [go_sem, ↓reduceIte, reduceCtorEq, Nat.reduceEqDiff, Nat.reduceLT, Nat.reduceLeDiff, Nat.reduceMul, Nat.reduceAdd, Nat.reduceSub, reduceDIte, Nat.reduceBEq, Nat.reduceBNe, encChange, encEntry, ceqChange, ceqEntry, etaChange, etaEntry, zfChange, zfEntry, decChange, decEntry, seq_dec, encRemote, decRemote, encPacket, decPacket, encRAct, decRAct, etaRemote, zfRemote, etaPacket, zfPacket, ceqPacket, etaRAct, zfRAct, ceqRAct, getDz_Packet, getDz_RAct, dL_Packet, dL_RAct, dM_Entry, dM_Packet, getDz_Entry, dL_Entry, List.length_map, Int.toNat_natCast, Int.toNat_zero, Nat.sub_zero, ← List.map_take, ← List.map_drop, List.length_take, decL_sl, decM_cons, decM_nil, decM_append, take_map_snoc, dM_Entry, dM_Packet, dM_RAct]; (try simp (disch := omega) only [w64, wu8]))
    | (with_reducible refine hCheck_g (by kernel_rfl) ?_)
    | ((first | (refine AW.cond rfl (fun h => ?_) (fun h => ?_)) | (refine AW.cond_ub rfl (fun h => ?_) ?_) | (refine AW.cond_nb rfl ?_ (fun h => ?_))) <;> (try simp only [Bool.or_eq_true, Bool.and_eq_true, Bool.or_eq_false_iff, Bool.and_eq_false_iff, Bool.not_eq_true', Bool.not_eq_false', Bool.not_eq_true, Bool.not_eq_false, decide_eq_true_eq, decide_eq_false_iff_not, beq_iff_eq, bne_iff_ne, beq_eq_false_iff_ne, bne_eq_false_iff_eq, ne_eq, Int.not_lt, Int.not_le, D.b.injEq, D.i.injEq, D.s.injEq, D.agg.injEq, D.sl.injEq, true_and, and_true, List.cons.injEq, gt_iff_lt, ge_iff_le,  Bool.cond_true_left, Bool.cond_false_right, Bool.cond_true_right, Bool.cond_false_left, seq_iff, seq_dec, dec_f, dec_t, eqB_t, eqB_f] at h) <;> (try (exfalso; first | omega | exact absurd h (by decide))))
    | (with_reducible refine AW.skip ?_)
    | (with_reducible refine AW.exit ?_)
    | (with_reducible refine AW.ret ?_)
    | (with_reducible refine thenS_r ?_)
    | (with_reducible refine thenS_e ?_)
    | (with_reducible refine inBlockS_r ?_)
    | (with_reducible refine inBlockS_e ?_)
    | (with_reducible refine inBlockS_e2 rfl ?_)
    | (with_reducible refine exitQ_r ?_)
    | (with_reducible refine exitQ_n ?_)
    | (refine sub_auto ?_; simp (maxSteps := 1000000) only [forall_eq, V.ptr.injEq, V.row.injEq, V.rp.injEq, V.mref.injEq, exists_eq_left', and_assoc, rhoV, rhoVs, rhoSl, rhoO, rhoHp, rhoDd, rho1, HS.obj?, forall_eq', slSub, hpSub, hpSub1, nfL, vs, vss, vds, vd1, os, aget, go_sem, ↓reduceIte, reduceCtorEq, Nat.reduceEqDiff, Nat.reduceLT, Nat.reduceLeDiff, Nat.reduceMul, Nat.reduceAdd, Nat.reduceSub, reduceDIte, Nat.reduceBEq, Nat.reduceBNe, encChange, encEntry, ceqChange, ceqEntry, etaChange, etaEntry, zfChange, zfEntry, decChange, decEntry, seq_dec, encRemote, decRemote, encPacket, decPacket, encRAct, decRAct, etaRemote, zfRemote, etaPacket, zfPacket, ceqPacket, etaRAct, zfRAct, ceqRAct, getDz_Packet, getDz_RAct, dL_Packet, dL_RAct, dM_Entry, dM_Packet, getDz_Entry, dL_Entry, List.length_map, Int.toNat_natCast, Int.toNat_zero, Nat.sub_zero, ← List.map_take, ← List.map_drop, List.length_take, decL_sl, decM_cons, decM_nil, decM_append, take_map_snoc, dM_Entry, dM_Packet, dM_RAct])
    | (with_reducible refine And.intro ?_ ?_)
    | (subst hK)
  all_goals (try (intros; assumption))
  all_goals (try simp only [Bool.or_eq_true, Bool.and_eq_true, Bool.or_eq_false_iff, Bool.and_eq_false_iff, Bool.not_eq_true', Bool.not_eq_false', Bool.not_eq_true, Bool.not_eq_false, decide_eq_true_eq, decide_eq_false_iff_not, beq_iff_eq, bne_iff_ne, beq_eq_false_iff_ne, bne_eq_false_iff_eq, ne_eq, Int.not_lt, Int.not_le, D.b.injEq, D.i.injEq, D.s.injEq, D.agg.injEq, D.sl.injEq, true_and, and_true, List.cons.injEq, gt_iff_lt, ge_iff_le,  Bool.cond_true_left, Bool.cond_false_right, Bool.cond_true_right, Bool.cond_false_left, seq_iff, seq_dec, dec_f, dec_t, eqB_t, eqB_f] at *)
  all_goals (try (intros; trivial))
  all_goals (try (intros; omega))
  all_goals (try (rw [w64 (by omega) (by omega)]; first | done | omega))
  all_goals first | omega | (simp_all [dles]; done)

end
end Go.Ev
