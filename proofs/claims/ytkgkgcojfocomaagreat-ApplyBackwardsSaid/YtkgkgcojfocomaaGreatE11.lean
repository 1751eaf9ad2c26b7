/- Tools and contracts under the laws of this seat: Dyc80, Dyc50, Dyc61, Dyc46, Dyc12. -/
import Derived.Test.YtkgkgcojfocomaaGreatE05
set_option linter.unusedVariables false
set_option linter.unusedSimpArgs false
namespace Go.Ev
open Go.Proofs Ty
set_option maxRecDepth 10000
set_option maxHeartbeats 4000000
set_option linter.unusedSimpArgs false
set_option linter.unusedVariables false
attribute [local go_sem] erun_nil erun_cons edraw_eq edrun_nil edrun_cons e1_n e1_g guardSlot_eq lkAll_tmp lkAll_nil lkAll_const lkAll_func val_tmp val_const val_func aget getBox_mk getRow_mk liveRow_mk hp_mk eU_move_n eU_assign_n eU_move eU_assign eU_pick eU_alloc eU_box eU_load eU_store eU_nilCheck eU_binOp eU_unOp eU_fieldAddr eU_field eU_indexAddr eU_index eU_build eU_buildSlice eU_slice eU_extract eU_makeFunc eU_builtin eU_call eU_callv V.cells V.one D.one D.cells newObj nm HS.isFree HS.isLive andOk_some andOk_none List.map_cons List.map_nil Option.bind_some Option.bind_none putL List.cons_append List.nil_append thenS_normal thenS_ret thenS_exit inBlockS_normal inBlockS_ret inBlockS_exit true_and and_true justV justO cval Option.map_some Option.map_none loadAt storeAt ldV ldD mkAgg V.asD spliceL List.take_succ_cons List.take_zero List.drop_succ_cons List.drop_zero List.getElem?_cons_zero List.getElem?_cons_succ List.getElem?_nil List.all_cons List.all_nil Bool.and_true Bool.true_and Bool.and_self List.length_cons List.length_nil vals aopCall argsO argO toD3 toD2 toD1 toDs O.ok O.ok2 O.ok1 O.flat O.flat1 D.flat D.flatA inO inO2 inO1 inOs List.filterMap_nil List.filterMap_cons List.filter_nil List.filter_cons List.nodup_nil decide_true decide_false Bool.not_true Bool.not_false not_true_eq_false not_false_eq_true or_false false_or and_false false_and ne_eq List.append_nil optB guardQ guardRes beq_self_eq_true List.mapM_cons List.mapM_nil Option.pure_def Option.bind_eq_bind true_or or_true or_self callHp ite_self not_true not_false_iff ite_true ite_false if_true if_false Bool.false_eq_true Bool.true_eq_false List.any_nil List.any_cons List.contains_nil List.contains_cons eq_self aopAppend builtinV elems aopBin nilEqS nilEqP aopSlice bound natOf lenOf binD intBin unD bindEq eU_makeMap eU_convert eU_makeSlice aopConv aopMake isShift shiftD eU_lookup eU_mapUpdate getMp_mk List.range_zero Nat.zero_le Nat.zero_mul Nat.zero_add Nat.add_zero List.length_append List.take_length List.isEmpty_nil List.isEmpty_cons V.neg List.flatMap_nil and_self List.range_succ forall_const implies_true Nat.not_lt_zero exitQ_normal exitQ_ret exitS_eq exitO resVs resV_tmp resV_cell takeRow argCells mvAt dle_same dles_same ole_same ole oles dle dles List.nodup_cons List.mem_cons List.not_mem_nil List.drop_length Nat.le_refl Nat.lt_irrefl id_eq Option.some.injEq Bool.or_false Bool.false_or Bool.or_self Bool.or_true Bool.true_or false_implies Bool.and_false Bool.false_and List.reverse_cons List.reverse_nil sh1 mget1 mget aopLookup aopMapUpdate mapOf msetK msetV Option.isSome_some Option.isSome_none Bool.cond_true_left Bool.cond_false_right Bool.cond_true_right Bool.cond_false_left beq_true beq_false Bool.not_not imp_self guardVal notB strBin aopSliceS buildV argOk D.splice kEq Option.toList_some Option.toList_none adel List.getD_cons_zero List.getD_cons_succ bxIds bxId backHp hget one1 aopCall0 aopTurn
attribute [local go_sem] sz3 ag3 zr3 zo3 zd3 by3 sl3 st3 bo3 pt3 ck3 sz9 ag9 zr9 zo9 zd9 by9 sl9 un9 st9 bo9 pt9 ck9 sz23 ag23 zr23 zo23 zd23 by23 el23 sl23 un23 st23 bo23 pt23 sz48 ag48 zr48 zd48 by48 sl48 st48 bo48 pt48 of48_0 fa48_0 of48_1 fa48_1 of48_2 fa48_2 of48_3 fa48_3 of48_4 fa48_4 pl48 ek48 sz50 ag50 zr50 zd50 by50 sl50 st50 bo50 pt50 of50_0 fa50_0 of50_1 fa50_1 of50_2 fa50_2 of50_3 fa50_3 pl50 ek50 getDz_Entry dL_Entry List.length_map Int.toNat_natCast Int.toNat_zero Nat.sub_zero List.length_take decL_sl decM_cons decM_nil decM_append take_map_snoc dM_Entry dM_Packet dM_RAct sz4 ag4 zr4 zo4 zd4 by4 sl4 st4 bo4 pt4 sz26 ag26 zr26 zo26 zd26 by26 sl26 st26 bo26 pt26 ck26 sz61 ag61 zr61 zd61 by61 sl61 st61 bo61 pt61 of61_0 fa61_0 of61_1 fa61_1 of61_2 fa61_2 of61_3 fa61_3 pl61 ek61 sz65 ag65 by65 sl65 st65 bo65 pt65 mt65 sz99 ag99 zr99 zo99 zd99 by99 sl99 st99 bo99 pt99
attribute [local go_sem ←] List.map_take List.map_drop
noncomputable def cfg80 : Cfg := ⟨Tryz.prog, 55, tab103, (fun _ _ => []), [], (fun _ => none)⟩
theorem cfg80_l : cfg80.pins = [] ∧ cfg80.P = Tryz.prog ∧ cfg80.N = 55 ∧ cfg80.ti 102 = none ∧ cfg80.T 102 = e102 ∧ cfg80.mv 102 = (fun _ => []) ∧ cfg80.ti 103 = none ∧ cfg80.T 103 = e103 ∧ cfg80.mv 103 = (fun _ => []) := ⟨rfl, rfl, rfl, rfl, rfl, rfl, rfl, rfl, rfl⟩
section
attribute [local go_sem] cfg80_l e102 e103
attribute [local go_sem] encChange encEntry ceqChange ceqEntry etaChange etaEntry zfChange zfEntry decChange decEntry seq_dec
theorem con80 (hC : COk cfg80) (l : List Entry) (hp : l.length ≤ 1000000) : Sem Tryz.prog 80 [.d (.sl 8 (l.map encEntry))] (.tup [.d (.i .i64 (check l).1), .d (.i .i64 (check l).2)]) := by
  refine sem_of_awR (C := cfg80) (rs := [.tmp 2, .tmp 3]) (fun _ => []) Tryz.func80 rfl rfl rfl rfl rfl rfl ?_
  refine inQ ?_
  repeat' first
    | (with_reducible first | refine thenS_n ?_ | refine inBlockS_n ?_ | refine AW.seq ?_ | refine AW.block ?_)
    | (with_reducible first | (refine AW.runK hC ?_; intro K hK) | (refine AW.drawK hC (by kernel_rfl) ?_; intro K hK))
    | ((with_reducible first | refine erun_g ?_ | refine edraw_g ?_ | refine exitS_g ?_); refine siQ ?_; (try simp (disch := omega) only [w64, wu8]))
    | (with_reducible refine hCheck_g (by kernel_rfl) ?_)
    | ((first | (refine AW.cond rfl (fun h => ?_) (fun h => ?_)) | (refine AW.cond_ub rfl (fun h => ?_) ?_) | (refine AW.cond_nb rfl ?_ (fun h => ?_))) <;> (try replace h := boolH h) <;> (try (exfalso; first | omega | exact absurd h (by decide))))
    | (with_reducible first | refine AW.skip ?_ | refine AW.exit ?_ | refine AW.ret ?_ | refine thenS_r ?_ | refine thenS_e ?_ | refine inBlockS_r ?_ | refine inBlockS_e ?_ | refine inBlockS_e2 rfl ?_ | refine exitQ_r ?_ | refine exitQ_n ?_)
    | (refine AW.loopN 4 rfl (ι := Nat) (fun i => mkS [(0, V.d (.sl 8 (l.map encEntry))), (4, V.d (.i .i64 (i : Int)))] ([])) (fun i => i ≤ l.length ∧ l.length ≤ 80 ∧ checkFrom l (l.length - i) i = check l) (fun i => l.length - i) (0) ?_ ?_ (fun i hi => ?_) <;> (try dsimp only) <;> (try dsimp only at hi))
    | (refine LoopNext.mk1 4 (i + 1) ?_ ?_ ?_ <;> (try dsimp only))
    | (refine sub_auto ?_; refine subQ ?_)
    | (with_reducible refine And.intro ?_ ?_)
    | (subst hK)
    | exact trivial
  all_goals (try (intros; assumption))
  all_goals (try refine boolG ?_)
  all_goals (try replace hp := boolH hp)
  all_goals (try replace hi := boolH hi)
  all_goals (try replace hj := boolH hj)
  all_goals (try replace hk := boolH hk)
  all_goals (try (intros; trivial))
  all_goals (try (intros; omega))
  all_goals (try (rw [w64 (by omega) (by omega)]; first | done | omega))
  all_goals first
    | (rw [check, if_pos (by omega)])
    | (rw [check, if_neg (by omega)]; rfl)
    | exact (checkFrom_bad1 hi.2.2 (by omega) (by assumption)).1
    | exact (checkFrom_bad1 hi.2.2 (by omega) (by assumption)).2
    | exact (checkFrom_bad2 hi.2.2 (by omega) (by assumption) h.1 h.2).1
    | exact (checkFrom_bad2 hi.2.2 (by omega) (by assumption) h.1 h.2).2
    | exact (checkFrom_bad3 hi.2.2 (by omega) (by assumption) (by assumption) h).1
    | exact (checkFrom_bad3 hi.2.2 (by omega) (by assumption) (by assumption) h).2
    | exact checkFrom_next hi.2.2 (by omega) (by assumption) (by assumption) h
    | (rw [← hi.2.2, checkFrom_end (by omega)])
end
noncomputable def cfg50 : Cfg := ⟨Tryz.prog, 11, tab80, (fun _ _ => []), [], (fun _ => none)⟩
theorem cfg50_l : cfg50.pins = [] ∧ cfg50.P = Tryz.prog ∧ cfg50.N = 11 ∧ cfg50.ti 80 = none ∧ cfg50.T 80 = e80 ∧ cfg50.mv 80 = (fun _ => []) := ⟨rfl, rfl, rfl, rfl, rfl, rfl⟩
section
attribute [local go_sem] cfg50_l e80
attribute [local go_sem] encChange encEntry ceqChange ceqEntry etaChange etaEntry zfChange zfEntry decChange decEntry seq_dec
theorem con50 (hC : COk cfg50) (l : List Entry) (hp : l.length ≤ 1000000) : Sem Tryz.prog 50 [.d (.sl 8 (l.map encEntry))] (.d (.i .i64 (check l).2)) := by
  refine sem_of_awR (C := cfg50) (rs := [.tmp 2]) (fun _ => []) Tryz.func50 rfl rfl rfl rfl rfl rfl ?_
  refine inQ ?_
  repeat' first
    | (with_reducible first | refine thenS_n ?_ | refine inBlockS_n ?_ | refine AW.seq ?_ | refine AW.block ?_)
    | (with_reducible first | (refine AW.runK hC ?_; intro K hK) | (refine AW.drawK hC (by kernel_rfl) ?_; intro K hK))
    | ((with_reducible first | refine erun_g ?_ | refine edraw_g ?_ | refine exitS_g ?_); refine siQ ?_; (try simp (disch := omega) only [w64, wu8]))
    | (with_reducible refine hCheck_g (by kernel_rfl) ?_)
    | ((first | (refine AW.cond rfl (fun h => ?_) (fun h => ?_)) | (refine AW.cond_ub rfl (fun h => ?_) ?_) | (refine AW.cond_nb rfl ?_ (fun h => ?_))) <;> (try replace h := boolH h) <;> (try (exfalso; first | omega | exact absurd h (by decide))))
    | (with_reducible first | refine AW.skip ?_ | refine AW.exit ?_ | refine AW.ret ?_ | refine thenS_r ?_ | refine thenS_e ?_ | refine inBlockS_r ?_ | refine inBlockS_e ?_ | refine inBlockS_e2 rfl ?_ | refine exitQ_r ?_ | refine exitQ_n ?_)
    | (refine sub_auto ?_; refine subQ ?_)
    | (with_reducible refine And.intro ?_ ?_)
    | (subst hK)
    | exact trivial
  all_goals (try (intros; assumption))
  all_goals (try refine boolG ?_)
  all_goals (try replace hp := boolH hp)
  all_goals (try replace hi := boolH hi)
  all_goals (try replace hj := boolH hj)
  all_goals (try replace hk := boolH hk)
  all_goals (try (intros; trivial))
  all_goals (try (intros; omega))
  all_goals (try (rw [w64 (by omega) (by omega)]; first | done | omega))
end
noncomputable def cfg61 : Cfg := ⟨Tryz.prog, 112, tab50, (fun _ _ => []), [], (fun _ => none)⟩
theorem cfg61_l : cfg61.pins = [] ∧ cfg61.P = Tryz.prog ∧ cfg61.N = 112 ∧ cfg61.ti 79 = none ∧ cfg61.T 79 = e79 ∧ cfg61.mv 79 = (fun _ => []) := ⟨rfl, rfl, rfl, rfl, rfl, rfl⟩
section
attribute [local go_sem] cfg61_l e79
attribute [local go_sem] encChange encEntry ceqChange ceqEntry etaChange etaEntry zfChange zfEntry decChange decEntry seq_dec isK3 keyIdx_U aget_fam_lt toDs_U fnm_inj fnm_lit lit_fnm
theorem con61 (hC : COk cfg61) (l : List Entry) (hp : l.length ≤ 1000000) : Sem Tryz.prog 61 [.d (.sl 8 (l.map encEntry))] (.tup [.d (.mp ((cycles l).map keyU) ((cycles l).map fun u => .cp (cellsU u))), .d (.i .i64 (check l).1), .d (.i .i64 (check l).2)]) := by
  refine sem_of_awR (C := cfg61) (rs := [.tmp 2, .tmp 3, .tmp 4]) (fun _ => []) Tryz.func61 rfl rfl rfl rfl rfl rfl ?_
  refine inQ ?_
  repeat' first
    | (with_reducible first | refine thenS_n ?_ | refine inBlockS_n ?_ | refine AW.seq ?_ | refine AW.block ?_)
    | (refine AW.atR 12 rfl ?_; rcases hq : uidx (unitsOf (l.take i)) (l.getD i zEntry).unit with _ | k; rotate_left; obtain ⟨u, hu, hun, hlt⟩ := uidx_some hq; have hv := ptrs_get hlt; have hf := fam_box (t := 61) hu; clear hlt)
    | (with_reducible first | (refine AWh.runK hC ?_; intro K hK) | (refine AWh.drawK hC (by kernel_rfl) ?_; intro K hK))
    | (with_reducible first | (refine AW.runK hC ?_; intro K hK) | (refine AW.drawK hC (by kernel_rfl) ?_; intro K hK))
    | ((with_reducible first | refine erun_g ?_ | refine edraw_g ?_ | refine exitS_g ?_); (first | (simp (maxSteps := 1000000) only [go_sem, ↓reduceIte, reduceCtorEq, Nat.reduceEqDiff, Nat.reduceLT, Nat.reduceLeDiff, Nat.reduceMul, Nat.reduceAdd, Nat.reduceSub, reduceDIte, Nat.reduceBEq, Nat.reduceBNe, hq, hv, hf]) | (simp (maxSteps := 1000000) only [go_sem, ↓reduceIte, reduceCtorEq, Nat.reduceEqDiff, Nat.reduceLT, Nat.reduceLeDiff, Nat.reduceMul, Nat.reduceAdd, Nat.reduceSub, reduceDIte, Nat.reduceBEq, Nat.reduceBNe, hq]) | (refine siQ ?_)); (try simp (disch := omega) only [w64, wu8]))
    | (with_reducible refine hCheck_g (by kernel_rfl) ?_)
    | ((first | (refine AW.cond rfl (fun h => ?_) (fun h => ?_)) | (refine AW.cond_ub rfl (fun h => ?_) ?_) | (refine AW.cond_nb rfl ?_ (fun h => ?_))) <;> (try replace h := boolH h) <;> (try (exfalso; first | omega | exact absurd h (by decide))))
    | (with_reducible first | refine AW.skip ?_ | refine AW.exit ?_ | refine AW.ret ?_ | refine thenS_r ?_ | refine thenS_e ?_ | refine inBlockS_r ?_ | refine inBlockS_e ?_ | refine inBlockS_e2 rfl ?_ | refine exitQ_r ?_ | refine exitQ_n ?_)
    | (refine AW.loopN 5 rfl (ι := Nat) (fun i => mkS [(0, V.d (.sl 8 (l.map encEntry))), (5, V.mref 240), (16, V.d (.sl 8 (l.map encEntry))), (17, V.d (.i .i64 (l.length : Int))), (18, V.d (.i .i64 (i : Int)))] ((240, .live (.mp 65 ((unitsOf (l.take i)).map keyU) (ptrs ((unitsOf (l.take i)).map cellsU).length))) :: fam 61 ((unitsOf (l.take i)).map cellsU))) (fun i => i ≤ l.length ∧ l.length ≤ 80 ∧ checkFrom l (l.length - i) i = check l ∧ UInv (unitsOf (l.take i)) (l.take i)) (fun i => l.length - i) (0) ?_ ?_ (fun i hi => ?_) <;> (try dsimp only) <;> (try dsimp only at hi))
    | (refine LoopNext.mk1 5 (i + 1) ?_ ?_ ?_ <;> (try dsimp only))
    | (refine subU_same (M := 240) (us := []) (by omega) rfl ?_ ?_ ?_ ?_ <;> first
      | (simp only [aget, Nat.reduceEqDiff, fnm_inj, fnm_lit, lit_fnm, Nat.reduceLT, ↓reduceIte, List.take_zero]; done)
      | (intro j; simp only [aget, Nat.reduceEqDiff, fnm_inj, fnm_lit, lit_fnm, Nat.reduceLT, ↓reduceIte]; done)
      | (intro j hj; simp only [aget, Nat.reduceEqDiff, fnm_inj, fnm_lit, lit_fnm, Nat.reduceLT, hj, ↓reduceIte]; done)
      | (intro ρ nf h1 h2; simp only [slSub, aget, vs, ↓reduceIte, Nat.reduceEqDiff, dle_same, dles_same, dle, D.i.injEq, eq_self, and_self, and_true, true_and, V.mref.injEq, exists_eq_left', h1, h2]; first | done | omega)
      | (rw [unitsOf_take (by omega), uStep_same (by omega) (by omega)]; done)
      | (rw [unitsOf_take (by omega), uStep_new (by omega)]; done)
      | (rw [unitsOf_take (by omega), uStep_upd (by omega) (by omega) hq hu]; done)
      | (simp only [aget, Nat.reduceEqDiff, fnm_inj, fnm_lit, lit_fnm, Nat.reduceLT, ↓reduceIte, uEnd]; (repeat' split) <;> first | rfl | (exfalso; omega))
      | (show unitsOf (l.take 0) = []; rfl))
    | (refine subU_same (M := 240) (us := unitsOf (l.take i)) (by omega) rfl ?_ ?_ ?_ ?_ <;> first
      | (simp only [aget, Nat.reduceEqDiff, fnm_inj, fnm_lit, lit_fnm, Nat.reduceLT, ↓reduceIte, List.take_zero]; done)
      | (intro j; simp only [aget, Nat.reduceEqDiff, fnm_inj, fnm_lit, lit_fnm, Nat.reduceLT, ↓reduceIte]; done)
      | (intro j hj; simp only [aget, Nat.reduceEqDiff, fnm_inj, fnm_lit, lit_fnm, Nat.reduceLT, hj, ↓reduceIte]; done)
      | (intro ρ nf h1 h2; simp only [slSub, aget, vs, ↓reduceIte, Nat.reduceEqDiff, dle_same, dles_same, dle, D.i.injEq, eq_self, and_self, and_true, true_and, V.mref.injEq, exists_eq_left', h1, h2]; first | done | omega)
      | (rw [unitsOf_take (by omega), uStep_same (by omega) (by omega)]; done)
      | (rw [unitsOf_take (by omega), uStep_new (by omega)]; done)
      | (rw [unitsOf_take (by omega), uStep_upd (by omega) (by omega) hq hu]; done)
      | (simp only [aget, Nat.reduceEqDiff, fnm_inj, fnm_lit, lit_fnm, Nat.reduceLT, ↓reduceIte, uEnd]; (repeat' split) <;> first | rfl | (exfalso; omega))
      | (show unitsOf (l.take 0) = []; rfl))
    | (refine subU_new (M := 240) (us := unitsOf (l.take i)) (by omega) rfl (b := 1232) (u := ⟨(l.getD i zEntry).unit, (l.getD i zEntry).number, (l.getD i zEntry).number, 2⟩) (by omega) (by omega) ?_ ?_ ?_ ?_ ?_ <;> first
      | (simp only [aget, Nat.reduceEqDiff, fnm_inj, fnm_lit, lit_fnm, Nat.reduceLT, ↓reduceIte, List.take_zero]; done)
      | (intro j; simp only [aget, Nat.reduceEqDiff, fnm_inj, fnm_lit, lit_fnm, Nat.reduceLT, ↓reduceIte]; done)
      | (intro j hj; simp only [aget, Nat.reduceEqDiff, fnm_inj, fnm_lit, lit_fnm, Nat.reduceLT, hj, ↓reduceIte]; done)
      | (intro ρ nf h1 h2; simp only [slSub, aget, vs, ↓reduceIte, Nat.reduceEqDiff, dle_same, dles_same, dle, D.i.injEq, eq_self, and_self, and_true, true_and, V.mref.injEq, exists_eq_left', h1, h2]; first | done | omega)
      | (rw [unitsOf_take (by omega), uStep_same (by omega) (by omega)]; done)
      | (rw [unitsOf_take (by omega), uStep_new (by omega)]; done)
      | (rw [unitsOf_take (by omega), uStep_upd (by omega) (by omega) hq hu]; done)
      | (simp only [aget, Nat.reduceEqDiff, fnm_inj, fnm_lit, lit_fnm, Nat.reduceLT, ↓reduceIte, uEnd]; (repeat' split) <;> first | rfl | (exfalso; omega))
      | (show unitsOf (l.take 0) = []; rfl))
    | (refine subU_upd (M := 240) (us := unitsOf (l.take i)) (by omega) rfl (u' := uEnd (l.getD i zEntry) u) hu ?_ ?_ rfl ?_ ?_ ?_ <;> first
      | (simp only [aget, Nat.reduceEqDiff, fnm_inj, fnm_lit, lit_fnm, Nat.reduceLT, ↓reduceIte, List.take_zero]; done)
      | (intro j; simp only [aget, Nat.reduceEqDiff, fnm_inj, fnm_lit, lit_fnm, Nat.reduceLT, ↓reduceIte]; done)
      | (intro j hj; simp only [aget, Nat.reduceEqDiff, fnm_inj, fnm_lit, lit_fnm, Nat.reduceLT, hj, ↓reduceIte]; done)
      | (intro ρ nf h1 h2; simp only [slSub, aget, vs, ↓reduceIte, Nat.reduceEqDiff, dle_same, dles_same, dle, D.i.injEq, eq_self, and_self, and_true, true_and, V.mref.injEq, exists_eq_left', h1, h2]; first | done | omega)
      | (rw [unitsOf_take (by omega), uStep_same (by omega) (by omega)]; done)
      | (rw [unitsOf_take (by omega), uStep_new (by omega)]; done)
      | (rw [unitsOf_take (by omega), uStep_upd (by omega) (by omega) hq hu]; done)
      | (simp only [aget, Nat.reduceEqDiff, fnm_inj, fnm_lit, lit_fnm, Nat.reduceLT, ↓reduceIte, uEnd]; (repeat' split) <;> first | rfl | (exfalso; omega))
      | (show unitsOf (l.take 0) = []; rfl))
    | (refine sub_auto ?_; refine subQ ?_)
    | (with_reducible refine And.intro ?_ ?_)
    | (subst hK)
    | exact trivial
  all_goals (try (intros; assumption))
  all_goals (try refine boolG ?_)
  all_goals (try replace hp := boolH hp)
  all_goals (try replace hi := boolH hi)
  all_goals (try replace hj := boolH hj)
  all_goals (try replace hk := boolH hk)
  all_goals (try (intros; trivial))
  all_goals (try (intros; omega))
  all_goals (try (rw [w64 (by omega) (by omega)]; first | done | omega))
  all_goals first
    | (rw [check_large (by omega)]; done)
    | (rw [cycles_err (by rw [check_large (by omega)]; decide)]; trivial)
    | exact check_of (by omega)
    | exact UInv.nil
    | exact isK3s _
    | (rw [check_bad1 hi.2.2.1 (by omega) (by assumption)]; done)
    | (rw [cycles_err (by rw [check_bad1 hi.2.2.1 (by omega) (by assumption)]; assumption)]; trivial)
    | (rw [check_bad2 hi.2.2.1 (by omega) (by assumption) (by assumption)]; done)
    | (rw [cycles_err (by rw [check_bad2 hi.2.2.1 (by omega) (by assumption) (by assumption)]; show (14 : Int) ≠ 0; decide)]; trivial)
    | (have e : l.take i = l := List.take_of_length_le (by omega)
       rw [e, cycles_ok (by rw [← hi.2.2.1, checkFrom_end (by omega)])]; exact dles_refl _)
    | (rw [← hi.2.2.1, checkFrom_end (by omega)]; done)
    | (have hst := (hi.2.2.2.st (l.getD i zEntry)).trans (stU_none hq)
       have hck := check_state hi.2.2.1 (by omega) (by assumption) (by omega) hst
       clear hC hq
       first
       | (rw [if_pos (by (repeat' split) <;> omega)] at hck; first | exact hck | exact hi.2.2.2.next (by omega) (hst.trans (by (repeat' split) <;> omega)))
       | (rw [if_neg (by (repeat' split) <;> omega)] at hck; first | (rw [hck]; done) | (rw [hck]; (repeat' split) <;> first | rfl | omega) | (rw [cycles_err (by rw [hck]; dsimp only; (repeat' split) <;> omega)]; trivial)))
    | (have hst := (hi.2.2.2.st (l.getD i zEntry)).trans (stU_some hq hu)
       have hck := check_state hi.2.2.1 (by omega) (by assumption) (by omega) hst
       clear hC hq
       first
       | (rw [if_pos (by (repeat' split) <;> omega)] at hck; first | exact hck | exact hi.2.2.2.next (by omega) (hst.trans (by (repeat' split) <;> omega)))
       | (rw [if_neg (by (repeat' split) <;> omega)] at hck; first | (rw [hck]; done) | (rw [hck]; (repeat' split) <;> first | rfl | omega) | (rw [cycles_err (by rw [hck]; dsimp only; (repeat' split) <;> omega)]; trivial)))
end
noncomputable def cfg46 : Cfg := ⟨Tryz.prog, 15, tab61, (fun _ _ => []), [], (fun _ => none)⟩
theorem cfg46_l : cfg46.pins = [] ∧ cfg46.P = Tryz.prog ∧ cfg46.N = 15 ∧ cfg46.ti 61 = none ∧ cfg46.T 61 = e61 ∧ cfg46.mv 61 = (fun _ => []) := ⟨rfl, rfl, rfl, rfl, rfl, rfl⟩
section
attribute [local go_sem] cfg46_l e61
attribute [local go_sem] encChange encEntry ceqChange ceqEntry etaChange etaEntry zfChange zfEntry decChange decEntry seq_dec
theorem con46 (hC : COk cfg46) (l : List Entry) (hp : l.length ≤ 1000000) : Sem Tryz.prog 46 [.d (.sl 8 (l.map encEntry))] (.tup [.d (.i .i64 (check l).1), .d (.i .i64 (check l).2)]) := by
  refine sem_of_awR (C := cfg46) (rs := [.tmp 2, .tmp 3]) (fun _ => []) Tryz.func46 rfl rfl rfl rfl rfl rfl ?_
  refine inQ ?_
  repeat' first
    | (with_reducible first | refine thenS_n ?_ | refine inBlockS_n ?_ | refine AW.seq ?_ | refine AW.block ?_)
    | (with_reducible first | (refine AW.runK hC ?_; intro K hK) | (refine AW.drawK hC (by kernel_rfl) ?_; intro K hK))
    | ((with_reducible first | refine erun_g ?_ | refine edraw_g ?_ | refine exitS_g ?_); refine siQ ?_; (try simp (disch := omega) only [w64, wu8]))
    | (with_reducible refine hCheck_g (by kernel_rfl) ?_)
    | ((first | (refine AW.cond rfl (fun h => ?_) (fun h => ?_)) | (refine AW.cond_ub rfl (fun h => ?_) ?_) | (refine AW.cond_nb rfl ?_ (fun h => ?_))) <;> (try replace h := boolH h) <;> (try (exfalso; first | omega | exact absurd h (by decide))))
    | (with_reducible first | refine AW.skip ?_ | refine AW.exit ?_ | refine AW.ret ?_ | refine thenS_r ?_ | refine thenS_e ?_ | refine inBlockS_r ?_ | refine inBlockS_e ?_ | refine inBlockS_e2 rfl ?_ | refine exitQ_r ?_ | refine exitQ_n ?_)
    | (refine sub_auto ?_; refine subQ ?_)
    | (with_reducible refine And.intro ?_ ?_)
    | (subst hK)
    | exact trivial
  all_goals (try (intros; assumption))
  all_goals (try refine boolG ?_)
  all_goals (try replace hp := boolH hp)
  all_goals (try replace hi := boolH hi)
  all_goals (try replace hj := boolH hj)
  all_goals (try replace hk := boolH hk)
  all_goals (try (intros; trivial))
  all_goals (try (intros; omega))
  all_goals (try (rw [w64 (by omega) (by omega)]; first | done | omega))
end
noncomputable def cfg12 : Cfg := ⟨Tryz.prog, 5, tab46, (fun _ _ => []), [], (fun _ => none)⟩
theorem cfg12_l : cfg12.pins = [] ∧ cfg12.P = Tryz.prog ∧ cfg12.N = 5 := ⟨rfl, rfl, rfl⟩
section
attribute [local go_sem] cfg12_l
theorem con12 (hC : COk cfg12) (l : List Entry) (hp : l.length ≤ 1000000) : Sem Tryz.prog 12 [.d (.sl 8 (l.map encEntry))] (.own 50 8 (l.map encEntry)) := by
  refine sem_of_awR (C := cfg12) (rs := [.tmp 2]) (fun _ => [(0, 50, 8)]) Tryz.func12 rfl rfl rfl rfl rfl rfl ?_
  refine inQ ?_
  repeat' first
    | (with_reducible first | refine thenS_n ?_ | refine inBlockS_n ?_ | refine AW.seq ?_ | refine AW.block ?_)
    | (with_reducible first | (refine AW.runK hC ?_; intro K hK) | (refine AW.drawK hC (by kernel_rfl) ?_; intro K hK))
    | ((with_reducible first | refine erun_g ?_ | refine edraw_g ?_ | refine exitS_g ?_); refine siQ ?_; (try simp (disch := omega) only [w64, wu8]))
    | (with_reducible refine hCheck_g (by kernel_rfl) ?_)
    | ((first | (refine AW.cond rfl (fun h => ?_) (fun h => ?_)) | (refine AW.cond_ub rfl (fun h => ?_) ?_) | (refine AW.cond_nb rfl ?_ (fun h => ?_))) <;> (try replace h := boolH h) <;> (try (exfalso; first | omega | exact absurd h (by decide))))
    | (with_reducible first | refine AW.skip ?_ | refine AW.exit ?_ | refine AW.ret ?_ | refine thenS_r ?_ | refine thenS_e ?_ | refine inBlockS_r ?_ | refine inBlockS_e ?_ | refine inBlockS_e2 rfl ?_ | refine exitQ_r ?_ | refine exitQ_n ?_)
    | (refine sub_auto ?_; refine subQ ?_)
    | (with_reducible refine And.intro ?_ ?_)
    | (subst hK)
    | exact trivial
  all_goals (try (intros; assumption))
  all_goals (try refine boolG ?_)
  all_goals (try replace hp := boolH hp)
  all_goals (try replace hi := boolH hi)
  all_goals (try replace hj := boolH hj)
  all_goals (try replace hk := boolH hk)
  all_goals (try (intros; trivial))
  all_goals (try (intros; omega))
  all_goals (try (rw [w64 (by omega) (by omega)]; first | done | omega))
  all_goals first | omega | (simp_all [dles]; done)
end
end Go.Ev
