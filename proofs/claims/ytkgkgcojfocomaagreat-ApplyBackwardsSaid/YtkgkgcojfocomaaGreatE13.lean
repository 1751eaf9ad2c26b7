/- Tools and contracts under the laws of this seat: Dyc28 to Dyc173. -/
import Derived.Test.YtkgkgcojfocomaaGreatE05
import Derived.Test.YtkgkgcojfocomaaGreatE12
set_option linter.unusedVariables false
set_option linter.unusedSimpArgs false
namespace Go.Ev
open Go.Proofs Ty
set_option maxRecDepth 10000
set_option maxHeartbeats 4000000
set_option linter.unusedSimpArgs false
set_option linter.unusedVariables false
attribute [local go_sem] erun_nil erun_cons edraw_eq edrun_nil edrun_cons e1_n e1_g guardSlot_eq lkAll_tmp lkAll_nil lkAll_const lkAll_func val_tmp val_const val_func aget getBox_mk getRow_mk liveRow_mk hp_mk eU_move_n eU_assign_n eU_move eU_assign eU_pick eU_alloc eU_box eU_load eU_store eU_nilCheck eU_binOp eU_unOp eU_fieldAddr eU_field eU_indexAddr eU_index eU_build eU_buildSlice eU_slice eU_extract eU_makeFunc eU_builtin eU_call eU_callv V.cells V.one D.one D.cells newObj nm HS.isFree HS.isLive andOk_some andOk_none List.map_cons List.map_nil Option.bind_some Option.bind_none putL List.cons_append List.nil_append thenS_normal thenS_ret thenS_exit inBlockS_normal inBlockS_ret inBlockS_exit true_and and_true justV justO cval Option.map_some Option.map_none loadAt storeAt ldV ldD mkAgg V.asD spliceL List.take_succ_cons List.take_zero List.drop_succ_cons List.drop_zero List.getElem?_cons_zero List.getElem?_cons_succ List.getElem?_nil List.all_cons List.all_nil Bool.and_true Bool.true_and Bool.and_self List.length_cons List.length_nil vals aopCall argsO argO toD3 toD2 toD1 toDs O.ok O.ok2 O.ok1 O.flat O.flat1 D.flat D.flatA inO inO2 inO1 inOs List.filterMap_nil List.filterMap_cons List.filter_nil List.filter_cons List.nodup_nil decide_true decide_false Bool.not_true Bool.not_false not_true_eq_false not_false_eq_true or_false false_or and_false false_and ne_eq List.append_nil optB guardQ guardRes beq_self_eq_true List.mapM_cons List.mapM_nil Option.pure_def Option.bind_eq_bind true_or or_true or_self callHp ite_self not_true not_false_iff ite_true ite_false if_true if_false Bool.false_eq_true Bool.true_eq_false List.any_nil List.any_cons List.contains_nil List.contains_cons eq_self aopAppend builtinV elems aopBin nilEqS nilEqP aopSlice bound natOf lenOf binD intBin unD bindEq eU_makeMap eU_convert eU_makeSlice aopConv aopMake isShift shiftD eU_lookup eU_mapUpdate getMp_mk List.range_zero Nat.zero_le Nat.zero_mul Nat.zero_add Nat.add_zero List.length_append List.take_length List.isEmpty_nil List.isEmpty_cons V.neg List.flatMap_nil and_self List.range_succ forall_const implies_true Nat.not_lt_zero exitQ_normal exitQ_ret exitS_eq exitO resVs resV_tmp resV_cell takeRow argCells mvAt dle_same dles_same ole_same ole oles dle dles List.nodup_cons List.mem_cons List.not_mem_nil List.drop_length Nat.le_refl Nat.lt_irrefl id_eq Option.some.injEq Bool.or_false Bool.false_or Bool.or_self Bool.or_true Bool.true_or false_implies Bool.and_false Bool.false_and List.reverse_cons List.reverse_nil sh1 mget1 mget aopLookup aopMapUpdate mapOf msetK msetV Option.isSome_some Option.isSome_none Bool.cond_true_left Bool.cond_false_right Bool.cond_true_right Bool.cond_false_left beq_true beq_false Bool.not_not imp_self guardVal notB strBin aopSliceS buildV argOk D.splice kEq Option.toList_some Option.toList_none adel List.getD_cons_zero List.getD_cons_succ bxIds bxId backHp hget one1 aopCall0 aopTurn
attribute [local go_sem] sz3 ag3 zr3 zo3 zd3 by3 sl3 st3 bo3 pt3 ck3 sz9 ag9 zr9 zo9 zd9 by9 sl9 un9 st9 bo9 pt9 ck9 sz23 ag23 zr23 zo23 zd23 by23 el23 sl23 un23 st23 bo23 pt23 sz26 ag26 zr26 zo26 zd26 by26 sl26 st26 bo26 pt26 ck26 sz48 ag48 zr48 zd48 by48 sl48 st48 bo48 pt48 of48_0 fa48_0 of48_1 fa48_1 of48_2 fa48_2 of48_3 fa48_3 of48_4 fa48_4 pl48 ek48 sz50 ag50 zr50 zd50 by50 sl50 st50 bo50 pt50 of50_0 fa50_0 of50_1 fa50_1 of50_2 fa50_2 of50_3 fa50_3 pl50 ek50 sz53 ag53 zr53 zo53 zd53 by53 el53 sl53 un53 st53 bo53 pt53 sz61 ag61 zr61 zd61 by61 sl61 st61 bo61 pt61 of61_0 fa61_0 of61_1 fa61_1 of61_2 fa61_2 of61_3 fa61_3 pl61 ek61 sz65 ag65 by65 sl65 st65 bo65 pt65 mt65 sz99 ag99 zr99 zo99 zd99 by99 sl99 st99 bo99 pt99 sz56 ag56 zr56 zo56 zd56 by56 el56 sl56 un56 st56 bo56 pt56 nc0 nc1 nc2 sz182 ag182 zr182 zo182 zd182 by182 el182 sl182 un182 st182 bo182 pt182 sz4 ag4 zr4 zo4 zd4 by4 sl4 st4 bo4 pt4 sz5 ag5 zr5 zo5 zd5 by5 sl5 st5 bo5 pt5 ck5 sz206 ag206 zr206 zo206 zd206 by206 el206 sl206 un206 st206 bo206 pt206 ck206 sz108 ag108 zr108 zd108 by108 sl108 st108 bo108 pt108 of108_0 fa108_0 of108_1 fa108_1 of108_2 fa108_2 pl108 ek108
noncomputable def cfg28 : Cfg := ⟨Tryz.prog, 34, tab12, (fun _ _ => []), [], (fun _ => none)⟩
theorem cfg28_l : cfg28.pins = [] ∧ cfg28.P = Tryz.prog ∧ cfg28.N = 34 ∧ cfg28.ti 61 = none ∧ cfg28.T 61 = e61 ∧ cfg28.mv 61 = (fun _ => []) ∧ cfg28.ti 62 = none ∧ cfg28.ti 63 = none := ⟨rfl, rfl, rfl, rfl, rfl, rfl, rfl, rfl⟩
section
attribute [local go_sem] cfg28_l e61
attribute [local go_sem] encChange encEntry ceqChange ceqEntry etaChange etaEntry zfChange zfEntry decChange decEntry seq_dec getDz_Entry dL_Entry List.length_map Int.toNat_natCast Int.toNat_zero Nat.sub_zero List.length_take decL_sl decM_cons decM_nil decM_append take_map_snoc dM_Entry dM_Packet dM_RAct getDz_AUnit dL_AUnit dM_AUnit encAUnit decAUnit etaAUnit zfAUnit ceqAUnit
attribute [local go_sem ←] List.map_take List.map_drop
theorem con28 (hC : COk cfg28) (l : List Entry) (hp : l.length ≤ 1000000) : Sem Tryz.prog 28 [.d (.sl 8 (l.map encEntry))] (.tup [.d (.sl 4 ((cycles l).map encAUnit)), .d (.i .i64 (check l).2)]) := by
  refine sem_of_awR (C := cfg28) (rs := [.tmp 2, .tmp 3]) (fun _ => []) Tryz.func28 rfl rfl rfl rfl rfl rfl ?_
  refine inQ ?_
  repeat' first
    | (refine AW.rangeMap (kt := 3) (et := 99) (slI := fun d => [(7, V.row 112 4 0 ((pickU (cycles l) d).map encAUnit).length), (20, .ptr 320 0)]) (hpI := fun d => [(112, .live (.row 61 4 false ((pickU (cycles l) d).map encAUnit))), (320, .dead)]) (id := 320) rfl rfl rfl rfl rfl rfl rfl rfl rfl rfl rfl rfl rfl rfl rfl rfl rfl rfl rfl rfl rfl rfl (by refine ⟨⟨?_, ?_⟩, ?_, ?_, ?_, ?_, ?_⟩ <;> (show _ < 34; decide)) (by decide) (by show mapT Tryz.prog 65 = some (3, 99); kernel_rfl) rfl rfl rfl (fun d => ⟨rfl, rfl, rfl, rfl, rfl⟩) (fun d => rfl) ?_ (fun d j h1 h2 h3 h4 => ?_) (fun d hd => have hpl := pick_len35 (us := cycles l) (d := d) (by simpa using hd); ?_))
    | (refine AW.turnX sortU_semX sortU_none ⟨_, Tryz.func62, rfl, rfl⟩ rfl rfl rfl rfl rfl rfl (by show _ < 34; decide) rfl rfl rfl rfl (gSort_pick (by assumption) (by simpa using hd)) (ok_pick35 (by assumption) (by simpa using hd)) ?_ ?_)
    | (with_reducible first | refine thenS_n ?_ | refine inBlockS_n ?_ | refine AW.seq ?_ | refine AW.block ?_)
    | (with_reducible first | (refine AW.runK hC ?_; intro K hK) | (refine AW.drawK hC (by kernel_rfl) ?_; intro K hK))
    | ((with_reducible first | refine erun_g ?_ | refine edraw_g ?_ | refine exitS_g ?_); (first | (simp (maxSteps := 1000000) only [go_sem, ↓reduceIte, reduceCtorEq, Nat.reduceEqDiff, Nat.reduceLT, Nat.reduceLeDiff, Nat.reduceMul, Nat.reduceAdd, Nat.reduceSub, reduceDIte, Nat.reduceBEq, Nat.reduceBNe, hpl]) | (refine siQ ?_)); (try simp (disch := omega) only [w64, wu8]))
    | (with_reducible refine hCheck_g (by kernel_rfl) ?_)
    | ((first | (refine AW.cond rfl (fun h => ?_) (fun h => ?_)) | (refine AW.cond_ub rfl (fun h => ?_) ?_) | (refine AW.cond_nb rfl ?_ (fun h => ?_))) <;> (try replace h := boolH h) <;> (try (exfalso; first | omega | exact absurd h (by decide))))
    | (with_reducible first | refine AW.skip ?_ | refine AW.exit ?_ | refine AW.ret ?_ | refine thenS_r ?_ | refine thenS_e ?_ | refine inBlockS_r ?_ | refine inBlockS_e ?_ | refine inBlockS_e2 rfl ?_ | refine exitQ_r ?_ | refine exitQ_n ?_)
    | (refine sub_auto ?_; refine subQ ?_)
    | (with_reducible refine And.intro ?_ ?_)
    | (subst hK)
    | exact trivial
  all_goals (try (intros; assumption))
  all_goals (try refine boolG ?_)
  all_goals (try replace hp := boolH hp)
  all_goals (try replace hi := boolH hi)
  all_goals (try replace hj := boolH hj)
  all_goals (try replace hk := boolH hk)
  all_goals (try (intros; trivial))
  all_goals (try (intros; omega))
  all_goals (try (rw [w64 (by omega) (by omega)]; first | done | omega))
  all_goals first
    | (rw [cycles_err (by assumption)]; rfl)
    | (intro e
       have h5 := congrArg List.length e
       rw [List.length_map, hpl] at h5
       exact List.eq_nil_of_length_eq_zero (by rw [List.length_map]; exact h5))
    | skip
  · rw [cp_get h3]
    have hdl := nodup_len _ d h1 h2
    refine AW.runK (COk.pins hC) ?_
    intro K hK
    simp (maxSteps := 1000000) only [go_sem, ↓reduceIte, reduceCtorEq, Nat.reduceEqDiff, Nat.reduceLT, Nat.reduceLeDiff, Nat.reduceMul, Nat.reduceAdd, Nat.reduceSub, reduceDIte, Nat.reduceBEq, Nat.reduceBNe, encChange, encEntry, ceqChange, ceqEntry, etaChange, etaEntry, zfChange, zfEntry, decChange, decEntry, seq_dec, getDz_Entry, dL_Entry, List.length_map, Int.toNat_natCast, Int.toNat_zero, Nat.sub_zero, ← List.map_take, ← List.map_drop, List.length_take, decL_sl, decM_cons, decM_nil, decM_append, take_map_snoc, dM_Entry, dM_Packet, dM_RAct, getDz_AUnit, dL_AUnit, dM_AUnit, encAUnit, decAUnit, etaAUnit, zfAUnit, ceqAUnit]
    rw [List.length_map] at hdl
    have hcl := cycles_len (l := l)
    refine ⟨?_, ?_, ?_⟩
    · intro d hd; subst hd; exact ⟨rfl, by simp [D.cells, D.one]⟩
    · rw [pick_len]; omega
    · subst hK
      refine ⟨rfl, ?_⟩
      refine sub_auto ?_
      simp (maxSteps := 1000000) only [forall_eq, V.ptr.injEq, V.row.injEq, V.rp.injEq, V.mref.injEq, exists_eq_left', and_assoc, rhoV, rhoVs, rhoSl, rhoO, rhoHp, rhoDd, rho1, HS.obj?, forall_eq', slSub, hpSub, hpSub1, nfL, vs, vss, vds, vd1, os, aget, go_sem, pick_snoc, List.map_append, List.map_cons, List.map_nil, List.length_append, List.length_map, List.length_cons, List.length_nil, etaAUnit, encAUnit, ↓reduceIte, reduceCtorEq, Nat.reduceEqDiff, Nat.reduceLT, Nat.reduceLeDiff, Nat.reduceMul, Nat.reduceAdd, Nat.reduceSub, reduceDIte, Nat.reduceBEq, Nat.reduceBNe]
end
noncomputable def cfg30 : Cfg := ⟨Tryz.prog, 26, tab28, (fun _ _ => []), [], (fun _ => none)⟩
theorem cfg30_l : cfg30.pins = [] ∧ cfg30.P = Tryz.prog ∧ cfg30.N = 26 := ⟨rfl, rfl, rfl⟩
section
attribute [local go_sem] cfg30_l
attribute [local go_sem] encChange encEntry ceqChange ceqEntry etaChange etaEntry zfChange zfEntry decChange decEntry seq_dec getDz_Entry dL_Entry List.length_map Int.toNat_natCast Int.toNat_zero Nat.sub_zero List.length_take decL_sl decM_cons decM_nil decM_append take_map_snoc dM_Entry dM_Packet dM_RAct getDz_AUnit dL_AUnit dM_AUnit encAUnit decAUnit etaAUnit zfAUnit ceqAUnit getDz_str dL_str dM_str decL_nil
attribute [local go_sem ←] List.map_take List.map_drop
theorem con30 (hC : COk cfg30) (a : List AUnit) (b : List AUnit) (hp : a.length ≤ 1000000) : Sem Tryz.prog 30 [.d (.sl 4 (a.map encAUnit)), .d (.sl 4 (b.map encAUnit))] (.d (.b (decide (a = b)))) := by
  refine sem_of_awR (C := cfg30) (rs := [.tmp 4]) (fun _ => []) Tryz.func30 rfl rfl rfl rfl rfl rfl ?_
  refine inQ ?_
  repeat' first
    | (with_reducible first | refine thenS_n ?_ | refine inBlockS_n ?_ | refine AW.seq ?_ | refine AW.block ?_)
    | (with_reducible first | (refine AW.runK hC ?_; intro K hK) | (refine AW.drawK hC (by kernel_rfl) ?_; intro K hK))
    | ((with_reducible first | refine erun_g ?_ | refine edraw_g ?_ | refine exitS_g ?_); refine siQ ?_; (try simp (disch := omega) only [w64, wu8]))
    | (with_reducible refine hCheck_g (by kernel_rfl) ?_)
    | ((first | (refine AW.cond rfl (fun h => ?_) (fun h => ?_)) | (refine AW.cond_ub rfl (fun h => ?_) ?_) | (refine AW.cond_nb rfl ?_ (fun h => ?_))) <;> (try replace h := boolH h) <;> (try (exfalso; first | omega | exact absurd h (by decide))))
    | (with_reducible first | refine AW.skip ?_ | refine AW.exit ?_ | refine AW.ret ?_ | refine thenS_r ?_ | refine thenS_e ?_ | refine inBlockS_r ?_ | refine inBlockS_e ?_ | refine inBlockS_e2 rfl ?_ | refine exitQ_r ?_ | refine exitQ_n ?_)
    | (refine AW.loopN 4 rfl (ι := Nat) (fun i => mkS [(0, V.d (.sl 4 (a.map encAUnit))), (1, V.d (.sl 4 (b.map encAUnit))), (5, V.d (.i .i64 (i : Int)))] ([])) (fun i => i ≤ a.length ∧ a.length = b.length ∧ a.take i = b.take i) (fun i => a.length - i) (0) ?_ ?_ (fun i hi => ?_) <;> (try dsimp only) <;> (try dsimp only at hi))
    | (refine LoopNext.mk1 4 (i + 1) ?_ ?_ ?_ <;> (try dsimp only))
    | (refine sub_auto ?_; refine subQ ?_)
    | (with_reducible refine And.intro ?_ ?_)
    | (subst hK)
    | exact trivial
  all_goals (try (intros; assumption))
  all_goals (try refine boolG ?_)
  all_goals (try replace hp := boolH hp)
  all_goals (try replace hi := boolH hi)
  all_goals (try replace hj := boolH hj)
  all_goals (try replace hk := boolH hk)
  all_goals (try (intros; trivial))
  all_goals (try (intros; omega))
  all_goals (try (rw [w64 (by omega) (by omega)]; first | done | omega))
  all_goals first
    | rfl
    | (intro e; subst e; exact h rfl)
    | exact take_eq_end hi.2.2 (by omega) (by omega)
    | exact take_eq_step hi.2.2 (by omega) (by omega) (by assumption)
    | (simp only [decide_eq_true_eq]; exact take_eq_end hi.2.2 (by omega) (by omega))
    | (intro e; subst e; simp at h; done)
end
noncomputable def cfg31 : Cfg := ⟨Tryz.prog, 26, tab30, (fun _ _ => []), [], (fun _ => none)⟩
theorem cfg31_l : cfg31.pins = [] ∧ cfg31.P = Tryz.prog ∧ cfg31.N = 26 := ⟨rfl, rfl, rfl⟩
section
attribute [local go_sem] cfg31_l
attribute [local go_sem] encChange encEntry ceqChange ceqEntry etaChange etaEntry zfChange zfEntry decChange decEntry seq_dec getDz_Entry dL_Entry List.length_map Int.toNat_natCast Int.toNat_zero Nat.sub_zero List.length_take decL_sl decM_cons decM_nil decM_append take_map_snoc dM_Entry dM_Packet dM_RAct getDz_AUnit dL_AUnit dM_AUnit encAUnit decAUnit etaAUnit zfAUnit ceqAUnit getDz_str dL_str dM_str decL_nil
attribute [local go_sem ←] List.map_take List.map_drop
theorem con31 (hC : COk cfg31) (a : List ByteArray) (b : List ByteArray) (hp : a.length ≤ 1000000) : Sem Tryz.prog 31 [.d (.sl 1 (a.map D.s)), .d (.sl 1 (b.map D.s))] (.d (.b (decide (a = b)))) := by
  refine sem_of_awR (C := cfg31) (rs := [.tmp 4]) (fun _ => []) Tryz.func31 rfl rfl rfl rfl rfl rfl ?_
  refine inQ ?_
  repeat' first
    | (with_reducible first | refine thenS_n ?_ | refine inBlockS_n ?_ | refine AW.seq ?_ | refine AW.block ?_)
    | (with_reducible first | (refine AW.runK hC ?_; intro K hK) | (refine AW.drawK hC (by kernel_rfl) ?_; intro K hK))
    | ((with_reducible first | refine erun_g ?_ | refine edraw_g ?_ | refine exitS_g ?_); refine siQ ?_; (try simp (disch := omega) only [w64, wu8]))
    | (with_reducible refine hCheck_g (by kernel_rfl) ?_)
    | ((first | (refine AW.cond rfl (fun h => ?_) (fun h => ?_)) | (refine AW.cond_ub rfl (fun h => ?_) ?_) | (refine AW.cond_nb rfl ?_ (fun h => ?_))) <;> (try replace h := boolH h) <;> (try (exfalso; first | omega | exact absurd h (by decide))))
    | (with_reducible first | refine AW.skip ?_ | refine AW.exit ?_ | refine AW.ret ?_ | refine thenS_r ?_ | refine thenS_e ?_ | refine inBlockS_r ?_ | refine inBlockS_e ?_ | refine inBlockS_e2 rfl ?_ | refine exitQ_r ?_ | refine exitQ_n ?_)
    | (refine AW.loopN 4 rfl (ι := Nat) (fun i => mkS [(0, V.d (.sl 1 (a.map D.s))), (1, V.d (.sl 1 (b.map D.s))), (5, V.d (.i .i64 (i : Int)))] ([])) (fun i => i ≤ a.length ∧ a.length = b.length ∧ a.take i = b.take i) (fun i => a.length - i) (0) ?_ ?_ (fun i hi => ?_) <;> (try dsimp only) <;> (try dsimp only at hi))
    | (refine LoopNext.mk1 4 (i + 1) ?_ ?_ ?_ <;> (try dsimp only))
    | (refine sub_auto ?_; refine subQ ?_)
    | (with_reducible refine And.intro ?_ ?_)
    | (subst hK)
    | exact trivial
  all_goals (try (intros; assumption))
  all_goals (try refine boolG ?_)
  all_goals (try replace hp := boolH hp)
  all_goals (try replace hi := boolH hi)
  all_goals (try replace hj := boolH hj)
  all_goals (try replace hk := boolH hk)
  all_goals (try (intros; trivial))
  all_goals (try (intros; omega))
  all_goals (try (rw [w64 (by omega) (by omega)]; first | done | omega))
  all_goals first
    | rfl
    | (intro e; subst e; exact h rfl)
    | exact take_eq_end hi.2.2 (by omega) (by omega)
    | exact take_eq_step hi.2.2 (by omega) (by omega) (by assumption)
    | (simp only [decide_eq_true_eq]; exact take_eq_end hi.2.2 (by omega) (by omega))
    | (intro e; subst e; simp at h; done)
end
noncomputable def cfg47 : Cfg := ⟨Tryz.prog, 7, tab31, (fun _ _ => []), [], (fun _ => none)⟩
theorem cfg47_l : cfg47.pins = [] ∧ cfg47.P = Tryz.prog ∧ cfg47.N = 7 ∧ cfg47.ti 79 = none ∧ cfg47.T 79 = e79 ∧ cfg47.mv 79 = (fun _ => []) := ⟨rfl, rfl, rfl, rfl, rfl, rfl⟩
section
attribute [local go_sem] cfg47_l e79
attribute [local go_sem] encChange encEntry ceqChange ceqEntry etaChange etaEntry zfChange zfEntry decChange decEntry seq_dec getDz_Entry dL_Entry List.length_map Int.toNat_natCast Int.toNat_zero Nat.sub_zero List.length_take decL_sl decM_cons decM_nil decM_append take_map_snoc dM_Entry dM_Packet dM_RAct getDz_AUnit dL_AUnit dM_AUnit encAUnit decAUnit etaAUnit zfAUnit ceqAUnit getDz_str dL_str dM_str decL_nil
attribute [local go_sem ←] List.map_take List.map_drop
theorem con47 (hC : COk cfg47) (file : ByteArray) : Sem Tryz.prog 47 [.d (.s file)] (.d (.i .i64 (if isName file = false then 7 else 0))) := by
  refine sem_of_awR (C := cfg47) (rs := [.tmp 2]) (fun _ => []) Tryz.func47 rfl rfl rfl rfl rfl rfl ?_
  refine inQ ?_
  repeat' first
    | (with_reducible first | refine thenS_n ?_ | refine inBlockS_n ?_ | refine AW.seq ?_ | refine AW.block ?_)
    | (with_reducible first | (refine AW.runK hC ?_; intro K hK) | (refine AW.drawK hC (by kernel_rfl) ?_; intro K hK))
    | ((with_reducible first | refine erun_g ?_ | refine edraw_g ?_ | refine exitS_g ?_); refine siQ ?_; (try simp (disch := omega) only [w64, wu8]))
    | (with_reducible refine hCheck_g (by kernel_rfl) ?_)
    | ((first | (refine AW.cond rfl (fun h => ?_) (fun h => ?_)) | (refine AW.cond_ub rfl (fun h => ?_) ?_) | (refine AW.cond_nb rfl ?_ (fun h => ?_))) <;> (try replace h := boolH h) <;> (try (exfalso; first | omega | exact absurd h (by decide))))
    | (with_reducible first | refine AW.skip ?_ | refine AW.exit ?_ | refine AW.ret ?_ | refine thenS_r ?_ | refine thenS_e ?_ | refine inBlockS_r ?_ | refine inBlockS_e ?_ | refine inBlockS_e2 rfl ?_ | refine exitQ_r ?_ | refine exitQ_n ?_)
    | (refine sub_auto ?_; refine subQ ?_)
    | (with_reducible refine And.intro ?_ ?_)
    | (subst hK)
    | exact trivial
  all_goals (try (intros; assumption))
  all_goals (try refine boolG ?_)
  all_goals (try replace hp := boolH hp)
  all_goals (try replace hi := boolH hi)
  all_goals (try replace hj := boolH hj)
  all_goals (try replace hk := boolH hk)
  all_goals (try (intros; trivial))
  all_goals (try (intros; omega))
  all_goals (try (rw [w64 (by omega) (by omega)]; first | done | omega))
  all_goals first
    | (simp [entryErr, formUsed, zChange]; done)
end
noncomputable def cfg29 : Cfg := ⟨Tryz.prog, 72, tab47, (fun _ _ => []), [], (fun _ => none)⟩
theorem cfg29_l : cfg29.pins = [] ∧ cfg29.P = Tryz.prog ∧ cfg29.N = 72 ∧ cfg29.ti 46 = none ∧ cfg29.T 46 = e46 ∧ cfg29.mv 46 = (fun _ => []) ∧ cfg29.ti 47 = none ∧ cfg29.T 47 = e47 ∧ cfg29.mv 47 = (fun _ => []) := ⟨rfl, rfl, rfl, rfl, rfl, rfl, rfl, rfl, rfl⟩
section
attribute [local go_sem] cfg29_l e46 e47
attribute [local go_sem] encChange encEntry ceqChange ceqEntry etaChange etaEntry zfChange zfEntry decChange decEntry seq_dec getDz_Entry dL_Entry List.length_map Int.toNat_natCast Int.toNat_zero Nat.sub_zero List.length_take decL_sl decM_cons decM_nil decM_append take_map_snoc dM_Entry dM_Packet dM_RAct getDz_AUnit dL_AUnit dM_AUnit encAUnit decAUnit etaAUnit zfAUnit ceqAUnit getDz_str dL_str dM_str decL_nil
attribute [local go_sem ←] List.map_take List.map_drop
theorem con29 (hC : COk cfg29) (l : List Entry) (file : ByteArray) (rrn : Int) (hp : l.length ≤ 1000000) : Sem Tryz.prog 29 [.d (.sl 8 (l.map encEntry)), .d (.s file), .d (.i .i64 rrn)] (.tup [.d (.sl 1 ((imagesC l file rrn).1.map D.s)), .d (.i .i64 (imagesC l file rrn).2)]) := by
  refine sem_of_awR (C := cfg29) (rs := [.tmp 6, .tmp 7]) (fun _ => []) Tryz.func29 rfl rfl rfl rfl rfl rfl ?_
  refine inQ ?_
  repeat' first
    | (with_reducible first | refine thenS_n ?_ | refine inBlockS_n ?_ | refine AW.seq ?_ | refine AW.block ?_)
    | (with_reducible first | (refine AW.runK hC ?_; intro K hK) | (refine AW.drawK hC (by kernel_rfl) ?_; intro K hK))
    | ((with_reducible first | refine erun_g ?_ | refine edraw_g ?_ | refine exitS_g ?_); refine siQ ?_; (try simp (disch := omega) only [w64, wu8]))
    | (with_reducible refine hCheck_g (by kernel_rfl) ?_)
    | ((first | (refine AW.cond rfl (fun h => ?_) (fun h => ?_)) | (refine AW.cond_ub rfl (fun h => ?_) ?_) | (refine AW.cond_nb rfl ?_ (fun h => ?_))) <;> (try replace h := boolH h) <;> (try (exfalso; first | omega | exact absurd h (by decide))))
    | (with_reducible first | refine AW.skip ?_ | refine AW.exit ?_ | refine AW.ret ?_ | refine thenS_r ?_ | refine thenS_e ?_ | refine inBlockS_r ?_ | refine inBlockS_e ?_ | refine inBlockS_e2 rfl ?_ | refine exitQ_r ?_ | refine exitQ_n ?_)
    | (refine AW.loopN 11 rfl (ι := Nat) (fun i => mkS [(1, V.d (.s file)), (2, V.d (.i .i64 rrn)), (11, V.row 176 1 0 (imgs file rrn (l.take i)).length), (33, V.d (.sl 8 (l.map encEntry))), (34, V.d (.i .i64 (l.length : Int))), (35, V.d (.i .i64 (i : Int)))] ([(176, .live (.row 9 1 true ((imgs file rrn (l.take i)).map D.s)))])) (fun i => i ≤ l.length ∧ (check l).2 = 0 ∧ isName file = true ∧ ¬(rrn < 1 ∨ 60 < rrn)) (fun i => l.length - i) (0) ?_ ?_ (fun i hi => ?_) <;> (try dsimp only) <;> (try dsimp only at hi))
    | (refine LoopNext.mk1 11 (i + 1) ?_ ?_ ?_ <;> (try dsimp only))
    | (refine sub_auto ?_; refine subQ ?_)
    | (with_reducible refine And.intro ?_ ?_)
    | (subst hK)
    | exact trivial
  all_goals (try (intros; assumption))
  all_goals (try refine boolG ?_)
  all_goals (try replace hp := boolH hp)
  all_goals (try replace hi := boolH hi)
  all_goals (try replace hj := boolH hj)
  all_goals (try replace hk := boolH hk)
  all_goals (try (intros; trivial))
  all_goals (try (intros; omega))
  all_goals (try (rw [w64 (by omega) (by omega)]; first | done | omega))
  all_goals (try have B := imgs_bound l file rrn i)
  all_goals clear hC
  all_goals first
    | omega
    | assumption
    | (intro d hd; subst hd; exact ⟨rfl, by simp [D.cells, D.one]⟩)
    | (rw [img_err (by assumption)]; done)
    | (rw [img_err (by assumption)]; rfl)
    | exact name_ok (by assumption)
    | exact hi.2.2.1
    | (rw [img_name (by assumption) (by first | assumption | exact name_no (by assumption))]; done)
    | (rw [img_name (by assumption) (by first | assumption | exact name_no (by assumption))]; rfl)
    | (rw [img_name (by assumption) (by first | assumption | exact name_no (by assumption)), if_pos (by first | assumption | exact name_no (by assumption))]; done)
    | (rw [img_rrn (by assumption) (by first | assumption | exact name_ok (by assumption)) h]; done)
    | (rw [img_rrn (by assumption) (by first | assumption | exact name_ok (by assumption)) h]; rfl)
    | (rw [imgs_skip (by omega) (by rintro ⟨q1, q2, q3⟩; rcases h with (h | h) | h <;> first | exact h q1 | exact h q2 | exact h q3)]; done)
    | (rw [imgs_skip (by omega) (by rintro ⟨q1, q2, q3⟩; rcases h with (h | h) | h <;> first | exact h q1 | exact h q2 | exact h q3)]; exact dles_refl _)
    | (rename_i hq; rw [imgs_first (by omega) ⟨hq.1.1, hq.1.2, hq.2⟩ (by first | exact emp_t h | omega)]; simp; done)
    | (rename_i hq; rw [imgs_first (by omega) ⟨hq.1.1, hq.1.2, hq.2⟩ (by first | exact emp_t h | omega), List.map_append, List.map_append]; exact dles_refl _)
    | (rename_i hq; rw [imgs_more (by omega) ⟨hq.1.1, hq.1.2, hq.2⟩ (by first | exact emp_f h | omega)]; simp; done)
    | (rename_i hq; rw [imgs_more (by omega) ⟨hq.1.1, hq.1.2, hq.2⟩ (by first | exact emp_f h | omega), List.map_append]; exact dles_refl _)
    | (rw [img_ok hi.2.1 hi.2.2.1 hi.2.2.2, List.take_of_length_le (by omega)]; exact dles_refl _)
    | (rw [img_ok hi.2.1 hi.2.2.1 hi.2.2.2]; done)
end
noncomputable def cfg8 : Cfg := ⟨Tryz.prog, 38, tab29, (fun _ _ => []), [], (fun _ => none)⟩
theorem cfg8_l : cfg8.pins = [] ∧ cfg8.P = Tryz.prog ∧ cfg8.N = 38 ∧ cfg8.ti 28 = none ∧ cfg8.T 28 = e28 ∧ cfg8.mv 28 = (fun _ => []) ∧ cfg8.ti 29 = none ∧ cfg8.T 29 = e29 ∧ cfg8.mv 29 = (fun _ => []) ∧ cfg8.ti 30 = none ∧ cfg8.T 30 = e30 ∧ cfg8.mv 30 = (fun _ => []) ∧ cfg8.ti 31 = none ∧ cfg8.T 31 = e31 ∧ cfg8.mv 31 = (fun _ => []) := ⟨rfl, rfl, rfl, rfl, rfl, rfl, rfl, rfl, rfl, rfl, rfl, rfl, rfl, rfl, rfl⟩
section
attribute [local go_sem] cfg8_l e28 e29 e30 e31
attribute [local go_sem] encChange encEntry ceqChange ceqEntry etaChange etaEntry zfChange zfEntry decChange decEntry seq_dec getDz_Entry dL_Entry List.length_map Int.toNat_natCast Int.toNat_zero Nat.sub_zero List.length_take decL_sl decM_cons decM_nil decM_append take_map_snoc dM_Entry dM_Packet dM_RAct getDz_AUnit dL_AUnit dM_AUnit encAUnit decAUnit etaAUnit zfAUnit ceqAUnit getDz_str dL_str dM_str decL_nil eqB List.getD_cons_zero aw35_check aw35_cycles aw35_images List.map_cons List.map_nil decS_enc
attribute [local go_sem ←] List.map_take List.map_drop
theorem con8 (hC : COk cfg8)  : Sem Tryz.prog 8 [] (.d (.b true)) := by
  refine sem_of_awR (C := cfg8) (rs := [.tmp 0]) (fun _ => []) Tryz.func8 rfl rfl rfl rfl rfl rfl ?_
  refine inQ ?_
  repeat' first
    | (with_reducible first | refine thenS_n ?_ | refine inBlockS_n ?_ | refine AW.seq ?_ | refine AW.block ?_)
    | (with_reducible first | (refine AW.runK hC ?_; intro K hK) | (refine AW.drawK hC (by kernel_rfl) ?_; intro K hK))
    | ((with_reducible first | refine erun_g ?_ | refine edraw_g ?_ | refine exitS_g ?_); refine siQ ?_; (try simp (disch := omega) only [w64, wu8]))
    | (with_reducible refine hCheck_g (by kernel_rfl) ?_)
    | ((first | (refine AW.cond rfl (fun h => ?_) (fun h => ?_)) | (refine AW.cond_ub rfl (fun h => ?_) ?_) | (refine AW.cond_nb rfl ?_ (fun h => ?_))) <;> (try replace h := boolH h) <;> (try (exfalso; first | omega | exact absurd h (by decide))))
    | (with_reducible first | refine AW.skip ?_ | refine AW.exit ?_ | refine AW.ret ?_ | refine thenS_r ?_ | refine thenS_e ?_ | refine inBlockS_r ?_ | refine inBlockS_e ?_ | refine inBlockS_e2 rfl ?_ | refine exitQ_r ?_ | refine exitQ_n ?_)
    | (refine sub_auto ?_; refine subQ ?_)
    | (with_reducible refine And.intro ?_ ?_)
    | (subst hK)
    | exact trivial
  all_goals (try (intros; assumption))
  all_goals (try refine boolG ?_)
  all_goals (try replace hp := boolH hp)
  all_goals (try replace hi := boolH hi)
  all_goals (try replace hj := boolH hj)
  all_goals (try replace hk := boolH hk)
  all_goals (try (intros; trivial))
  all_goals (try (intros; omega))
  all_goals (try (rw [w64 (by omega) (by omega)]; first | done | omega))
  all_goals first
    | (intro d hd; rcases hd with rfl | rfl | rfl <;> exact ⟨rfl, by simp [D.cells, D.one]⟩)
end
noncomputable def cfg185 : Cfg := ⟨Tryz.prog, 15, tab8, (fun _ _ => []), [], (fun _ => none)⟩
theorem cfg185_l : cfg185.pins = [] ∧ cfg185.P = Tryz.prog ∧ cfg185.N = 15 := ⟨rfl, rfl, rfl⟩
section
attribute [local go_sem] cfg185_l
theorem con185 (hC : COk cfg185) (n : Int) (lo : Int) (hi : Int) : Sem Tryz.prog 185 [.d (.i .i64 n), .d (.i .i64 lo), .d (.i .i64 hi)] (.d (.b (decide (lo ≤ n) && decide (n ≤ hi)))) := by
  refine sem_of_awR (C := cfg185) (rs := [.tmp 6]) (fun _ => []) Tryz.func185 rfl rfl rfl rfl rfl rfl ?_
  refine inQ ?_
  repeat' first
    | (with_reducible first | refine thenS_n ?_ | refine inBlockS_n ?_ | refine AW.seq ?_ | refine AW.block ?_)
    | (with_reducible first | (refine AW.runK hC ?_; intro K hK) | (refine AW.drawK hC (by kernel_rfl) ?_; intro K hK))
    | ((with_reducible first | refine erun_g ?_ | refine edraw_g ?_ | refine exitS_g ?_); refine siQ ?_; (try simp (disch := omega) only [w64, wu8]))
    | (with_reducible refine hCheck_g (by kernel_rfl) ?_)
    | ((first | (refine AW.cond rfl (fun h => ?_) (fun h => ?_)) | (refine AW.cond_ub rfl (fun h => ?_) ?_) | (refine AW.cond_nb rfl ?_ (fun h => ?_))) <;> (try replace h := boolH h) <;> (try (exfalso; first | omega | exact absurd h (by decide))))
    | (with_reducible first | refine AW.skip ?_ | refine AW.exit ?_ | refine AW.ret ?_ | refine thenS_r ?_ | refine thenS_e ?_ | refine inBlockS_r ?_ | refine inBlockS_e ?_ | refine inBlockS_e2 rfl ?_ | refine exitQ_r ?_ | refine exitQ_n ?_)
    | (refine sub_auto ?_; refine subQ ?_)
    | (with_reducible refine And.intro ?_ ?_)
    | (subst hK)
    | exact trivial
  all_goals (try (intros; assumption))
  all_goals (try refine boolG ?_)
  all_goals (try replace hp := boolH hp)
  all_goals (try replace hi := boolH hi)
  all_goals (try replace hj := boolH hj)
  all_goals (try replace hk := boolH hk)
  all_goals (try (intros; trivial))
  all_goals (try (intros; omega))
  all_goals (try (rw [w64 (by omega) (by omega)]; first | done | omega))
 
end
noncomputable def cfg187 : Cfg := ⟨Tryz.prog, 7, tab185, (fun _ _ => []), [], (fun _ => none)⟩
theorem cfg187_l : cfg187.pins = [] ∧ cfg187.P = Tryz.prog ∧ cfg187.N = 7 := ⟨rfl, rfl, rfl⟩
section
attribute [local go_sem] cfg187_l
theorem con187 (hC : COk cfg187) (b : Bool) (e : Int) : Sem Tryz.prog 187 [.d (.b b), .d (.i .i64 e)] (.d (.i .i64 (if b = true then e else 0))) := by
  refine sem_of_awR (C := cfg187) (rs := [.tmp 4]) (fun _ => []) Tryz.func187 rfl rfl rfl rfl rfl rfl ?_
  refine inQ ?_
  repeat' first
    | (with_reducible first | refine thenS_n ?_ | refine inBlockS_n ?_ | refine AW.seq ?_ | refine AW.block ?_)
    | (with_reducible first | (refine AW.runK hC ?_; intro K hK) | (refine AW.drawK hC (by kernel_rfl) ?_; intro K hK))
    | ((with_reducible first | refine erun_g ?_ | refine edraw_g ?_ | refine exitS_g ?_); refine siQ ?_; (try simp (disch := omega) only [w64, wu8]))
    | (with_reducible refine hCheck_g (by kernel_rfl) ?_)
    | ((first | (refine AW.cond rfl (fun h => ?_) (fun h => ?_)) | (refine AW.cond_ub rfl (fun h => ?_) ?_) | (refine AW.cond_nb rfl ?_ (fun h => ?_))) <;> (try replace h := boolH h) <;> (try (exfalso; first | omega | exact absurd h (by decide))))
    | (with_reducible first | refine AW.skip ?_ | refine AW.exit ?_ | refine AW.ret ?_ | refine thenS_r ?_ | refine thenS_e ?_ | refine inBlockS_r ?_ | refine inBlockS_e ?_ | refine inBlockS_e2 rfl ?_ | refine exitQ_r ?_ | refine exitQ_n ?_)
    | (refine sub_auto ?_; refine subQ ?_)
    | (with_reducible refine And.intro ?_ ?_)
    | (subst hK)
    | exact trivial
  all_goals (try (intros; assumption))
  all_goals (try refine boolG ?_)
  all_goals (try replace hp := boolH hp)
  all_goals (try replace hi := boolH hi)
  all_goals (try replace hj := boolH hj)
  all_goals (try replace hk := boolH hk)
  all_goals (try (intros; trivial))
  all_goals (try (intros; omega))
  all_goals (try (rw [w64 (by omega) (by omega)]; first | done | omega))
  all_goals simp [*]
end
noncomputable def cfg186 : Cfg := ⟨Tryz.prog, 15, tab187, (fun _ _ => []), [], (fun _ => none)⟩
theorem cfg186_l : cfg186.pins = [] ∧ cfg186.P = Tryz.prog ∧ cfg186.N = 15 := ⟨rfl, rfl, rfl⟩
section
attribute [local go_sem] cfg186_l
attribute [local go_sem] getDz_int List.length_map Int.toNat_natCast
theorem con186 (hC : COk cfg186) (l : List Int) (hp : l.length ≤ 1000000) : Sem Tryz.prog 186 [.d (.sl 1 (l.map (D.i .i64)))] (.d (.i .i64 (firstE l))) := by
  refine sem_of_awR (C := cfg186) (rs := [.tmp 2]) (fun _ => []) Tryz.func186 rfl rfl rfl rfl rfl rfl ?_
  refine inQ ?_
  repeat' first
    | (with_reducible first | refine thenS_n ?_ | refine inBlockS_n ?_ | refine AW.seq ?_ | refine AW.block ?_)
    | (with_reducible first | (refine AW.runK hC ?_; intro K hK) | (refine AW.drawK hC (by kernel_rfl) ?_; intro K hK))
    | ((with_reducible first | refine erun_g ?_ | refine edraw_g ?_ | refine exitS_g ?_); refine siQ ?_; (try simp (disch := omega) only [w64, wu8]))
    | (with_reducible refine hCheck_g (by kernel_rfl) ?_)
    | ((first | (refine AW.cond rfl (fun h => ?_) (fun h => ?_)) | (refine AW.cond_ub rfl (fun h => ?_) ?_) | (refine AW.cond_nb rfl ?_ (fun h => ?_))) <;> (try replace h := boolH h) <;> (try (exfalso; first | omega | exact absurd h (by decide))))
    | (with_reducible first | refine AW.skip ?_ | refine AW.exit ?_ | refine AW.ret ?_ | refine thenS_r ?_ | refine thenS_e ?_ | refine inBlockS_r ?_ | refine inBlockS_e ?_ | refine inBlockS_e2 rfl ?_ | refine exitQ_r ?_ | refine exitQ_n ?_)
    | (refine AW.loopN 2 rfl (ι := Nat) (fun i => mkS [(5, V.d (.sl 1 (l.map (D.i .i64)))), (6, V.d (.i .i64 (l.length : Int))), (7, V.d (.i .i64 (i : Int)))] ([])) (fun i => i ≤ l.length ∧ firstE (l.drop i) = firstE l) (fun i => l.length - i) (0) ?_ ?_ (fun i hi => ?_) <;> (try dsimp only) <;> (try dsimp only at hi))
    | (refine LoopNext.mk1 2 (i + 1) ?_ ?_ ?_ <;> (try dsimp only))
    | (refine sub_auto ?_; refine subQ ?_)
    | (with_reducible refine And.intro ?_ ?_)
    | (subst hK)
    | exact trivial
  all_goals (try (intros; assumption))
  all_goals (try refine boolG ?_)
  all_goals (try replace hp := boolH hp)
  all_goals (try replace hi := boolH hi)
  all_goals (try replace hj := boolH hj)
  all_goals (try replace hk := boolH hk)
  all_goals (try (intros; trivial))
  all_goals (try (intros; omega))
  all_goals (try (rw [w64 (by omega) (by omega)]; first | done | omega))
  all_goals first
    | rfl
    | (rw [firstE_yes hi.2 (by omega) (by assumption)]; done)
    | exact firstE_no hi.2 (by omega) (by assumption)
    | (rw [firstE_end hi.2 (by omega)]; done)
end
noncomputable def cfg119 : Cfg := ⟨Tryz.prog, 7, tab186, (fun _ _ => []), [], (fun _ => none)⟩
theorem cfg119_l : cfg119.pins = [] ∧ cfg119.P = Tryz.prog ∧ cfg119.N = 7 := ⟨rfl, rfl, rfl⟩
section
attribute [local go_sem] cfg119_l
theorem con119 (hC : COk cfg119) (b : Bool) (e : Int) : Sem Tryz.prog 119 [.d (.b b), .d (.i .i64 e)] (.d (.i .i64 (if b = true then e else 0))) := by
  refine sem_of_awR (C := cfg119) (rs := [.tmp 4]) (fun _ => []) Tryz.func119 rfl rfl rfl rfl rfl rfl ?_
  refine inQ ?_
  repeat' first
    | (with_reducible first | refine thenS_n ?_ | refine inBlockS_n ?_ | refine AW.seq ?_ | refine AW.block ?_)
    | (with_reducible first | (refine AW.runK hC ?_; intro K hK) | (refine AW.drawK hC (by kernel_rfl) ?_; intro K hK))
    | ((with_reducible first | refine erun_g ?_ | refine edraw_g ?_ | refine exitS_g ?_); refine siQ ?_; (try simp (disch := omega) only [w64, wu8]))
    | (with_reducible refine hCheck_g (by kernel_rfl) ?_)
    | ((first | (refine AW.cond rfl (fun h => ?_) (fun h => ?_)) | (refine AW.cond_ub rfl (fun h => ?_) ?_) | (refine AW.cond_nb rfl ?_ (fun h => ?_))) <;> (try replace h := boolH h) <;> (try (exfalso; first | omega | exact absurd h (by decide))))
    | (with_reducible first | refine AW.skip ?_ | refine AW.exit ?_ | refine AW.ret ?_ | refine thenS_r ?_ | refine thenS_e ?_ | refine inBlockS_r ?_ | refine inBlockS_e ?_ | refine inBlockS_e2 rfl ?_ | refine exitQ_r ?_ | refine exitQ_n ?_)
    | (refine sub_auto ?_; refine subQ ?_)
    | (with_reducible refine And.intro ?_ ?_)
    | (subst hK)
    | exact trivial
  all_goals (try (intros; assumption))
  all_goals (try refine boolG ?_)
  all_goals (try replace hp := boolH hp)
  all_goals (try replace hi := boolH hi)
  all_goals (try replace hj := boolH hj)
  all_goals (try replace hk := boolH hk)
  all_goals (try (intros; trivial))
  all_goals (try (intros; omega))
  all_goals (try (rw [w64 (by omega) (by omega)]; first | done | omega))
  all_goals simp [*]
end
noncomputable def cfg117 : Cfg := ⟨Tryz.prog, 15, tab119, (fun _ _ => []), [], (fun _ => none)⟩
theorem cfg117_l : cfg117.pins = [] ∧ cfg117.P = Tryz.prog ∧ cfg117.N = 15 := ⟨rfl, rfl, rfl⟩
section
attribute [local go_sem] cfg117_l
attribute [local go_sem] getDz_int List.length_map Int.toNat_natCast
theorem con117 (hC : COk cfg117) (l : List Int) (hp : l.length ≤ 1000000) : Sem Tryz.prog 117 [.d (.sl 1 (l.map (D.i .i64)))] (.d (.i .i64 (firstE l))) := by
  refine sem_of_awR (C := cfg117) (rs := [.tmp 2]) (fun _ => []) Tryz.func117 rfl rfl rfl rfl rfl rfl ?_
  refine inQ ?_
  repeat' first
    | (with_reducible first | refine thenS_n ?_ | refine inBlockS_n ?_ | refine AW.seq ?_ | refine AW.block ?_)
    | (with_reducible first | (refine AW.runK hC ?_; intro K hK) | (refine AW.drawK hC (by kernel_rfl) ?_; intro K hK))
    | ((with_reducible first | refine erun_g ?_ | refine edraw_g ?_ | refine exitS_g ?_); refine siQ ?_; (try simp (disch := omega) only [w64, wu8]))
    | (with_reducible refine hCheck_g (by kernel_rfl) ?_)
    | ((first | (refine AW.cond rfl (fun h => ?_) (fun h => ?_)) | (refine AW.cond_ub rfl (fun h => ?_) ?_) | (refine AW.cond_nb rfl ?_ (fun h => ?_))) <;> (try replace h := boolH h) <;> (try (exfalso; first | omega | exact absurd h (by decide))))
    | (with_reducible first | refine AW.skip ?_ | refine AW.exit ?_ | refine AW.ret ?_ | refine thenS_r ?_ | refine thenS_e ?_ | refine inBlockS_r ?_ | refine inBlockS_e ?_ | refine inBlockS_e2 rfl ?_ | refine exitQ_r ?_ | refine exitQ_n ?_)
    | (refine AW.loopN 2 rfl (ι := Nat) (fun i => mkS [(5, V.d (.sl 1 (l.map (D.i .i64)))), (6, V.d (.i .i64 (l.length : Int))), (7, V.d (.i .i64 (i : Int)))] ([])) (fun i => i ≤ l.length ∧ firstE (l.drop i) = firstE l) (fun i => l.length - i) (0) ?_ ?_ (fun i hi => ?_) <;> (try dsimp only) <;> (try dsimp only at hi))
    | (refine LoopNext.mk1 2 (i + 1) ?_ ?_ ?_ <;> (try dsimp only))
    | (refine sub_auto ?_; refine subQ ?_)
    | (with_reducible refine And.intro ?_ ?_)
    | (subst hK)
    | exact trivial
  all_goals (try (intros; assumption))
  all_goals (try refine boolG ?_)
  all_goals (try replace hp := boolH hp)
  all_goals (try replace hi := boolH hi)
  all_goals (try replace hj := boolH hj)
  all_goals (try replace hk := boolH hk)
  all_goals (try (intros; trivial))
  all_goals (try (intros; omega))
  all_goals (try (rw [w64 (by omega) (by omega)]; first | done | omega))
  all_goals first
    | rfl
    | (rw [firstE_yes hi.2 (by omega) (by assumption)]; done)
    | exact firstE_no hi.2 (by omega) (by assumption)
    | (rw [firstE_end hi.2 (by omega)]; done)
end
noncomputable def cfg152 : Cfg := ⟨Tryz.prog, 65, tab117, (fun _ _ => []), [], (fun _ => none)⟩
theorem cfg152_l : cfg152.pins = [] ∧ cfg152.P = Tryz.prog ∧ cfg152.N = 65 := ⟨rfl, rfl, rfl⟩
section
attribute [local go_sem] cfg152_l
attribute [local go_sem] Int.toNat_natCast chr_eq bytesD_len bytesD_get
theorem con152 (hC : COk cfg152) (s : ByteArray) : Sem Tryz.prog 152 [.d (.s s)] (.d (.b (isName s))) := by
  refine sem_of_awR (C := cfg152) (rs := [.tmp 2]) (fun _ => []) Tryz.func152 rfl rfl rfl rfl rfl rfl ?_
  refine inQ ?_
  repeat' first
    | (with_reducible first | refine thenS_n ?_ | refine inBlockS_n ?_ | refine AW.seq ?_ | refine AW.block ?_)
    | (with_reducible first | (refine AW.runK hC ?_; intro K hK) | (refine AW.drawK hC (by kernel_rfl) ?_; intro K hK))
    | ((with_reducible first | refine erun_g ?_ | refine edraw_g ?_ | refine exitS_g ?_); refine siQ ?_; (try simp (disch := omega) only [w64, wu8]))
    | (with_reducible refine hCheck_g (by kernel_rfl) ?_)
    | ((first | (refine AW.cond rfl (fun h => ?_) (fun h => ?_)) | (refine AW.cond_ub rfl (fun h => ?_) ?_) | (refine AW.cond_nb rfl ?_ (fun h => ?_))) <;> (try replace h := boolH h) <;> (try (exfalso; first | omega | exact absurd h (by decide))))
    | (with_reducible first | refine AW.skip ?_ | refine AW.exit ?_ | refine AW.ret ?_ | refine thenS_r ?_ | refine thenS_e ?_ | refine inBlockS_r ?_ | refine inBlockS_e ?_ | refine inBlockS_e2 rfl ?_ | refine exitQ_r ?_ | refine exitQ_n ?_)
    | (refine AW.loopN 4 rfl (ι := Nat) (fun i => mkS [(15, V.d (.sl 1 (bytesD s))), (16, V.d (.i .i64 (s.size : Int))), (17, V.d (.i .i64 (i : Int)))] ([])) (fun i => i ≤ s.size ∧ 1 ≤ s.size ∧ s.size ≤ 10 ∧ ∀ j, j < i → nameC (j == 0) (chr s j) = true) (fun i => s.size - i) (0) ?_ ?_ (fun i hi => ?_) <;> (try dsimp only) <;> (try dsimp only at hi))
    | (refine LoopNext.mk1 4 (i + 1) ?_ ?_ ?_ <;> (try dsimp only))
    | (refine sub_auto ?_; refine subQ ?_)
    | (with_reducible refine And.intro ?_ ?_)
    | (subst hK)
    | exact trivial
  all_goals (try (intros; assumption))
  all_goals (try refine boolG ?_)
  all_goals (try replace hp := boolH hp)
  all_goals (try replace hi := boolH hi)
  all_goals (try replace hj := boolH hj)
  all_goals (try replace hk := boolH hk)
  all_goals (try (intros; trivial))
  all_goals (try (intros; omega))
  all_goals (try (rw [w64 (by omega) (by omega)]; first | done | omega))
  all_goals (try simp only [ba_empty] at *)
  all_goals first
    | omega
    | exact isName_len (by omega)
    | exact isName_no (i := i) (by omega) (by rw [← Bool.not_eq_true, nameC_iff]; omega)
    | exact fun j hj => if e : j < i then hi.2.2.2 j e else by
        have : j = i := by omega
        subst this
        rw [nameC_iff]
        omega
    | exact isName_yes (by omega) (by omega) fun j hj => hi.2.2.2 j (by omega)
end
noncomputable def cfg172 : Cfg := ⟨Tryz.prog, 54, tab152, (fun _ _ => []), [], (fun _ => none)⟩
theorem cfg172_l : cfg172.pins = [] ∧ cfg172.P = Tryz.prog ∧ cfg172.N = 54 ∧ cfg172.ti 185 = none ∧ cfg172.T 185 = e185 ∧ cfg172.mv 185 = (fun _ => []) ∧ cfg172.ti 186 = none ∧ cfg172.T 186 = e186 ∧ cfg172.mv 186 = (fun _ => []) ∧ cfg172.ti 187 = none ∧ cfg172.T 187 = e187 ∧ cfg172.mv 187 = (fun _ => []) := ⟨rfl, rfl, rfl, rfl, rfl, rfl, rfl, rfl, rfl, rfl, rfl, rfl⟩
section
attribute [local go_sem] cfg172_l e185 e186 e187
attribute [local go_sem] encDType decDType etaDType zfDType encVal decVal etaVal zfVal firstE Int.toNat_natCast chr_eq dL_int dM_int getDz_int decL_sl decM_cons decM_nil decI List.length_map bytesD_len bytesD_get
theorem con172 (hC : COk cfg172) (t : DType) : Sem Tryz.prog 172 [.d (encDType t)] (.d (.i .i64 (typeErr t))) := by
  refine sem_of_awR (C := cfg172) (rs := [.tmp 2]) (fun _ => []) Tryz.func172 rfl rfl rfl rfl rfl rfl ?_
  refine inQ ?_
  repeat' first
    | (with_reducible first | refine thenS_n ?_ | refine inBlockS_n ?_ | refine AW.seq ?_ | refine AW.block ?_)
    | (with_reducible first | (refine AW.runK hC ?_; intro K hK) | (refine AW.drawK hC (by kernel_rfl) ?_; intro K hK))
    | ((with_reducible first | refine erun_g ?_ | refine edraw_g ?_ | refine exitS_g ?_); refine siQ ?_; (try simp (disch := omega) only [w64, wu8]))
    | (with_reducible refine hCheck_g (by kernel_rfl) ?_)
    | ((first | (refine AW.cond rfl (fun h => ?_) (fun h => ?_)) | (refine AW.cond_ub rfl (fun h => ?_) ?_) | (refine AW.cond_nb rfl ?_ (fun h => ?_))) <;> (try replace h := boolH h) <;> (try (exfalso; first | omega | exact absurd h (by decide))))
    | (with_reducible first | refine AW.skip ?_ | refine AW.exit ?_ | refine AW.ret ?_ | refine thenS_r ?_ | refine thenS_e ?_ | refine inBlockS_r ?_ | refine inBlockS_e ?_ | refine inBlockS_e2 rfl ?_ | refine exitQ_r ?_ | refine exitQ_n ?_)
    | (refine sub_auto ?_; refine subQ ?_)
    | (with_reducible refine And.intro ?_ ?_)
    | (subst hK)
    | exact trivial
  all_goals (try (intros; assumption))
  all_goals (try refine boolG ?_)
  all_goals (try replace hp := boolH hp)
  all_goals (try replace hi := boolH hi)
  all_goals (try replace hj := boolH hj)
  all_goals (try replace hk := boolH hk)
  all_goals (try (intros; trivial))
  all_goals (try (intros; omega))
  all_goals (try (rw [w64 (by omega) (by omega)]; first | done | omega))
  all_goals clear hC
  all_goals (try simp only [typeErr])
  all_goals first
    | grind
    | ((repeat' split) <;> first | rfl | omega | (exfalso; omega) | (simp_all; done) | grind)
    | (intro d hd; first | (subst hd; exact ⟨rfl, by simp [D.cells, D.one]⟩) | (rcases hd with rfl | rfl <;> exact ⟨rfl, by simp [D.cells, D.one]⟩) | (rcases hd with rfl | rfl | rfl <;> exact ⟨rfl, by simp [D.cells, D.one]⟩) | (rcases hd with rfl | rfl | rfl | rfl <;> exact ⟨rfl, by simp [D.cells, D.one]⟩))
end
noncomputable def cfg188 : Cfg := ⟨Tryz.prog, 22, tab172, (fun _ _ => []), [], (fun _ => none)⟩
theorem cfg188_l : cfg188.pins = [] ∧ cfg188.P = Tryz.prog ∧ cfg188.N = 22 := ⟨rfl, rfl, rfl⟩
section
attribute [local go_sem] cfg188_l
attribute [local go_sem] encDType decDType etaDType zfDType encVal decVal etaVal zfVal firstE Int.toNat_natCast chr_eq dL_int dM_int getDz_int decL_sl decM_cons decM_nil decI List.length_map bytesD_len bytesD_get
theorem con188 (hC : COk cfg188) (t : DType) (hp : typeErr t = 0) : Sem Tryz.prog 188 [.d (encDType t)] (.d (.i .i64 (sizeN t))) := by
  have ht := typeErr_ok hp
  refine sem_of_awR (C := cfg188) (rs := [.tmp 2]) (fun _ => []) Tryz.func188 rfl rfl rfl rfl rfl rfl ?_
  refine inQ ?_
  repeat' first
    | (with_reducible first | refine thenS_n ?_ | refine inBlockS_n ?_ | refine AW.seq ?_ | refine AW.block ?_)
    | (with_reducible first | (refine AW.runK hC ?_; intro K hK) | (refine AW.drawK hC (by kernel_rfl) ?_; intro K hK))
    | ((with_reducible first | refine erun_g ?_ | refine edraw_g ?_ | refine exitS_g ?_); refine siQ ?_; (try simp (disch := omega) only [w64, wu8]))
    | (with_reducible refine hCheck_g (by kernel_rfl) ?_)
    | ((first | (refine AW.cond rfl (fun h => ?_) (fun h => ?_)) | (refine AW.cond_ub rfl (fun h => ?_) ?_) | (refine AW.cond_nb rfl ?_ (fun h => ?_))) <;> (try replace h := boolH h) <;> (try (exfalso; first | omega | exact absurd h (by decide))))
    | (with_reducible first | refine AW.skip ?_ | refine AW.exit ?_ | refine AW.ret ?_ | refine thenS_r ?_ | refine thenS_e ?_ | refine inBlockS_r ?_ | refine inBlockS_e ?_ | refine inBlockS_e2 rfl ?_ | refine exitQ_r ?_ | refine exitQ_n ?_)
    | (refine sub_auto ?_; refine subQ ?_)
    | (with_reducible refine And.intro ?_ ?_)
    | (subst hK)
    | exact trivial
  all_goals (try (intros; assumption))
  all_goals (try refine boolG ?_)
  all_goals (try replace hp := boolH hp)
  all_goals (try replace hi := boolH hi)
  all_goals (try replace hj := boolH hj)
  all_goals (try replace hk := boolH hk)
  all_goals (try (intros; trivial))
  all_goals (try (intros; omega))
  all_goals (try (rw [w64 (by omega) (by omega)]; first | done | omega))
  all_goals clear hC
  all_goals (try simp only [sizeN])
  all_goals first
    | omega
    | (rw [size_packed (by omega) (by omega), if_pos (by omega)]; done)
    | (rw [size_binary (by omega) (by omega), if_neg (by omega), if_pos (by omega)]; done)
    | grind
    | (intro d hd; first | (subst hd; exact ⟨rfl, by simp [D.cells, D.one]⟩) | (rcases hd with rfl | rfl <;> exact ⟨rfl, by simp [D.cells, D.one]⟩) | (rcases hd with rfl | rfl | rfl <;> exact ⟨rfl, by simp [D.cells, D.one]⟩) | (rcases hd with rfl | rfl | rfl | rfl <;> exact ⟨rfl, by simp [D.cells, D.one]⟩))
end
noncomputable def cfg173 : Cfg := ⟨Tryz.prog, 12, tab188, (fun _ _ => []), [], (fun _ => none)⟩
theorem cfg173_l : cfg173.pins = [] ∧ cfg173.P = Tryz.prog ∧ cfg173.N = 12 ∧ cfg173.ti 172 = none ∧ cfg173.T 172 = e172 ∧ cfg173.mv 172 = (fun _ => []) ∧ cfg173.ti 188 = none ∧ cfg173.T 188 = e188 ∧ cfg173.mv 188 = (fun _ => []) := ⟨rfl, rfl, rfl, rfl, rfl, rfl, rfl, rfl, rfl⟩
section
attribute [local go_sem] cfg173_l e172 e188
attribute [local go_sem] encDType decDType etaDType zfDType encVal decVal etaVal zfVal firstE Int.toNat_natCast chr_eq dL_int dM_int getDz_int decL_sl decM_cons decM_nil decI List.length_map bytesD_len bytesD_get
theorem con173 (hC : COk cfg173) (t : DType) : Sem Tryz.prog 173 [.d (encDType t)] (.tup [.d (.i .i64 (if typeErr t = 0 then sizeN t else 0)), .d (.i .i64 (typeErr t))]) := by
  refine sem_of_awR (C := cfg173) (rs := [.tmp 2, .tmp 3]) (fun _ => []) Tryz.func173 rfl rfl rfl rfl rfl rfl ?_
  refine inQ ?_
  repeat' first
    | (with_reducible first | refine thenS_n ?_ | refine inBlockS_n ?_ | refine AW.seq ?_ | refine AW.block ?_)
    | (with_reducible first | (refine AW.runK hC ?_; intro K hK) | (refine AW.drawK hC (by kernel_rfl) ?_; intro K hK))
    | ((with_reducible first | refine erun_g ?_ | refine edraw_g ?_ | refine exitS_g ?_); refine siQ ?_; (try simp (disch := omega) only [w64, wu8]))
    | (with_reducible refine hCheck_g (by kernel_rfl) ?_)
    | ((first | (refine AW.cond rfl (fun h => ?_) (fun h => ?_)) | (refine AW.cond_ub rfl (fun h => ?_) ?_) | (refine AW.cond_nb rfl ?_ (fun h => ?_))) <;> (try replace h := boolH h) <;> (try (exfalso; first | omega | exact absurd h (by decide))))
    | (with_reducible first | refine AW.skip ?_ | refine AW.exit ?_ | refine AW.ret ?_ | refine thenS_r ?_ | refine thenS_e ?_ | refine inBlockS_r ?_ | refine inBlockS_e ?_ | refine inBlockS_e2 rfl ?_ | refine exitQ_r ?_ | refine exitQ_n ?_)
    | (refine sub_auto ?_; refine subQ ?_)
    | (with_reducible refine And.intro ?_ ?_)
    | (subst hK)
    | exact trivial
  all_goals (try (intros; assumption))
  all_goals (try refine boolG ?_)
  all_goals (try replace hp := boolH hp)
  all_goals (try replace hi := boolH hi)
  all_goals (try replace hj := boolH hj)
  all_goals (try replace hk := boolH hk)
  all_goals (try (intros; trivial))
  all_goals (try (intros; omega))
  all_goals (try (rw [w64 (by omega) (by omega)]; first | done | omega))
  all_goals clear hC
  all_goals first
    | omega
    | grind
    | (intro d hd; first | (subst hd; exact ⟨rfl, by simp [D.cells, D.one]⟩) | (rcases hd with rfl | rfl <;> exact ⟨rfl, by simp [D.cells, D.one]⟩) | (rcases hd with rfl | rfl | rfl <;> exact ⟨rfl, by simp [D.cells, D.one]⟩) | (rcases hd with rfl | rfl | rfl | rfl <;> exact ⟨rfl, by simp [D.cells, D.one]⟩))
end
end Go.Ev
