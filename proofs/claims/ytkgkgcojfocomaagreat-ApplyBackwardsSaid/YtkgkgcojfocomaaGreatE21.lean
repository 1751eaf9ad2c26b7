/- Tools and contracts under the laws of this seat: Dyc75, Dyc42, Dyc39, Dyc40, Dyc13, Dyc16, Dyc14, Dyc3, Dyc4. -/
import Derived.Test.YtkgkgcojfocomaaGreatE09
set_option linter.unusedVariables false
set_option linter.unusedSimpArgs false
namespace Go.Ev
open Go.Proofs Ty
set_option maxRecDepth 10000
set_option maxHeartbeats 4000000
set_option linter.unusedSimpArgs false
set_option linter.unusedVariables false
attribute [local go_sem] erun_nil erun_cons edraw_eq edrun_nil edrun_cons e1_n e1_g guardSlot_eq lkAll_tmp lkAll_nil lkAll_const lkAll_func val_tmp val_const val_func aget getBox_mk getRow_mk liveRow_mk hp_mk eU_move_n eU_assign_n eU_move eU_assign eU_pick eU_alloc eU_box eU_load eU_store eU_nilCheck eU_binOp eU_unOp eU_fieldAddr eU_field eU_indexAddr eU_index eU_build eU_buildSlice eU_slice eU_extract eU_makeFunc eU_builtin eU_call eU_callv V.cells V.one D.one D.cells newObj nm HS.isFree HS.isLive andOk_some andOk_none List.map_cons List.map_nil Option.bind_some Option.bind_none putL List.cons_append List.nil_append thenS_normal thenS_ret thenS_exit inBlockS_normal inBlockS_ret inBlockS_exit true_and and_true justV justO cval Option.map_some Option.map_none loadAt storeAt ldV ldD mkAgg V.asD spliceL List.take_succ_cons List.take_zero List.drop_succ_cons List.drop_zero List.getElem?_cons_zero List.getElem?_cons_succ List.getElem?_nil List.all_cons List.all_nil Bool.and_true Bool.true_and Bool.and_self List.length_cons List.length_nil vals aopCall argsO argO toD3 toD2 toD1 toDs O.ok O.ok2 O.ok1 O.flat O.flat1 D.flat D.flatA inO inO2 inO1 inOs List.filterMap_nil List.filterMap_cons List.filter_nil List.filter_cons List.nodup_nil decide_true decide_false Bool.not_true Bool.not_false not_true_eq_false not_false_eq_true or_false false_or and_false false_and ne_eq List.append_nil optB guardQ guardRes beq_self_eq_true List.mapM_cons List.mapM_nil Option.pure_def Option.bind_eq_bind true_or or_true or_self callHp ite_self not_true not_false_iff ite_true ite_false if_true if_false Bool.false_eq_true Bool.true_eq_false List.any_nil List.any_cons List.contains_nil List.contains_cons eq_self aopAppend builtinV elems aopBin nilEqS nilEqP aopSlice bound natOf lenOf binD intBin unD bindEq eU_makeMap eU_convert eU_makeSlice aopConv aopMake isShift shiftD eU_lookup eU_mapUpdate getMp_mk List.range_zero Nat.zero_le Nat.zero_mul Nat.zero_add Nat.add_zero List.length_append List.take_length List.isEmpty_nil List.isEmpty_cons V.neg List.flatMap_nil and_self List.range_succ forall_const implies_true Nat.not_lt_zero exitQ_normal exitQ_ret exitS_eq exitO resVs resV_tmp resV_cell takeRow argCells mvAt dle_same dles_same ole_same ole oles dle dles List.nodup_cons List.mem_cons List.not_mem_nil List.drop_length Nat.le_refl Nat.lt_irrefl id_eq Option.some.injEq Bool.or_false Bool.false_or Bool.or_self Bool.or_true Bool.true_or false_implies Bool.and_false Bool.false_and List.reverse_cons List.reverse_nil sh1 mget1 mget aopLookup aopMapUpdate mapOf msetK msetV Option.isSome_some Option.isSome_none Bool.cond_true_left Bool.cond_false_right Bool.cond_true_right Bool.cond_false_left beq_true beq_false Bool.not_not imp_self guardVal notB strBin aopSliceS buildV argOk D.splice kEq Option.toList_some Option.toList_none adel List.getD_cons_zero List.getD_cons_succ bxIds bxId backHp hget one1 aopCall0 aopTurn
attribute [local go_sem] sz3 ag3 zr3 zo3 zd3 by3 sl3 st3 bo3 pt3 ck3 sz9 ag9 zr9 zo9 zd9 by9 sl9 un9 st9 bo9 pt9 ck9 encDType decDType etaDType zfDType encVal decVal etaVal zfVal Int.toNat_natCast chr_eq dL_int dM_int getDz_int decL_sl decM_cons decM_nil decI List.length_map nc0 bytesD_len bytesD_get encField decField etaField zfField encFmt decFmt etaFmt zfFmt encKField decKField etaKField zfKField encFile decFile etaFile zfFile encRec decRec etaRec zfRec getDz_Field getDz_KField getDz_Rec dL_Field dL_KField dL_Rec dM_Field dM_KField dM_Rec ceqField ceqKField ceqRec List.length_take decL_nil Int.toNat_zero Nat.sub_zero List.drop_zero encTable decTable etaTable zfTable encChange decChange etaChange zfChange dL_Change dM_Change List.length_set Nat.le_refl dL_Table dM_Table encEntry decEntry etaEntry zfEntry getDz_Entry dL_Entry dM_Entry encAns decAns etaAns zfAns dL_Ans dM_Ans dAnsB dAnsB0 dAnsB1 getDz_Change sz4 ag4 zr4 zo4 zd4 by4 sl4 st4 bo4 pt4 sz22 ag22 zr22 zo22 zd22 by22 el22 sl22 un22 st22 bo22 pt22 sz31 ag31 zr31 zo31 zd31 by31 el31 sl31 un31 st31 bo31 pt31 sz33 ag33 zr33 zd33 by33 sl33 st33 bo33 pt33 of33_0 fa33_0 of33_1 fa33_1 of33_2 fa33_2 of33_3 fa33_3 pl33 sz48 ag48 zr48 zd48 by48 sl48 st48 bo48 pt48 of48_0 fa48_0 of48_1 fa48_1 of48_2 fa48_2 of48_3 fa48_3 of48_4 fa48_4 pl48 ek48 sz72 ag72 zr72 zo72 zd72 by72 el72 sl72 un72 st72 bo72 pt72 sz74 ag74 zr74 zd74 by74 sl74 st74 bo74 pt74 of74_0 fa74_0 of74_1 fa74_1 pl74 sz75 ag75 zr75 zo75 zd75 by75 el75 sl75 un75 st75 bo75 pt75 sz77 ag77 zr77 zd77 by77 sl77 st77 bo77 pt77 of77_0 fa77_0 of77_1 fa77_1 of77_2 fa77_2 of77_3 fa77_3 pl77 sz78 ag78 zr78 zo78 zd78 by78 el78 sl78 un78 st78 bo78 pt78 sz80 ag80 zr80 zd80 by80 sl80 st80 bo80 pt80 of80_0 fa80_0 of80_1 fa80_1 pl80 sz104 ag104 zr104 zd104 by104 sl104 st104 bo104 pt104 of104_0 fa104_0 of104_1 fa104_1 pl104 ek104 sz108 ag108 zr108 zd108 by108 sl108 st108 bo108 pt108 of108_0 fa108_0 of108_1 fa108_1 of108_2 fa108_2 pl108 ek108 sz110 ag110 zr110 zd110 by110 sl110 st110 bo110 pt110 of110_0 fa110_0 of110_1 fa110_1 pl110 ek110 sz113 ag113 zr113 zd113 by113 sl113 st113 bo113 pt113 of113_0 fa113_0 of113_1 fa113_1 pl113 ek113 sz69 ag69 zr69 zo69 zd69 by69 el69 sl69 un69 st69 bo69 pt69 sz23 ag23 zr23 zo23 zd23 by23 el23 sl23 un23 st23 bo23 pt23 sz50 ag50 zr50 zd50 by50 sl50 st50 bo50 pt50 of50_0 fa50_0 of50_1 fa50_1 of50_2 fa50_2 of50_3 fa50_3 pl50 ek50 sz26 ag26 zr26 zo26 zd26 by26 sl26 st26 bo26 pt26 ck26
attribute [local go_sem ←] List.map_take List.map_drop
noncomputable def cfg75 : Cfg := ⟨Tryz.prog, 39, tab38d, (fun _ _ => []), [0], (fun _ => none)⟩
theorem cfg75_l : cfg75.pins = [0] ∧ cfg75.P = Tryz.prog ∧ cfg75.N = 39 ∧ cfg75.ti 77 = none ∧ cfg75.T 77 = e77 ∧ cfg75.mv 77 = (fun _ => []) ∧ cfg75.ti 97 = none ∧ cfg75.T 97 = e97 ∧ cfg75.mv 97 = (fun _ => []) := ⟨rfl, rfl, rfl, rfl, rfl, rfl, rfl, rfl, rfl⟩
section
attribute [local go_sem] cfg75_l e77 e97
theorem con75 (hC : COk cfg75) (x : Ans) (c : Change) (hp : okTs x.tables) : Sem Tryz.prog 75 [.bx 33 [.own 80 6 (x.tables.map encTable), .d (.i .i64 x.n), .d (.sl 1 (x.units.map (D.i .i64))), .d (.i .i64 x.err)], .d (encChange c)] (.tup [.d (.i .i64 (cond x.tables c)), .bx 33 [.own 80 6 ((doT x.tables c).map encTable), .d (.i .i64 x.n), .d (.sl 1 (x.units.map (D.i .i64))), .d (.i .i64 x.err)]]) := by
  have hB : x.tables.length ≤ 1000000 := hp.1
  have hf := findT_lt x.tables c.file
  refine sem_of_awR (C := cfg75) (rs := [.tmp 4]) (fun j => if j = 1 then [(4242, 33, 0), (0, 80, 6)] else []) Tryz.func75 rfl rfl rfl rfl rfl rfl ?_
  refine inQ ?_
  repeat' first
    | (with_reducible first | refine thenS_n ?_ | refine inBlockS_n ?_ | refine AW.seq ?_ | refine AW.block ?_)
    | (refine AW.atR 4 rfl ?_; have hg : ∀ z, (x.tables.map encTable).getD (findT x.tables c.file).toNat z = encTable (x.tables.getD (findT x.tables c.file).toNat zTable) := fun z => getD_mapT (by omega) z)
    | (with_reducible first | (refine AWh.runK hC ?_; intro K hK) | (refine AWh.drawK hC (by kernel_rfl) ?_; intro K hK))
    | (with_reducible first | (refine AW.runK hC ?_; intro K hK) | (refine AW.drawK hC (by kernel_rfl) ?_; intro K hK))
    | ((with_reducible first | refine erun_g ?_ | refine edraw_g ?_ | refine exitS_g ?_); (first | (simp (maxSteps := 1000000) only [go_sem, ↓reduceIte, reduceCtorEq, Nat.reduceEqDiff, Nat.reduceLT, Nat.reduceLeDiff, Nat.reduceMul, Nat.reduceAdd, Nat.reduceSub, reduceDIte, Nat.reduceBEq, Nat.reduceBNe, hg]) | (refine siQ ?_)); (try simp (disch := omega) only [w64, wu8]))
    | (with_reducible refine hCheck_g (by kernel_rfl) ?_)
    | ((first | (refine AW.cond rfl (fun h => ?_) (fun h => ?_)) | (refine AW.cond_ub rfl (fun h => ?_) ?_) | (refine AW.cond_nb rfl ?_ (fun h => ?_))) <;> (try replace h := boolH h) <;> (try (exfalso; first | omega | exact absurd h (by decide))))
    | (with_reducible first | refine AW.skip ?_ | refine AW.exit ?_ | refine AW.ret ?_ | refine thenS_r ?_ | refine thenS_e ?_ | refine inBlockS_r ?_ | refine inBlockS_e ?_ | refine inBlockS_e2 rfl ?_ | refine exitQ_r ?_ | refine exitQ_n ?_)
    | (refine sub_auto ?_; refine subQ ?_)
    | (with_reducible refine And.intro ?_ ?_)
    | (subst hK)
    | exact trivial
  all_goals (try (intros; assumption))
  all_goals (try refine boolG ?_)
  all_goals (try replace hp := boolH hp)
  all_goals (try replace hi := boolH hi)
  all_goals (try replace hj := boolH hj)
  all_goals (try replace hk := boolH hk)
  all_goals (try (intros; trivial))
  all_goals (try (intros; omega))
  all_goals (try (rw [w64 (by omega) (by omega)]; first | done | omega))
  all_goals clear hC
  all_goals (try simp only [changed_snd] at *)
  all_goals first
    | omega
    | exact (do_none (by assumption)).1
    | (rw [(do_none (by assumption)).2]; exact dles_refl _)
    | exact (hp.2 _).1
    | exact (hp.2 _).2.1
    | exact (hp.2 _).2.2
    | exact (do_err (by assumption) (by assumption)).1
    | (rw [(do_err (by assumption) (by assumption)).2]; exact dles_refl _)
    | exact (do_set (by assumption) (by assumption)).1
    | (rw [(do_set (by assumption) (by assumption)).2, changed_ok (by assumption), List.take_of_length_le (by simp), List.map_set]; exact dles_refl _)
end
noncomputable def cfg42 : Cfg := ⟨Tryz.prog, 40, tab75, mvz, [], (fun _ => none)⟩
theorem cfg42_l : cfg42.pins = [] ∧ cfg42.P = Tryz.prog ∧ cfg42.N = 40 ∧ cfg42.ti 11 = none ∧ cfg42.T 11 = e11 ∧ cfg42.mv 11 = (fun _ => []) ∧ cfg42.ti 75 = none ∧ cfg42.T 75 = e75 ∧ cfg42.mv 75 = (fun j => if j = 0 then [(4242, 33, 0), (0, 80, 6)] else []) ∧ cfg42.ti 76 = none ∧ cfg42.T 76 = e76 ∧ cfg42.mv 76 = (fun _ => []) ∧ cfg42.ti 77 = none ∧ cfg42.T 77 = e77 ∧ cfg42.mv 77 = (fun _ => []) := ⟨rfl, rfl, rfl, rfl, rfl, rfl, rfl, rfl, rfl, rfl, rfl, rfl, rfl, rfl, rfl⟩
section
attribute [local go_sem] cfg42_l e11 e75 e76 e77
attribute [local go_sem] List.take_length
theorem con42 (hC : COk cfg42) (ts : List Table) (cs : List Change) (hp : okTs ts ∧ cs.length ≤ 1000000) : Sem Tryz.prog 42 [.d (.sl 6 (ts.map encTable)), .d (.sl 5 (cs.map encChange))] (.d (encAns (ansOf (madeT ts cs)))) := by
  have hB : ts.length ≤ 1000000 := hp.1.1
  refine sem_of_awR (C := cfg42) (rs := [.cell 4 33]) (fun _ => []) Tryz.func42 rfl rfl rfl rfl rfl rfl ?_
  refine inQ ?_
  repeat' first
    | (with_reducible first | refine thenS_n ?_ | refine inBlockS_n ?_ | refine AW.seq ?_ | refine AW.block ?_)
    | (refine AW.atR 8 rfl ?_; have hcn := cnt_next (ts := ts) (cs := cs) (k := k); have hcb := mTo_cnt ts cs k)
    | (with_reducible first | (refine AWh.runK hC ?_; intro K hK) | (refine AWh.drawK hC (by kernel_rfl) ?_; intro K hK))
    | (with_reducible first | (refine AW.runK hC ?_; intro K hK) | (refine AW.drawK hC (by kernel_rfl) ?_; intro K hK))
    | ((with_reducible first | refine erun_g ?_ | refine edraw_g ?_ | refine exitS_g ?_); refine siQ ?_; (try simp (disch := omega) only [w64, wu8]))
    | (with_reducible refine hCheck_g (by kernel_rfl) ?_)
    | ((first | (refine AW.cond rfl (fun h => ?_) (fun h => ?_)) | (refine AW.cond_ub rfl (fun h => ?_) ?_) | (refine AW.cond_nb rfl ?_ (fun h => ?_))) <;> (try replace h := boolH h) <;> (try (exfalso; first | omega | exact absurd h (by decide))))
    | (with_reducible first | refine AW.skip ?_ | refine AW.exit ?_ | refine AW.ret ?_ | refine thenS_r ?_ | refine thenS_e ?_ | refine inBlockS_r ?_ | refine inBlockS_e ?_ | refine inBlockS_e2 rfl ?_ | refine exitQ_r ?_ | refine exitQ_n ?_)
    | (refine AW.loopN 3 rfl (ι := Nat) (fun k => mkS [(0, V.d (.sl 6 (ts.map encTable))), (1, V.d (.sl 5 (cs.map encChange))), (4, V.ptr 64 0), (5, V.ptr 80 0), (6, V.d (.i .i64 (k : Int)))] ([(64, .live (.box 33 [.d .nil, .d (.i .i64 0), .d .nil, .d (.i .i64 0)])), (80, .live (.box 33 [V.row 144 6 0 (mTo ts cs k).1.length, .d (.i .i64 (mTo ts cs k).2), .d (.sl 1 []), .d (.i .i64 0)])), (144, .live (.row 80 6 false ((mTo ts cs k).1.map encTable)))])) (fun k => k ≤ cs.length ∧ ∀ j, j < k → mErr ts cs j = 0) (fun k => cs.length - k) (0) ?_ ?_ (fun k hk => ?_) <;> (try dsimp only) <;> (try dsimp only at hk))
    | (refine LoopNext.mk1 3 (k + 1) ?_ ?_ ?_ <;> (try dsimp only))
    | (refine sub_auto ?_; refine subQ ?_)
    | (with_reducible refine And.intro ?_ ?_)
    | (subst hK)
    | exact trivial
  all_goals (try (intros; assumption))
  all_goals (try refine boolG ?_)
  all_goals (try replace hp := boolH hp)
  all_goals (try replace hi := boolH hi)
  all_goals (try replace hj := boolH hj)
  all_goals (try replace hk := boolH hk)
  all_goals (try (intros; trivial))
  all_goals (try (intros; omega))
  all_goals (try (rw [w64 (by omega) (by omega)]; first | done | omega))
  all_goals clear hC
  all_goals (try have OK := mTo_ok (cs := cs) hp.1 hk.2)
  all_goals (try have CN := mTo_cnt ts cs k)
  all_goals (try have LN := mTo_len ts cs k)
  all_goals first
    | omega
    | exact hp.1
    | exact OK
    | exact OK.1
    | exact dles_refl _
    | (rw [ans_bad hk.2 (by omega) (by assumption)]; first | done | rfl)
    | exact all_step hk.2 (by rw [mErr_cond]; assumption)
    | (rw [do_next (by rw [mErr_cond]; assumption)]; first | done | exact dles_refl _)
    | (rw [ans_end hk.2 (by omega)]; first | done | rfl | exact dles_refl _)
end
noncomputable def cfg39 : Cfg := ⟨Tryz.prog, 17, tab42, mvz, [], (fun _ => none)⟩
theorem cfg39_l : cfg39.pins = [] ∧ cfg39.P = Tryz.prog ∧ cfg39.N = 17 ∧ cfg39.ti 50 = none ∧ cfg39.T 50 = e50 ∧ cfg39.mv 50 = (fun _ => []) ∧ cfg39.ti 74 = none ∧ cfg39.T 74 = e74 ∧ cfg39.mv 74 = (fun _ => []) := ⟨rfl, rfl, rfl, rfl, rfl, rfl, rfl, rfl, rfl⟩
section
attribute [local go_sem] cfg39_l e50 e74
theorem con39 (hC : COk cfg39) (ts : List Table) (l : List Entry) (hp : okTs ts ∧ l.length ≤ 1000000) : Sem Tryz.prog 39 [.d (.sl 6 (ts.map encTable)), .d (.sl 8 (l.map encEntry))] (.d (.i .i64 (chkE ts l))) := by
  refine sem_of_awR (C := cfg39) (rs := [.tmp 4]) (fun _ => []) Tryz.func39 rfl rfl rfl rfl rfl rfl ?_
  refine inQ ?_
  repeat' first
    | (with_reducible first | refine thenS_n ?_ | refine inBlockS_n ?_ | refine AW.seq ?_ | refine AW.block ?_)
    | (with_reducible first | (refine AW.runK hC ?_; intro K hK) | (refine AW.drawK hC (by kernel_rfl) ?_; intro K hK))
    | ((with_reducible first | refine erun_g ?_ | refine edraw_g ?_ | refine exitS_g ?_); refine siQ ?_; (try simp (disch := omega) only [w64, wu8]))
    | (with_reducible refine hCheck_g (by kernel_rfl) ?_)
    | ((first | (refine AW.cond rfl (fun h => ?_) (fun h => ?_)) | (refine AW.cond_ub rfl (fun h => ?_) ?_) | (refine AW.cond_nb rfl ?_ (fun h => ?_))) <;> (try replace h := boolH h) <;> (try (exfalso; first | omega | exact absurd h (by decide))))
    | (with_reducible first | refine AW.skip ?_ | refine AW.exit ?_ | refine AW.ret ?_ | refine thenS_r ?_ | refine thenS_e ?_ | refine inBlockS_r ?_ | refine inBlockS_e ?_ | refine inBlockS_e2 rfl ?_ | refine exitQ_r ?_ | refine exitQ_n ?_)
    | (refine sub_auto ?_; refine subQ ?_)
    | (with_reducible refine And.intro ?_ ?_)
    | (subst hK)
    | exact trivial
  all_goals (try (intros; assumption))
  all_goals (try refine boolG ?_)
  all_goals (try replace hp := boolH hp)
  all_goals (try replace hi := boolH hi)
  all_goals (try replace hj := boolH hj)
  all_goals (try replace hk := boolH hk)
  all_goals (try (intros; trivial))
  all_goals (try (intros; omega))
  all_goals (try (rw [w64 (by omega) (by omega)]; first | done | omega))
  all_goals clear hC
  all_goals (try simp only [db_snd] at *)
  all_goals first
    | omega
    | exact hp.1
    | (rw [(chk_bad (by assumption)).2]; done)
    | (rw [(chk_good (by assumption)).2]; done)
end
noncomputable def cfg40 : Cfg := ⟨Tryz.prog, 18, tab39, mvz, [], (fun _ => none)⟩
theorem cfg40_l : cfg40.pins = [] ∧ cfg40.P = Tryz.prog ∧ cfg40.N = 18 := ⟨rfl, rfl, rfl⟩
section
attribute [local go_sem] cfg40_l
theorem con40 (hC : COk cfg40) (l : List Entry) (hp : l.length ≤ 1000000) : Sem Tryz.prog 40 [.d (.sl 8 (l.map encEntry))] (.tup [.d (.i .i64 (firstN l)), .d (.i .i64 (lastNo l))]) := by
  refine sem_of_awR (C := cfg40) (rs := [.tmp 2, .tmp 3]) (fun _ => []) Tryz.func40 rfl rfl rfl rfl rfl rfl ?_
  refine inQ ?_
  repeat' first
    | (with_reducible first | refine thenS_n ?_ | refine inBlockS_n ?_ | refine AW.seq ?_ | refine AW.block ?_)
    | (refine AW.atR 3 rfl ?_; have hj : ((l.length : Int) - 1).toNat = l.length - 1 := (by omega))
    | (with_reducible first | (refine AWh.runK hC ?_; intro K hK) | (refine AWh.drawK hC (by kernel_rfl) ?_; intro K hK))
    | (with_reducible first | (refine AW.runK hC ?_; intro K hK) | (refine AW.drawK hC (by kernel_rfl) ?_; intro K hK))
    | ((with_reducible first | refine erun_g ?_ | refine edraw_g ?_ | refine exitS_g ?_); (first | (simp (maxSteps := 1000000) only [go_sem, ↓reduceIte, reduceCtorEq, Nat.reduceEqDiff, Nat.reduceLT, Nat.reduceLeDiff, Nat.reduceMul, Nat.reduceAdd, Nat.reduceSub, reduceDIte, Nat.reduceBEq, Nat.reduceBNe, hj]) | (refine siQ ?_)); (try simp (disch := omega) only [w64, wu8]))
    | (with_reducible refine hCheck_g (by kernel_rfl) ?_)
    | ((first | (refine AW.cond rfl (fun h => ?_) (fun h => ?_)) | (refine AW.cond_ub rfl (fun h => ?_) ?_) | (refine AW.cond_nb rfl ?_ (fun h => ?_))) <;> (try replace h := boolH h) <;> (try (exfalso; first | omega | exact absurd h (by decide))))
    | (with_reducible first | refine AW.skip ?_ | refine AW.exit ?_ | refine AW.ret ?_ | refine thenS_r ?_ | refine thenS_e ?_ | refine inBlockS_r ?_ | refine inBlockS_e ?_ | refine inBlockS_e2 rfl ?_ | refine exitQ_r ?_ | refine exitQ_n ?_)
    | (refine sub_auto ?_; refine subQ ?_)
    | (with_reducible refine And.intro ?_ ?_)
    | (subst hK)
    | exact trivial
  all_goals (try (intros; assumption))
  all_goals (try refine boolG ?_)
  all_goals (try replace hp := boolH hp)
  all_goals (try replace hi := boolH hi)
  all_goals (try replace hj := boolH hj)
  all_goals (try replace hk := boolH hk)
  all_goals (try (intros; trivial))
  all_goals (try (intros; omega))
  all_goals (try (rw [w64 (by omega) (by omega)]; first | done | omega))
  all_goals clear hC
  all_goals first
    | omega
    | (unfold firstN; rw [if_pos (by omega)]; done)
    | (unfold lastNo; rw [if_pos (by omega)]; done)
    | (unfold firstN; rw [if_neg (by omega)]; done)
    | (unfold lastNo; rw [if_neg (by omega)]; done)
end
noncomputable def cfg13 : Cfg := ⟨Tryz.prog, 63, tab40, mvz, [], (fun _ => none)⟩
theorem cfg13_l : cfg13.pins = [] ∧ cfg13.P = Tryz.prog ∧ cfg13.N = 63 ∧ cfg13.ti 39 = none ∧ cfg13.T 39 = e39 ∧ cfg13.mv 39 = (fun _ => []) ∧ cfg13.ti 40 = none ∧ cfg13.T 40 = e40 ∧ cfg13.mv 40 = (fun _ => []) ∧ cfg13.ti 41 = none ∧ cfg13.T 41 = e41 ∧ cfg13.mv 41 = (fun _ => []) ∧ cfg13.ti 42 = none ∧ cfg13.T 42 = e42 ∧ cfg13.mv 42 = (fun _ => []) := ⟨rfl, rfl, rfl, rfl, rfl, rfl, rfl, rfl, rfl, rfl, rfl, rfl, rfl, rfl, rfl⟩
section
attribute [local go_sem] cfg13_l e39 e40 e41 e42
theorem con13 (hC : COk cfg13) (ts : List Table) (l : List Entry) (n : Int) (hp : okTs ts ∧ l.length ≤ 1000000) : Sem Tryz.prog 13 [.d (.sl 6 (ts.map encTable)), .d (.sl 8 (l.map encEntry)), .d (.i .i64 n)] (.d (encAns (ansOf (applyT ts l n)))) := by
  refine sem_of_awR (C := cfg13) (rs := [.cell 6 33]) (fun _ => []) Tryz.func13 rfl rfl rfl rfl rfl rfl ?_
  refine inQ ?_
  repeat' first
    | (with_reducible first | refine thenS_n ?_ | refine inBlockS_n ?_ | refine AW.seq ?_ | refine AW.block ?_)
    | (refine AW.atR 5 rfl ?_; have BL := bounds_le (l := l) (chkE_ok (ts := ts) (by assumption)).2; have hw : IntKind.i64.wrap (firstN l - 1) = firstN l - 1 := (w64 (by omega) (by omega)))
    | (with_reducible first | (refine AWh.runK hC ?_; intro K hK) | (refine AWh.drawK hC (by kernel_rfl) ?_; intro K hK))
    | (with_reducible first | (refine AW.runK hC ?_; intro K hK) | (refine AW.drawK hC (by kernel_rfl) ?_; intro K hK))
    | ((with_reducible first | refine erun_g ?_ | refine edraw_g ?_ | refine exitS_g ?_); (first | (simp (maxSteps := 1000000) only [go_sem, ↓reduceIte, reduceCtorEq, Nat.reduceEqDiff, Nat.reduceLT, Nat.reduceLeDiff, Nat.reduceMul, Nat.reduceAdd, Nat.reduceSub, reduceDIte, Nat.reduceBEq, Nat.reduceBNe, hw]) | (refine siQ ?_)); (try simp (disch := omega) only [w64, wu8]))
    | (with_reducible refine hCheck_g (by kernel_rfl) ?_)
    | ((first | (refine AW.cond rfl (fun h => ?_) (fun h => ?_)) | (refine AW.cond_ub rfl (fun h => ?_) ?_) | (refine AW.cond_nb rfl ?_ (fun h => ?_))) <;> (try replace h := boolH h) <;> (try (exfalso; first | omega | exact absurd h (by decide))))
    | (with_reducible first | refine AW.skip ?_ | refine AW.exit ?_ | refine AW.ret ?_ | refine thenS_r ?_ | refine thenS_e ?_ | refine inBlockS_r ?_ | refine inBlockS_e ?_ | refine inBlockS_e2 rfl ?_ | refine exitQ_r ?_ | refine exitQ_n ?_)
    | (refine AW.loopN 9 rfl (ι := Nat) (fun i => mkS [(0, V.d (.sl 6 (ts.map encTable))), (1, V.d (.sl 8 (l.map encEntry))), (2, V.d (.i .i64 n)), (6, V.ptr 96 0), (10, V.row 160 5 0 (chgsOf ⟨true, n⟩ false (l.take i)).length), (11, V.d (.i .i64 (i : Int)))] ([(96, .live (.box 33 [.d .nil, .d (.i .i64 0), .d .nil, .d (.i .i64 0)])), (160, .live (.row 48 5 false ((chgsOf ⟨true, n⟩ false (l.take i)).map encChange)))])) (fun i => i ≤ l.length ∧ chkE ts l = 0 ∧ firstN l - 1 ≤ n ∧ n ≤ lastNo l) (fun i => l.length - i) (0) ?_ ?_ (fun i hi => ?_) <;> (try dsimp only) <;> (try dsimp only at hi))
    | (refine LoopNext.mk1 9 (i + 1) ?_ ?_ ?_ <;> (try dsimp only))
    | (refine sub_auto ?_; refine subQ ?_)
    | (with_reducible refine And.intro ?_ ?_)
    | (subst hK)
    | exact trivial
  all_goals (try (intros; assumption))
  all_goals (try refine boolG ?_)
  all_goals (try replace hp := boolH hp)
  all_goals (try replace hi := boolH hi)
  all_goals (try replace hj := boolH hj)
  all_goals (try replace hk := boolH hk)
  all_goals (try (intros; trivial))
  all_goals (try (intros; omega))
  all_goals (try (rw [w64 (by omega) (by omega)]; first | done | omega))
  all_goals clear hC
  all_goals (try have BL := bounds_le (l := l) (chkE_ok (ts := ts) (by assumption)).2)
  all_goals first
    | omega
    | exact hp.1
    | exact hp.2
    | exact dles_refl _
    | (rw [ans_err (by assumption)]; first | done | rfl)
    | (rw [ans_out (by assumption) (by omega)]; first | done | rfl)
    | (intro d hd; subst hd; exact ⟨rfl, by simp [D.cells, D.one]⟩)
    | (have := chgs_len (w := ⟨true, n⟩) (back := false) (l := l) (i := i); omega)
    | (rw [chgs_yes (by omega) (by rw [takenE_t]; omega), List.length_append]; rfl)
    | (rw [chgs_yes (by omega) (by rw [takenE_t]; omega), List.map_append]; exact dles_refl _)
    | (rw [chgs_no (by omega) (by rw [takenE_t]; omega)]; first | done | exact dles_refl _)
    | (rw [ans_in (by assumption) (by omega), changes_f (by omega)]; first | done | exact dles_refl _)
end
noncomputable def cfg16 : Cfg := ⟨Tryz.prog, 65, tab13, mvz, [], (fun _ => none)⟩
theorem cfg16_l : cfg16.pins = [] ∧ cfg16.P = Tryz.prog ∧ cfg16.N = 65 ∧ cfg16.ti 39 = none ∧ cfg16.T 39 = e39 ∧ cfg16.mv 39 = (fun _ => []) ∧ cfg16.ti 40 = none ∧ cfg16.T 40 = e40 ∧ cfg16.mv 40 = (fun _ => []) ∧ cfg16.ti 41 = none ∧ cfg16.T 41 = e41 ∧ cfg16.mv 41 = (fun _ => []) ∧ cfg16.ti 42 = none ∧ cfg16.T 42 = e42 ∧ cfg16.mv 42 = (fun _ => []) ∧ cfg16.ti 45 = none ∧ cfg16.T 45 = e45 ∧ cfg16.mv 45 = (fun _ => []) := ⟨rfl, rfl, rfl, rfl, rfl, rfl, rfl, rfl, rfl, rfl, rfl, rfl, rfl, rfl, rfl, rfl, rfl, rfl⟩
section
attribute [local go_sem] cfg16_l e39 e40 e41 e42 e45
theorem con16 (hC : COk cfg16) (ts : List Table) (l : List Entry) (n : Int) (hp : okTs ts ∧ l.length ≤ 1000000) : Sem Tryz.prog 16 [.d (.sl 6 (ts.map encTable)), .d (.sl 8 (l.map encEntry)), .d (.i .i64 n)] (.d (encAns (ansOf (removeT ts l n)))) := by
  refine sem_of_awR (C := cfg16) (rs := [.cell 6 33]) (fun _ => []) Tryz.func16 rfl rfl rfl rfl rfl rfl ?_
  refine inQ ?_
  repeat' first
    | (with_reducible first | refine thenS_n ?_ | refine inBlockS_n ?_ | refine AW.seq ?_ | refine AW.block ?_)
    | (refine AW.atR 5 rfl ?_; have BL := bounds_le (l := l) (chkE_ok (ts := ts) (by assumption)).2; have hw : IntKind.i64.wrap (lastNo l + 1) = lastNo l + 1 := (w64 (by omega) (by omega)))
    | (with_reducible first | (refine AWh.runK hC ?_; intro K hK) | (refine AWh.drawK hC (by kernel_rfl) ?_; intro K hK))
    | (with_reducible first | (refine AW.runK hC ?_; intro K hK) | (refine AW.drawK hC (by kernel_rfl) ?_; intro K hK))
    | ((with_reducible first | refine erun_g ?_ | refine edraw_g ?_ | refine exitS_g ?_); (first | (simp (maxSteps := 1000000) only [go_sem, ↓reduceIte, reduceCtorEq, Nat.reduceEqDiff, Nat.reduceLT, Nat.reduceLeDiff, Nat.reduceMul, Nat.reduceAdd, Nat.reduceSub, reduceDIte, Nat.reduceBEq, Nat.reduceBNe, hw]) | (refine siQ ?_)); (try simp (disch := omega) only [w64, wu8]))
    | (with_reducible refine hCheck_g (by kernel_rfl) ?_)
    | ((first | (refine AW.cond rfl (fun h => ?_) (fun h => ?_)) | (refine AW.cond_ub rfl (fun h => ?_) ?_) | (refine AW.cond_nb rfl ?_ (fun h => ?_))) <;> (try replace h := boolH h) <;> (try (exfalso; first | omega | exact absurd h (by decide))))
    | (with_reducible first | refine AW.skip ?_ | refine AW.exit ?_ | refine AW.ret ?_ | refine thenS_r ?_ | refine thenS_e ?_ | refine inBlockS_r ?_ | refine inBlockS_e ?_ | refine inBlockS_e2 rfl ?_ | refine exitQ_r ?_ | refine exitQ_n ?_)
    | (refine AW.loopN 9 rfl (ι := Nat) (fun j => mkS [(0, V.d (.sl 6 (ts.map encTable))), (1, V.d (.sl 8 (l.map encEntry))), (2, V.d (.i .i64 n)), (6, V.ptr 96 0), (10, V.row 160 5 0 (backTo ⟨false, n⟩ l j).length), (11, V.d (.i .i64 ((j : Int) - 1)))] ([(96, .live (.box 33 [.d .nil, .d (.i .i64 0), .d .nil, .d (.i .i64 0)])), (160, .live (.row 48 5 false ((backTo ⟨false, n⟩ l j).map encChange)))])) (fun j => j ≤ l.length ∧ chkE ts l = 0 ∧ firstN l ≤ n ∧ n ≤ lastNo l + 1) (fun j => j) (l.length) ?_ ?_ (fun j hi => ?_) <;> (try dsimp only) <;> (try dsimp only at hi))
    | (refine LoopNext.mk1 9 (j - 1) ?_ ?_ ?_ <;> (try dsimp only))
    | (refine sub_auto ?_; refine subQ ?_)
    | (with_reducible refine And.intro ?_ ?_)
    | (subst hK)
    | exact trivial
  all_goals (try (intros; assumption))
  all_goals (try refine boolG ?_)
  all_goals (try replace hp := boolH hp)
  all_goals (try replace hi := boolH hi)
  all_goals (try replace hj := boolH hj)
  all_goals (try replace hk := boolH hk)
  all_goals (try (intros; trivial))
  all_goals (try (intros; omega))
  all_goals (try (rw [w64 (by omega) (by omega)]; first | done | omega))
  all_goals clear hC
  all_goals (try simp only [int_pred] at *)
  all_goals (try have BL := bounds_le (l := l) (chkE_ok (ts := ts) (by assumption)).2)
  all_goals first
    | omega
    | exact hp.1
    | exact hp.2
    | exact dles_refl _
    | (rw [rem_err (by assumption)]; first | done | rfl)
    | (rw [rem_out (by assumption) (by omega)]; first | done | rfl)
    | (intro d hd; subst hd; exact ⟨rfl, by simp [D.cells, D.one]⟩)
    | (have := back_len ⟨false, n⟩ l j; omega)
    | (rw [back_start (Nat.le_refl _)]; rfl)
    | (rw [back_yes (j := j - 1) (by omega) (by rw [takenE_f]; omega), show j - 1 + 1 = j by omega, List.length_append]; rfl)
    | (rw [back_yes (j := j - 1) (by omega) (by rw [takenE_f]; omega), show j - 1 + 1 = j by omega, List.map_append]; exact dles_refl _)
    | (rw [back_no (j := j - 1) (by omega) (by rw [takenE_f]; omega), show j - 1 + 1 = j by omega]; first | done | exact dles_refl _)
    | (rw [rem_in (by assumption) (by omega), ← back_end (chkE_ok (ts := ts) (by assumption)).2, show j = 0 by omega]; first | done | exact dles_refl _)
end
noncomputable def cfg14 : Cfg := ⟨Tryz.prog, 17, tab16, mvz, [], (fun _ => none)⟩
theorem cfg14_l : cfg14.pins = [] ∧ cfg14.P = Tryz.prog ∧ cfg14.N = 17 ∧ cfg14.ti 43 = none ∧ cfg14.T 43 = e43 ∧ cfg14.mv 43 = (fun _ => []) := ⟨rfl, rfl, rfl, rfl, rfl, rfl⟩
section
attribute [local go_sem] cfg14_l e43
theorem con14 (hC : COk cfg14) (ts : List Table) (e : Int) (x : Ans) (hp : okTs ts) : Sem Tryz.prog 14 [.d (.sl 6 (ts.map encTable)), .d (.i .i64 e), .d (encAns x)] (.d (.b (decide (e = x.err) && decide (ts = x.tables)))) := by
  refine sem_of_awR (C := cfg14) (rs := [.tmp 6]) (fun _ => []) Tryz.func14 rfl rfl rfl rfl rfl rfl ?_
  refine inQ ?_
  repeat' first
    | (with_reducible first | refine thenS_n ?_ | refine inBlockS_n ?_ | refine AW.seq ?_ | refine AW.block ?_)
    | (with_reducible first | (refine AW.runK hC ?_; intro K hK) | (refine AW.drawK hC (by kernel_rfl) ?_; intro K hK))
    | ((with_reducible first | refine erun_g ?_ | refine edraw_g ?_ | refine exitS_g ?_); refine siQ ?_; (try simp (disch := omega) only [w64, wu8]))
    | (with_reducible refine hCheck_g (by kernel_rfl) ?_)
    | ((first | (refine AW.cond rfl (fun h => ?_) (fun h => ?_)) | (refine AW.cond_ub rfl (fun h => ?_) ?_) | (refine AW.cond_nb rfl ?_ (fun h => ?_))) <;> (try replace h := boolH h) <;> (try (exfalso; first | omega | exact absurd h (by decide))))
    | (with_reducible first | refine AW.skip ?_ | refine AW.exit ?_ | refine AW.ret ?_ | refine thenS_r ?_ | refine thenS_e ?_ | refine inBlockS_r ?_ | refine inBlockS_e ?_ | refine inBlockS_e2 rfl ?_ | refine exitQ_r ?_ | refine exitQ_n ?_)
    | (refine sub_auto ?_; refine subQ ?_)
    | (with_reducible refine And.intro ?_ ?_)
    | (subst hK)
    | exact trivial
  all_goals (try (intros; assumption))
  all_goals (try refine boolG ?_)
  all_goals (try replace hp := boolH hp)
  all_goals (try replace hi := boolH hi)
  all_goals (try replace hj := boolH hj)
  all_goals (try replace hk := boolH hk)
  all_goals (try (intros; trivial))
  all_goals (try (intros; omega))
  all_goals (try (rw [w64 (by omega) (by omega)]; first | done | omega))
  all_goals clear hC
  all_goals first
    | omega
    | exact hp
    | exact fun _ => hp
end
noncomputable def cfg3 : Cfg := ⟨Tryz.prog, 41, tab14, mvz, [], (fun _ => none)⟩
theorem cfg3_l : cfg3.pins = [] ∧ cfg3.P = Tryz.prog ∧ cfg3.N = 41 ∧ cfg3.ti 8 = none ∧ cfg3.T 8 = e8 ∧ cfg3.mv 8 = (fun _ => []) ∧ cfg3.ti 9 = none ∧ cfg3.T 9 = e9 ∧ cfg3.mv 9 = (fun _ => []) ∧ cfg3.ti 10 = none ∧ cfg3.T 10 = e10 ∧ cfg3.mv 10 = (fun _ => []) ∧ cfg3.ti 11 = none ∧ cfg3.T 11 = e11 ∧ cfg3.mv 11 = (fun _ => []) ∧ cfg3.ti 12 = none ∧ cfg3.T 12 = e12 ∧ cfg3.mv 12 = (fun _ => []) ∧ cfg3.ti 13 = none ∧ cfg3.T 13 = e13 ∧ cfg3.mv 13 = (fun _ => []) ∧ cfg3.ti 14 = none ∧ cfg3.T 14 = e14 ∧ cfg3.mv 14 = (fun _ => []) := ⟨rfl, rfl, rfl, rfl, rfl, rfl, rfl, rfl, rfl, rfl, rfl, rfl, rfl, rfl, rfl, rfl, rfl, rfl, rfl, rfl, rfl, rfl, rfl, rfl⟩
section
attribute [local go_sem] cfg3_l e8 e9 e10 e11 e12 e13 e14
attribute [local go_sem] ansOf
theorem con3 (hC : COk cfg3) (ts : List Table) (l : List Entry) (n : Int) : Sem Tryz.prog 3 [.d (.sl 6 (ts.map encTable)), .d (.sl 8 (l.map encEntry)), .d (.i .i64 n)] (.d (.b true)) := by
  refine sem_of_awR (C := cfg3) (rs := [.tmp 6]) (fun _ => []) Tryz.func3 rfl rfl rfl rfl rfl rfl ?_
  refine inQ ?_
  repeat' first
    | (with_reducible first | refine thenS_n ?_ | refine inBlockS_n ?_ | refine AW.seq ?_ | refine AW.block ?_)
    | (with_reducible first | (refine AW.runK hC ?_; intro K hK) | (refine AW.drawK hC (by kernel_rfl) ?_; intro K hK))
    | ((with_reducible first | refine erun_g ?_ | refine edraw_g ?_ | refine exitS_g ?_); refine siQ ?_; (try simp (disch := omega) only [w64, wu8]))
    | (with_reducible refine hCheck_g (by kernel_rfl) ?_)
    | ((first | (refine AW.cond rfl (fun h => ?_) (fun h => ?_)) | (refine AW.cond_ub rfl (fun h => ?_) ?_) | (refine AW.cond_nb rfl ?_ (fun h => ?_))) <;> (try replace h := boolH h) <;> (try (exfalso; first | omega | exact absurd h (by decide))))
    | (with_reducible first | refine AW.skip ?_ | refine AW.exit ?_ | refine AW.ret ?_ | refine thenS_r ?_ | refine thenS_e ?_ | refine inBlockS_r ?_ | refine inBlockS_e ?_ | refine inBlockS_e2 rfl ?_ | refine exitQ_r ?_ | refine exitQ_n ?_)
    | (refine sub_auto ?_; refine subQ ?_)
    | (with_reducible refine And.intro ?_ ?_)
    | (subst hK)
    | exact trivial
  all_goals (try (intros; assumption))
  all_goals (try refine boolG ?_)
  all_goals (try replace hp := boolH hp)
  all_goals (try replace hi := boolH hi)
  all_goals (try replace hj := boolH hj)
  all_goals (try replace hk := boolH hk)
  all_goals (try (intros; trivial))
  all_goals (try (intros; omega))
  all_goals (try (rw [w64 (by omega) (by omega)]; first | done | omega))
  all_goals clear hC
  all_goals (try have HF : fewTs ts = true ∧ few35 l = true := by grind)
  all_goals (try have FL := few35_len HF.2)
  all_goals (try have FT := (fewTs_ok HF.1).1)
  all_goals first
    | omega
    | exact FT
    | exact FT.1
    | exact okTs_apply FT
    | exact okTs_remove FT
    | exact fun _ => okTs_apply FT
    | exact fun _ => okTs_remove FT
    | exact fun _ => ⟨FT.1, by omega⟩
end
noncomputable def cfg4 : Cfg := ⟨Tryz.prog, 41, tab3, mvz, [], (fun _ => none)⟩
theorem cfg4_l : cfg4.pins = [] ∧ cfg4.P = Tryz.prog ∧ cfg4.N = 41 ∧ cfg4.ti 8 = none ∧ cfg4.T 8 = e8 ∧ cfg4.mv 8 = (fun _ => []) ∧ cfg4.ti 9 = none ∧ cfg4.T 9 = e9 ∧ cfg4.mv 9 = (fun _ => []) ∧ cfg4.ti 11 = none ∧ cfg4.T 11 = e11 ∧ cfg4.mv 11 = (fun _ => []) ∧ cfg4.ti 12 = none ∧ cfg4.T 12 = e12 ∧ cfg4.mv 12 = (fun _ => []) ∧ cfg4.ti 14 = none ∧ cfg4.T 14 = e14 ∧ cfg4.mv 14 = (fun _ => []) ∧ cfg4.ti 15 = none ∧ cfg4.T 15 = e15 ∧ cfg4.mv 15 = (fun _ => []) ∧ cfg4.ti 16 = none ∧ cfg4.T 16 = e16 ∧ cfg4.mv 16 = (fun _ => []) := ⟨rfl, rfl, rfl, rfl, rfl, rfl, rfl, rfl, rfl, rfl, rfl, rfl, rfl, rfl, rfl, rfl, rfl, rfl, rfl, rfl, rfl, rfl, rfl, rfl⟩
section
attribute [local go_sem] cfg4_l e8 e9 e11 e12 e14 e15 e16
attribute [local go_sem] ansOf
theorem con4 (hC : COk cfg4) (ts : List Table) (l : List Entry) (n : Int) : Sem Tryz.prog 4 [.d (.sl 6 (ts.map encTable)), .d (.sl 8 (l.map encEntry)), .d (.i .i64 n)] (.d (.b true)) := by
  refine sem_of_awR (C := cfg4) (rs := [.tmp 6]) (fun _ => []) Tryz.func4 rfl rfl rfl rfl rfl rfl ?_
  refine inQ ?_
  repeat' first
    | (with_reducible first | refine thenS_n ?_ | refine inBlockS_n ?_ | refine AW.seq ?_ | refine AW.block ?_)
    | (with_reducible first | (refine AW.runK hC ?_; intro K hK) | (refine AW.drawK hC (by kernel_rfl) ?_; intro K hK))
    | ((with_reducible first | refine erun_g ?_ | refine edraw_g ?_ | refine exitS_g ?_); refine siQ ?_; (try simp (disch := omega) only [w64, wu8]))
    | (with_reducible refine hCheck_g (by kernel_rfl) ?_)
    | ((first | (refine AW.cond rfl (fun h => ?_) (fun h => ?_)) | (refine AW.cond_ub rfl (fun h => ?_) ?_) | (refine AW.cond_nb rfl ?_ (fun h => ?_))) <;> (try replace h := boolH h) <;> (try (exfalso; first | omega | exact absurd h (by decide))))
    | (with_reducible first | refine AW.skip ?_ | refine AW.exit ?_ | refine AW.ret ?_ | refine thenS_r ?_ | refine thenS_e ?_ | refine inBlockS_r ?_ | refine inBlockS_e ?_ | refine inBlockS_e2 rfl ?_ | refine exitQ_r ?_ | refine exitQ_n ?_)
    | (refine sub_auto ?_; refine subQ ?_)
    | (with_reducible refine And.intro ?_ ?_)
    | (subst hK)
    | exact trivial
  all_goals (try (intros; assumption))
  all_goals (try refine boolG ?_)
  all_goals (try replace hp := boolH hp)
  all_goals (try replace hi := boolH hi)
  all_goals (try replace hj := boolH hj)
  all_goals (try replace hk := boolH hk)
  all_goals (try (intros; trivial))
  all_goals (try (intros; omega))
  all_goals (try (rw [w64 (by omega) (by omega)]; first | done | omega))
  all_goals clear hC
  all_goals (try have HF : fewTs ts = true ∧ few35 l = true := by grind)
  all_goals (try have FL := few35_len HF.2)
  all_goals (try have FT := (fewTs_ok HF.1).1)
  all_goals first
    | omega
    | exact FT
    | exact FT.1
    | exact okTs_apply FT
    | exact okTs_remove FT
    | exact fun _ => okTs_apply FT
    | exact fun _ => okTs_remove FT
    | exact fun _ => ⟨FT.1, by omega⟩
end
end Go.Ev
