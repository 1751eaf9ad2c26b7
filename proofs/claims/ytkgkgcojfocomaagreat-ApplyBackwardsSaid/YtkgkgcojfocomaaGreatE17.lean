/- Tools and contracts under the laws of this seat: Dyc15 to Dyc32. -/
import Derived.Test.YtkgkgcojfocomaaGreatE09
set_option linter.unusedVariables false
set_option linter.unusedSimpArgs false
namespace Go.Ev
open Go.Proofs Ty
set_option maxRecDepth 10000
set_option maxHeartbeats 4000000
set_option linter.unusedSimpArgs false
set_option linter.unusedVariables false
attribute [local go_sem] erun_nil erun_cons edraw_eq edrun_nil edrun_cons e1_n e1_g guardSlot_eq lkAll_tmp lkAll_nil lkAll_const lkAll_func val_tmp val_const val_func aget getBox_mk getRow_mk liveRow_mk hp_mk eU_move_n eU_assign_n eU_move eU_assign eU_pick eU_alloc eU_box eU_load eU_store eU_nilCheck eU_binOp eU_unOp eU_fieldAddr eU_field eU_indexAddr eU_index eU_build eU_buildSlice eU_slice eU_extract eU_makeFunc eU_builtin eU_call eU_callv V.cells V.one D.one D.cells newObj nm HS.isFree HS.isLive andOk_some andOk_none List.map_cons List.map_nil Option.bind_some Option.bind_none putL List.cons_append List.nil_append thenS_normal thenS_ret thenS_exit inBlockS_normal inBlockS_ret inBlockS_exit true_and and_true justV justO cval Option.map_some Option.map_none loadAt storeAt ldV ldD mkAgg V.asD spliceL List.take_succ_cons List.take_zero List.drop_succ_cons List.drop_zero List.getElem?_cons_zero List.getElem?_cons_succ List.getElem?_nil List.all_cons List.all_nil Bool.and_true Bool.true_and Bool.and_self List.length_cons List.length_nil vals aopCall argsO argO toD3 toD2 toD1 toDs O.ok O.ok2 O.ok1 O.flat O.flat1 D.flat D.flatA inO inO2 inO1 inOs List.filterMap_nil List.filterMap_cons List.filter_nil List.filter_cons List.nodup_nil decide_true decide_false Bool.not_true Bool.not_false not_true_eq_false not_false_eq_true or_false false_or and_false false_and ne_eq List.append_nil optB guardQ guardRes beq_self_eq_true List.mapM_cons List.mapM_nil Option.pure_def Option.bind_eq_bind true_or or_true or_self callHp ite_self not_true not_false_iff ite_true ite_false if_true if_false Bool.false_eq_true Bool.true_eq_false List.any_nil List.any_cons List.contains_nil List.contains_cons eq_self aopAppend builtinV elems aopBin nilEqS nilEqP aopSlice bound natOf lenOf binD intBin unD bindEq eU_makeMap eU_convert eU_makeSlice aopConv aopMake isShift shiftD eU_lookup eU_mapUpdate getMp_mk List.range_zero Nat.zero_le Nat.zero_mul Nat.zero_add Nat.add_zero List.length_append List.take_length List.isEmpty_nil List.isEmpty_cons V.neg List.flatMap_nil and_self List.range_succ forall_const implies_true Nat.not_lt_zero exitQ_normal exitQ_ret exitS_eq exitO resVs resV_tmp resV_cell takeRow argCells mvAt dle_same dles_same ole_same ole oles dle dles List.nodup_cons List.mem_cons List.not_mem_nil List.drop_length Nat.le_refl Nat.lt_irrefl id_eq Option.some.injEq Bool.or_false Bool.false_or Bool.or_self Bool.or_true Bool.true_or false_implies Bool.and_false Bool.false_and List.reverse_cons List.reverse_nil sh1 mget1 mget aopLookup aopMapUpdate mapOf msetK msetV Option.isSome_some Option.isSome_none Bool.cond_true_left Bool.cond_false_right Bool.cond_true_right Bool.cond_false_left beq_true beq_false Bool.not_not imp_self guardVal notB strBin aopSliceS buildV argOk D.splice kEq Option.toList_some Option.toList_none adel List.getD_cons_zero List.getD_cons_succ bxIds bxId backHp hget one1 aopCall0 aopTurn
attribute [local go_sem] sz3 ag3 zr3 zo3 zd3 by3 sl3 st3 bo3 pt3 ck3 sz9 ag9 zr9 zo9 zd9 by9 sl9 un9 st9 bo9 pt9 ck9 encDType decDType etaDType zfDType encVal decVal etaVal zfVal Int.toNat_natCast chr_eq dL_int dM_int getDz_int decL_sl decM_cons decM_nil decI List.length_map nc0 bytesD_len bytesD_get encField decField etaField zfField encFmt decFmt etaFmt zfFmt encKField decKField etaKField zfKField encFile decFile etaFile zfFile encRec decRec etaRec zfRec getDz_Field getDz_KField getDz_Rec dL_Field dL_KField dL_Rec dM_Field dM_KField dM_Rec ceqField ceqKField ceqRec List.length_take decL_nil Int.toNat_zero Nat.sub_zero List.drop_zero encTable decTable etaTable zfTable encChange decChange etaChange zfChange dL_Change dM_Change List.length_set Nat.le_refl sz4 ag4 zr4 zo4 zd4 by4 sl4 st4 bo4 pt4 sz22 ag22 zr22 zo22 zd22 by22 el22 sl22 un22 st22 bo22 pt22 sz23 ag23 zr23 zo23 zd23 by23 el23 sl23 un23 st23 bo23 pt23 sz26 ag26 zr26 zo26 zd26 by26 sl26 st26 bo26 pt26 ck26 sz48 ag48 zr48 zd48 by48 sl48 st48 bo48 pt48 of48_0 fa48_0 of48_1 fa48_1 of48_2 fa48_2 of48_3 fa48_3 of48_4 fa48_4 pl48 ek48 sz50 ag50 zr50 zd50 by50 sl50 st50 bo50 pt50 of50_0 fa50_0 of50_1 fa50_1 of50_2 fa50_2 of50_3 fa50_3 pl50 ek50 sz69 ag69 zr69 zo69 zd69 by69 el69 sl69 un69 st69 bo69 pt69 sz72 ag72 zr72 zo72 zd72 by72 el72 sl72 un72 st72 bo72 pt72 sz74 ag74 zr74 zd74 by74 sl74 st74 bo74 pt74 of74_0 fa74_0 of74_1 fa74_1 pl74 sz75 ag75 zr75 zo75 zd75 by75 el75 sl75 un75 st75 bo75 pt75 sz77 ag77 zr77 zd77 by77 sl77 st77 bo77 pt77 of77_0 fa77_0 of77_1 fa77_1 of77_2 fa77_2 of77_3 fa77_3 pl77 sz78 ag78 zr78 zo78 zd78 by78 el78 sl78 un78 st78 bo78 pt78 sz80 ag80 zr80 zd80 by80 sl80 st80 bo80 pt80 of80_0 fa80_0 of80_1 fa80_1 pl80 sz104 ag104 zr104 zd104 by104 sl104 st104 bo104 pt104 of104_0 fa104_0 of104_1 fa104_1 pl104 ek104 sz108 ag108 zr108 zd108 by108 sl108 st108 bo108 pt108 of108_0 fa108_0 of108_1 fa108_1 of108_2 fa108_2 pl108 ek108 sz110 ag110 zr110 zd110 by110 sl110 st110 bo110 pt110 of110_0 fa110_0 of110_1 fa110_1 pl110 ek110 sz113 ag113 zr113 zd113 by113 sl113 st113 bo113 pt113 of113_0 fa113_0 of113_1 fa113_1 pl113 ek113
attribute [local go_sem ←] List.map_take List.map_drop
noncomputable def cfg15 : Cfg := ⟨Tryz.prog, 53, tab10, (fun _ _ => []), [], (fun _ => none)⟩
theorem cfg15_l : cfg15.pins = [] ∧ cfg15.P = Tryz.prog ∧ cfg15.N = 53 ∧ cfg15.ti 34 = none ∧ cfg15.T 34 = e34 ∧ cfg15.mv 34 = (fun _ => []) ∧ cfg15.ti 35 = none ∧ cfg15.T 35 = e35 ∧ cfg15.mv 35 = (fun _ => []) ∧ cfg15.ti 36 = none ∧ cfg15.T 36 = e36 ∧ cfg15.mv 36 = (fun _ => []) ∧ cfg15.ti 44 = none ∧ cfg15.T 44 = e44 ∧ cfg15.mv 44 = (fun _ => []) := ⟨rfl, rfl, rfl, rfl, rfl, rfl, rfl, rfl, rfl, rfl, rfl, rfl, rfl, rfl, rfl⟩
section
attribute [local go_sem] cfg15_l e34 e35 e36 e44
attribute [local go_sem] dL_Table dM_Table encEntry decEntry etaEntry zfEntry getDz_Entry dL_Entry dM_Entry encWant decWant
theorem con15 (hC : COk cfg15) (ts : List Table) (l : List Entry) (n : Int) (hp : okTs ts ∧ l.length ≤ 1000000) : Sem Tryz.prog 15 [.d (.sl 6 (ts.map encTable)), .d (.sl 8 (l.map encEntry)), .d (.i .i64 n)] (.tup [.d (.sl 6 ((removeT ts l n).1.map encTable)), .d (.i .i64 (removeT ts l n).2.1), .d (.i .i64 (removeT ts l n).2.2)]) := by
  refine sem_of_awR (C := cfg15) (rs := [.tmp 6, .tmp 7, .tmp 8]) (fun _ => []) Tryz.func15 rfl rfl rfl rfl rfl rfl ?_
  refine inQ ?_
  repeat' first
    | (with_reducible first | refine thenS_n ?_ | refine inBlockS_n ?_ | refine AW.seq ?_ | refine AW.block ?_)
    | (refine AW.atR 6 rfl ?_; have hq := (chkE_ok (ts := ts) (l := l) (by assumption)).2; have h0 := num_chk hq (j := 0) (by omega); have h1 := num_chk hq (j := l.length - 1) (by omega); have hj : ((l.length : Int) - 1).toNat = l.length - 1 := (by omega))
    | (with_reducible first | (refine AWh.runK hC ?_; intro K hK) | (refine AWh.drawK hC (by kernel_rfl) ?_; intro K hK))
    | (with_reducible first | (refine AW.runK hC ?_; intro K hK) | (refine AW.drawK hC (by kernel_rfl) ?_; intro K hK))
    | ((with_reducible first | refine erun_g ?_ | refine edraw_g ?_ | refine exitS_g ?_); (first | (simp (maxSteps := 1000000) only [go_sem, ↓reduceIte, reduceCtorEq, Nat.reduceEqDiff, Nat.reduceLT, Nat.reduceLeDiff, Nat.reduceMul, Nat.reduceAdd, Nat.reduceSub, reduceDIte, Nat.reduceBEq, Nat.reduceBNe, hj]) | (refine siQ ?_)); (try simp (disch := omega) only [w64, wu8]))
    | (with_reducible refine hCheck_g (by kernel_rfl) ?_)
    | ((first | (refine AW.cond rfl (fun h => ?_) (fun h => ?_)) | (refine AW.cond_ub rfl (fun h => ?_) ?_) | (refine AW.cond_nb rfl ?_ (fun h => ?_))) <;> (try replace h := boolH h) <;> (try (exfalso; first | omega | exact absurd h (by decide))))
    | (with_reducible first | refine AW.skip ?_ | refine AW.exit ?_ | refine AW.ret ?_ | refine thenS_r ?_ | refine thenS_e ?_ | refine inBlockS_r ?_ | refine inBlockS_e ?_ | refine inBlockS_e2 rfl ?_ | refine exitQ_r ?_ | refine exitQ_n ?_)
    | (refine sub_auto ?_; refine subQ ?_)
    | (with_reducible refine And.intro ?_ ?_)
    | (subst hK)
    | exact trivial
  all_goals (try (intros; assumption))
  all_goals (try refine boolG ?_)
  all_goals (try replace hp := boolH hp)
  all_goals (try replace hi := boolH hi)
  all_goals (try replace hj := boolH hj)
  all_goals (try replace hk := boolH hk)
  all_goals (try (intros; trivial))
  all_goals (try (intros; omega))
  all_goals (try (rw [w64 (by omega) (by omega)]; first | done | omega))
  all_goals clear hC
  all_goals (try have ES := edge_some (l := l) (by omega))
  all_goals (try have EN := edge_none (l := l) (by omega))
  all_goals first
    | omega
    | exact hp.1
    | exact hp.2
    | exact hp.1.1
    | (rw [remove_err (by assumption)]; done)
    | (rw [remove_err (by assumption)]; rfl)
    | (rw [remove_err (by assumption)]; exact dles_refl _)
    | (rw [remove_out (by assumption) (by omega)]; done)
    | (rw [remove_out (by assumption) (by omega)]; rfl)
    | (rw [remove_out (by assumption) (by omega)]; exact dles_refl _)
    | (rw [remove_in (by assumption) (by omega)]; done)
    | (rw [remove_in (by assumption) (by omega)]; exact dles_refl _)
    | (have := changes_len ⟨true, n⟩ false l; omega)
    | (have := changes_len ⟨false, n⟩ true l; omega)
end
noncomputable def cfg95 : Cfg := ⟨Tryz.prog, 9, tab15, (fun _ _ => []), [], (fun _ => none)⟩
theorem cfg95_l : cfg95.pins = [] ∧ cfg95.P = Tryz.prog ∧ cfg95.N = 9 := ⟨rfl, rfl, rfl⟩
section
attribute [local go_sem] cfg95_l
theorem con95 (hC : COk cfg95) (f : Fmt) (hp : f.fields.length ≤ 1000000) : Sem Tryz.prog 95 [.d (encFmt f)] (.d (encFmt f)) := by
  refine sem_of_awR (C := cfg95) (rs := [.cell 2 74]) (fun _ => []) Tryz.func95 rfl rfl rfl rfl rfl rfl ?_
  refine inQ ?_
  repeat' first
    | (with_reducible first | refine thenS_n ?_ | refine inBlockS_n ?_ | refine AW.seq ?_ | refine AW.block ?_)
    | (with_reducible first | (refine AW.runK hC ?_; intro K hK) | (refine AW.drawK hC (by kernel_rfl) ?_; intro K hK))
    | ((with_reducible first | refine erun_g ?_ | refine edraw_g ?_ | refine exitS_g ?_); refine siQ ?_; (try simp (disch := omega) only [w64, wu8]))
    | (with_reducible refine hCheck_g (by kernel_rfl) ?_)
    | ((first | (refine AW.cond rfl (fun h => ?_) (fun h => ?_)) | (refine AW.cond_ub rfl (fun h => ?_) ?_) | (refine AW.cond_nb rfl ?_ (fun h => ?_))) <;> (try replace h := boolH h) <;> (try (exfalso; first | omega | exact absurd h (by decide))))
    | (with_reducible first | refine AW.skip ?_ | refine AW.exit ?_ | refine AW.ret ?_ | refine thenS_r ?_ | refine thenS_e ?_ | refine inBlockS_r ?_ | refine inBlockS_e ?_ | refine inBlockS_e2 rfl ?_ | refine exitQ_r ?_ | refine exitQ_n ?_)
    | (refine sub_auto ?_; refine subQ ?_)
    | (with_reducible refine And.intro ?_ ?_)
    | (subst hK)
    | exact trivial
  all_goals (try (intros; assumption))
  all_goals (try refine boolG ?_)
  all_goals (try replace hp := boolH hp)
  all_goals (try replace hi := boolH hi)
  all_goals (try replace hj := boolH hj)
  all_goals (try replace hk := boolH hk)
  all_goals (try (intros; trivial))
  all_goals (try (intros; omega))
  all_goals (try (rw [w64 (by omega) (by omega)]; first | done | omega))
  all_goals clear hC
  all_goals first | omega | (simp_all [dles]; done) | exact dles_refl _
end
noncomputable def cfg73 : Cfg := ⟨Tryz.prog, 14, tab95, (fun _ _ => []), [], (fun _ => none)⟩
theorem cfg73_l : cfg73.pins = [] ∧ cfg73.P = Tryz.prog ∧ cfg73.N = 14 ∧ cfg73.ti 95 = none ∧ cfg73.T 95 = e95 ∧ cfg73.mv 95 = (fun _ => []) := ⟨rfl, rfl, rfl, rfl, rfl, rfl⟩
section
attribute [local go_sem] cfg73_l e95
theorem con73 (hC : COk cfg73) (f : File) (hp : f.format.fields.length ≤ 1000000 ∧ f.keys.length ≤ 1000000) : Sem Tryz.prog 73 [.d (encFile f)] (.d (encFile f)) := by
  refine sem_of_awR (C := cfg73) (rs := [.cell 2 77]) (fun _ => []) Tryz.func73 rfl rfl rfl rfl rfl rfl ?_
  refine inQ ?_
  repeat' first
    | (with_reducible first | refine thenS_n ?_ | refine inBlockS_n ?_ | refine AW.seq ?_ | refine AW.block ?_)
    | (with_reducible first | (refine AW.runK hC ?_; intro K hK) | (refine AW.drawK hC (by kernel_rfl) ?_; intro K hK))
    | ((with_reducible first | refine erun_g ?_ | refine edraw_g ?_ | refine exitS_g ?_); refine siQ ?_; (try simp (disch := omega) only [w64, wu8]))
    | (with_reducible refine hCheck_g (by kernel_rfl) ?_)
    | ((first | (refine AW.cond rfl (fun h => ?_) (fun h => ?_)) | (refine AW.cond_ub rfl (fun h => ?_) ?_) | (refine AW.cond_nb rfl ?_ (fun h => ?_))) <;> (try replace h := boolH h) <;> (try (exfalso; first | omega | exact absurd h (by decide))))
    | (with_reducible first | refine AW.skip ?_ | refine AW.exit ?_ | refine AW.ret ?_ | refine thenS_r ?_ | refine thenS_e ?_ | refine inBlockS_r ?_ | refine inBlockS_e ?_ | refine inBlockS_e2 rfl ?_ | refine exitQ_r ?_ | refine exitQ_n ?_)
    | (refine sub_auto ?_; refine subQ ?_)
    | (with_reducible refine And.intro ?_ ?_)
    | (subst hK)
    | exact trivial
  all_goals (try (intros; assumption))
  all_goals (try refine boolG ?_)
  all_goals (try replace hp := boolH hp)
  all_goals (try replace hi := boolH hi)
  all_goals (try replace hj := boolH hj)
  all_goals (try replace hk := boolH hk)
  all_goals (try (intros; trivial))
  all_goals (try (intros; omega))
  all_goals (try (rw [w64 (by omega) (by omega)]; first | done | omega))
  all_goals clear hC
  all_goals first | omega | (simp_all [dles]; done) | exact dles_refl _
end
noncomputable def cfg38 : Cfg := ⟨Tryz.prog, 10, tab73, (fun _ _ => []), [], (fun _ => none)⟩
theorem cfg38_l : cfg38.pins = [] ∧ cfg38.P = Tryz.prog ∧ cfg38.N = 10 ∧ cfg38.ti 73 = none ∧ cfg38.T 73 = e73 ∧ cfg38.mv 73 = (fun _ => []) := ⟨rfl, rfl, rfl, rfl, rfl, rfl⟩
section
attribute [local go_sem] cfg38_l e73
theorem con38 (hC : COk cfg38) (t : Table) (hp : (t.file.format.fields.length ≤ 1000000 ∧ t.file.keys.length ≤ 1000000 ∧ t.records.length ≤ 1000000)) : Sem Tryz.prog 38 [.d (encTable t)] (.d (encTable t)) := by
  refine sem_of_awR (C := cfg38) (rs := [.cell 2 80]) (fun _ => []) Tryz.func38 rfl rfl rfl rfl rfl rfl ?_
  refine inQ ?_
  repeat' first
    | (with_reducible first | refine thenS_n ?_ | refine inBlockS_n ?_ | refine AW.seq ?_ | refine AW.block ?_)
    | (with_reducible first | (refine AW.runK hC ?_; intro K hK) | (refine AW.drawK hC (by kernel_rfl) ?_; intro K hK))
    | ((with_reducible first | refine erun_g ?_ | refine edraw_g ?_ | refine exitS_g ?_); refine siQ ?_; (try simp (disch := omega) only [w64, wu8]))
    | (with_reducible refine hCheck_g (by kernel_rfl) ?_)
    | ((first | (refine AW.cond rfl (fun h => ?_) (fun h => ?_)) | (refine AW.cond_ub rfl (fun h => ?_) ?_) | (refine AW.cond_nb rfl ?_ (fun h => ?_))) <;> (try replace h := boolH h) <;> (try (exfalso; first | omega | exact absurd h (by decide))))
    | (with_reducible first | refine AW.skip ?_ | refine AW.exit ?_ | refine AW.ret ?_ | refine thenS_r ?_ | refine thenS_e ?_ | refine inBlockS_r ?_ | refine inBlockS_e ?_ | refine inBlockS_e2 rfl ?_ | refine exitQ_r ?_ | refine exitQ_n ?_)
    | (refine sub_auto ?_; refine subQ ?_)
    | (with_reducible refine And.intro ?_ ?_)
    | (subst hK)
    | exact trivial
  all_goals (try (intros; assumption))
  all_goals (try refine boolG ?_)
  all_goals (try replace hp := boolH hp)
  all_goals (try replace hi := boolH hi)
  all_goals (try replace hj := boolH hj)
  all_goals (try replace hk := boolH hk)
  all_goals (try (intros; trivial))
  all_goals (try (intros; omega))
  all_goals (try (rw [w64 (by omega) (by omega)]; first | done | omega))
  all_goals clear hC
  all_goals first | omega | (simp_all [dles]; done) | exact dles_refl _
end
noncomputable def cfg11 : Cfg := ⟨Tryz.prog, 20, tab38, (fun _ _ => []), [], (fun _ => none)⟩
theorem cfg11_l : cfg11.pins = [] ∧ cfg11.P = Tryz.prog ∧ cfg11.N = 20 ∧ cfg11.ti 38 = none ∧ cfg11.T 38 = e38 ∧ cfg11.mv 38 = (fun _ => []) := ⟨rfl, rfl, rfl, rfl, rfl, rfl⟩
section
attribute [local go_sem] cfg11_l e38
attribute [local go_sem] dL_Table dM_Table List.take_length
theorem con11 (hC : COk cfg11) (ts : List Table) (hp : okTs ts) : Sem Tryz.prog 11 [.d (.sl 6 (ts.map encTable))] (.own 80 6 (ts.map encTable)) := by
  have hB : ts.length ≤ 1000000 := hp.1
  refine sem_of_awR (C := cfg11) (rs := [.tmp 2]) (fun _ => [(0, 80, 6)]) Tryz.func11 rfl rfl rfl rfl rfl rfl ?_
  refine inQ ?_
  repeat' first
    | (with_reducible first | refine thenS_n ?_ | refine inBlockS_n ?_ | refine AW.seq ?_ | refine AW.block ?_)
    | (refine AW.atR 5 rfl ?_; have hg : ∀ z, (ts.map encTable).getD i z = encTable (ts.getD i zTable) := fun z => getD_mapT (by omega) z)
    | (with_reducible first | (refine AWh.runK hC ?_; intro K hK) | (refine AWh.drawK hC (by kernel_rfl) ?_; intro K hK))
    | (with_reducible first | (refine AW.runK hC ?_; intro K hK) | (refine AW.drawK hC (by kernel_rfl) ?_; intro K hK))
    | ((with_reducible first | refine erun_g ?_ | refine edraw_g ?_ | refine exitS_g ?_); (first | (simp (maxSteps := 1000000) only [go_sem, ↓reduceIte, reduceCtorEq, Nat.reduceEqDiff, Nat.reduceLT, Nat.reduceLeDiff, Nat.reduceMul, Nat.reduceAdd, Nat.reduceSub, reduceDIte, Nat.reduceBEq, Nat.reduceBNe, hg]) | (refine siQ ?_)); (try simp (disch := omega) only [w64, wu8]))
    | (with_reducible refine hCheck_g (by kernel_rfl) ?_)
    | ((first | (refine AW.cond rfl (fun h => ?_) (fun h => ?_)) | (refine AW.cond_ub rfl (fun h => ?_) ?_) | (refine AW.cond_nb rfl ?_ (fun h => ?_))) <;> (try replace h := boolH h) <;> (try (exfalso; first | omega | exact absurd h (by decide))))
    | (with_reducible first | refine AW.skip ?_ | refine AW.exit ?_ | refine AW.ret ?_ | refine thenS_r ?_ | refine thenS_e ?_ | refine inBlockS_r ?_ | refine inBlockS_e ?_ | refine inBlockS_e2 rfl ?_ | refine exitQ_r ?_ | refine exitQ_n ?_)
    | (refine AW.loopN 3 rfl (ι := Nat) (fun i => mkS [(0, V.d (.sl 6 (ts.map encTable))), (3, V.row 48 6 0 (ts.take i).length), (4, V.d (.i .i64 (i : Int)))] ([(48, .live (.row 80 6 false ((ts.take i).map encTable)))])) (fun i => i ≤ ts.length) (fun i => ts.length - i) (0) ?_ ?_ (fun i hi => ?_) <;> (try dsimp only) <;> (try dsimp only at hi))
    | (refine LoopNext.mk1 3 (i + 1) ?_ ?_ ?_ <;> (try dsimp only))
    | (refine sub_auto ?_; refine subQ ?_)
    | (with_reducible refine And.intro ?_ ?_)
    | (subst hK)
    | exact trivial
  all_goals (try (intros; assumption))
  all_goals (try refine boolG ?_)
  all_goals (try replace hp := boolH hp)
  all_goals (try replace hi := boolH hi)
  all_goals (try replace hj := boolH hj)
  all_goals (try replace hk := boolH hk)
  all_goals (try (intros; trivial))
  all_goals (try (intros; omega))
  all_goals (try (rw [w64 (by omega) (by omega)]; first | done | omega))
  all_goals clear hC
  all_goals first
    | omega
    | exact (hp.2 i).1
    | exact (hp.2 i).2.1
    | exact (hp.2 i).2.2
    | (intro d hd; subst hd; exact ⟨rfl, by simp [D.cells, D.one]⟩)
    | (rw [take_getD zTable (by omega), List.map_append]; exact dles_refl _)
    | (rw [List.take_of_length_le (by omega)]; exact dles_refl _)
    | (rw [List.take_take, List.take_of_length_le (by omega)]; exact dles_refl _)
end
noncomputable def cfg99 : Cfg := ⟨Tryz.prog, 26, tab11, (fun _ _ => []), [], (fun _ => none)⟩
theorem cfg99_l : cfg99.pins = [] ∧ cfg99.P = Tryz.prog ∧ cfg99.N = 26 := ⟨rfl, rfl, rfl⟩
section
attribute [local go_sem] cfg99_l
theorem con99 (hC : COk cfg99) (a : List Rec) (b : List Rec) (hp : a.length ≤ 1000000) : Sem Tryz.prog 99 [.d (.sl 2 (a.map encRec)), .d (.sl 2 (b.map encRec))] (.d (.b (decide (a = b)))) := by
  refine sem_of_awR (C := cfg99) (rs := [.tmp 4]) (fun _ => []) Tryz.func99 rfl rfl rfl rfl rfl rfl ?_
  refine inQ ?_
  repeat' first
    | (with_reducible first | refine thenS_n ?_ | refine inBlockS_n ?_ | refine AW.seq ?_ | refine AW.block ?_)
    | (with_reducible first | (refine AW.runK hC ?_; intro K hK) | (refine AW.drawK hC (by kernel_rfl) ?_; intro K hK))
    | ((with_reducible first | refine erun_g ?_ | refine edraw_g ?_ | refine exitS_g ?_); refine siQ ?_; (try simp (disch := omega) only [w64, wu8]))
    | (with_reducible refine hCheck_g (by kernel_rfl) ?_)
    | ((first | (refine AW.cond rfl (fun h => ?_) (fun h => ?_)) | (refine AW.cond_ub rfl (fun h => ?_) ?_) | (refine AW.cond_nb rfl ?_ (fun h => ?_))) <;> (try replace h := boolH h) <;> (try (exfalso; first | omega | exact absurd h (by decide))))
    | (with_reducible first | refine AW.skip ?_ | refine AW.exit ?_ | refine AW.ret ?_ | refine thenS_r ?_ | refine thenS_e ?_ | refine inBlockS_r ?_ | refine inBlockS_e ?_ | refine inBlockS_e2 rfl ?_ | refine exitQ_r ?_ | refine exitQ_n ?_)
    | (refine AW.loopN 4 rfl (ι := Nat) (fun i => mkS [(0, V.d (.sl 2 (a.map encRec))), (1, V.d (.sl 2 (b.map encRec))), (5, V.d (.i .i64 (i : Int)))] ([])) (fun i => i ≤ a.length ∧ a.length = b.length ∧ a.take i = b.take i) (fun i => a.length - i) (0) ?_ ?_ (fun i hi => ?_) <;> (try dsimp only) <;> (try dsimp only at hi))
    | (refine LoopNext.mk1 4 (i + 1) ?_ ?_ ?_ <;> (try dsimp only))
    | (refine sub_auto ?_; refine subQ ?_)
    | (with_reducible refine And.intro ?_ ?_)
    | (subst hK)
    | exact trivial
  all_goals (try (intros; assumption))
  all_goals (try refine boolG ?_)
  all_goals (try replace hp := boolH hp)
  all_goals (try replace hi := boolH hi)
  all_goals (try replace hj := boolH hj)
  all_goals (try replace hk := boolH hk)
  all_goals (try (intros; trivial))
  all_goals (try (intros; omega))
  all_goals (try (rw [w64 (by omega) (by omega)]; first | done | omega))
  all_goals clear hC
  all_goals first
    | rfl
    | omega
    | (intro e; subst e; exact h rfl)
    | (intro e; subst e; simp at h; done)
    | (intro e; rw [e] at h; simp at h; done)
    | exact take_eq_end hi.2.2 (by omega) (by omega)
    | exact take_eq_step hi.2.2 (by omega) (by omega) (by assumption)
    | (simp only [decide_eq_true_eq]; exact take_eq_end hi.2.2 (by omega) (by omega))
    | exact h.1
    | exact h.1.1.1
    | exact h.1.1.2
    | exact h.1.2
    | exact hi.2.1.1
    | exact hi.2.1.2.1
    | exact hi.2.1.2.2.1
    | exact fmt_eq hi.2.1.1 (take_eq_end hi.2.2 (by omega) (by omega))
    | exact file_eq hi.2.1.1 hi.2.1.2.1 hi.2.1.2.2.1 (take_eq_end hi.2.2 (by omega) (by omega))
    | exact hp.1
    | exact hp.2.1
    | exact fun _ => hp.2.2
    | exact table_dec a b
end
noncomputable def cfg126 : Cfg := ⟨Tryz.prog, 38, tab99, (fun _ _ => []), [], (fun _ => none)⟩
theorem cfg126_l : cfg126.pins = [] ∧ cfg126.P = Tryz.prog ∧ cfg126.N = 38 := ⟨rfl, rfl, rfl⟩
section
attribute [local go_sem] cfg126_l
theorem con126 (hC : COk cfg126) (a : Fmt) (b : Fmt) (hp : a.fields.length ≤ 1000000) : Sem Tryz.prog 126 [.d (encFmt a), .d (encFmt b)] (.d (.b (decide (a = b)))) := by
  refine sem_of_awR (C := cfg126) (rs := [.tmp 4]) (fun _ => []) Tryz.func126 rfl rfl rfl rfl rfl rfl ?_
  refine inQ ?_
  repeat' first
    | (with_reducible first | refine thenS_n ?_ | refine inBlockS_n ?_ | refine AW.seq ?_ | refine AW.block ?_)
    | (with_reducible first | (refine AW.runK hC ?_; intro K hK) | (refine AW.drawK hC (by kernel_rfl) ?_; intro K hK))
    | ((with_reducible first | refine erun_g ?_ | refine edraw_g ?_ | refine exitS_g ?_); refine siQ ?_; (try simp (disch := omega) only [w64, wu8]))
    | (with_reducible refine hCheck_g (by kernel_rfl) ?_)
    | ((first | (refine AW.cond rfl (fun h => ?_) (fun h => ?_)) | (refine AW.cond_ub rfl (fun h => ?_) ?_) | (refine AW.cond_nb rfl ?_ (fun h => ?_))) <;> (try replace h := boolH h) <;> (try (exfalso; first | omega | exact absurd h (by decide))))
    | (with_reducible first | refine AW.skip ?_ | refine AW.exit ?_ | refine AW.ret ?_ | refine thenS_r ?_ | refine thenS_e ?_ | refine inBlockS_r ?_ | refine inBlockS_e ?_ | refine inBlockS_e2 rfl ?_ | refine exitQ_r ?_ | refine exitQ_n ?_)
    | (refine AW.loopN 4 rfl (ι := Nat) (fun i => mkS [(2, V.ptr 32 0), (3, V.ptr 48 0), (5, V.d (.i .i64 (i : Int)))] ([(32, .live (.box 74 [.d (.s a.name), .d (.sl 4 (a.fields.map encField))])), (48, .live (.box 74 [.d (.s b.name), .d (.sl 4 (b.fields.map encField))]))])) (fun i => i ≤ a.fields.length ∧ (a.name = b.name ∧ a.fields.length = b.fields.length) ∧ a.fields.take i = b.fields.take i) (fun i => a.fields.length - i) (0) ?_ ?_ (fun i hi => ?_) <;> (try dsimp only) <;> (try dsimp only at hi))
    | (refine LoopNext.mk1 4 (i + 1) ?_ ?_ ?_ <;> (try dsimp only))
    | (refine sub_auto ?_; refine subQ ?_)
    | (with_reducible refine And.intro ?_ ?_)
    | (subst hK)
    | exact trivial
  all_goals (try (intros; assumption))
  all_goals (try refine boolG ?_)
  all_goals (try replace hp := boolH hp)
  all_goals (try replace hi := boolH hi)
  all_goals (try replace hj := boolH hj)
  all_goals (try replace hk := boolH hk)
  all_goals (try (intros; trivial))
  all_goals (try (intros; omega))
  all_goals (try (rw [w64 (by omega) (by omega)]; first | done | omega))
  all_goals clear hC
  all_goals first
    | rfl
    | omega
    | (intro e; subst e; exact h rfl)
    | (intro e; subst e; simp at h; done)
    | (intro e; rw [e] at h; simp at h; done)
    | exact take_eq_end hi.2.2 (by omega) (by omega)
    | exact take_eq_step hi.2.2 (by omega) (by omega) (by assumption)
    | (simp only [decide_eq_true_eq]; exact take_eq_end hi.2.2 (by omega) (by omega))
    | exact h.1
    | exact h.1.1.1
    | exact h.1.1.2
    | exact h.1.2
    | exact hi.2.1.1
    | exact hi.2.1.2.1
    | exact hi.2.1.2.2.1
    | exact fmt_eq hi.2.1.1 (take_eq_end hi.2.2 (by omega) (by omega))
    | exact file_eq hi.2.1.1 hi.2.1.2.1 hi.2.1.2.2.1 (take_eq_end hi.2.2 (by omega) (by omega))
    | exact hp.1
    | exact hp.2.1
    | exact fun _ => hp.2.2
    | exact table_dec a b
end
noncomputable def cfg98 : Cfg := ⟨Tryz.prog, 53, tab126, (fun _ _ => []), [], (fun _ => none)⟩
theorem cfg98_l : cfg98.pins = [] ∧ cfg98.P = Tryz.prog ∧ cfg98.N = 53 ∧ cfg98.ti 126 = none ∧ cfg98.T 126 = e126 ∧ cfg98.mv 126 = (fun _ => []) := ⟨rfl, rfl, rfl, rfl, rfl, rfl⟩
section
attribute [local go_sem] cfg98_l e126
theorem con98 (hC : COk cfg98) (a : File) (b : File) (hp : a.format.fields.length ≤ 1000000 ∧ a.keys.length ≤ 1000000) : Sem Tryz.prog 98 [.d (encFile a), .d (encFile b)] (.d (.b (decide (a = b)))) := by
  refine sem_of_awR (C := cfg98) (rs := [.tmp 4]) (fun _ => []) Tryz.func98 rfl rfl rfl rfl rfl rfl ?_
  refine inQ ?_
  repeat' first
    | (with_reducible first | refine thenS_n ?_ | refine inBlockS_n ?_ | refine AW.seq ?_ | refine AW.block ?_)
    | (with_reducible first | (refine AW.runK hC ?_; intro K hK) | (refine AW.drawK hC (by kernel_rfl) ?_; intro K hK))
    | ((with_reducible first | refine erun_g ?_ | refine edraw_g ?_ | refine exitS_g ?_); refine siQ ?_; (try simp (disch := omega) only [w64, wu8]))
    | (with_reducible refine hCheck_g (by kernel_rfl) ?_)
    | ((first | (refine AW.cond rfl (fun h => ?_) (fun h => ?_)) | (refine AW.cond_ub rfl (fun h => ?_) ?_) | (refine AW.cond_nb rfl ?_ (fun h => ?_))) <;> (try replace h := boolH h) <;> (try (exfalso; first | omega | exact absurd h (by decide))))
    | (with_reducible first | refine AW.skip ?_ | refine AW.exit ?_ | refine AW.ret ?_ | refine thenS_r ?_ | refine thenS_e ?_ | refine inBlockS_r ?_ | refine inBlockS_e ?_ | refine inBlockS_e2 rfl ?_ | refine exitQ_r ?_ | refine exitQ_n ?_)
    | (refine AW.loopN 4 rfl (ι := Nat) (fun i => mkS [(2, V.ptr 32 0), (3, V.ptr 48 0), (5, V.d (.i .i64 (i : Int)))] ([(32, .live (.box 77 [.d (.s a.name), .d (.s a.format.name), .d (.sl 4 (a.format.fields.map encField)), .d (.sl 2 (a.keys.map encKField)), .d (.b a.unique)])), (48, .live (.box 77 [.d (.s b.name), .d (.s b.format.name), .d (.sl 4 (b.format.fields.map encField)), .d (.sl 2 (b.keys.map encKField)), .d (.b b.unique)]))])) (fun i => i ≤ a.keys.length ∧ (a.name = b.name ∧ a.unique = b.unique ∧ a.format = b.format ∧ a.keys.length = b.keys.length) ∧ a.keys.take i = b.keys.take i) (fun i => a.keys.length - i) (0) ?_ ?_ (fun i hi => ?_) <;> (try dsimp only) <;> (try dsimp only at hi))
    | (refine LoopNext.mk1 4 (i + 1) ?_ ?_ ?_ <;> (try dsimp only))
    | (refine sub_auto ?_; refine subQ ?_)
    | (with_reducible refine And.intro ?_ ?_)
    | (subst hK)
    | exact trivial
  all_goals (try (intros; assumption))
  all_goals (try refine boolG ?_)
  all_goals (try replace hp := boolH hp)
  all_goals (try replace hi := boolH hi)
  all_goals (try replace hj := boolH hj)
  all_goals (try replace hk := boolH hk)
  all_goals (try (intros; trivial))
  all_goals (try (intros; omega))
  all_goals (try (rw [w64 (by omega) (by omega)]; first | done | omega))
  all_goals clear hC
  all_goals first
    | rfl
    | omega
    | (intro e; subst e; exact h rfl)
    | (intro e; subst e; simp at h; done)
    | (intro e; rw [e] at h; simp at h; done)
    | exact take_eq_end hi.2.2 (by omega) (by omega)
    | exact take_eq_step hi.2.2 (by omega) (by omega) (by assumption)
    | (simp only [decide_eq_true_eq]; exact take_eq_end hi.2.2 (by omega) (by omega))
    | exact h.1
    | exact h.1.1.1
    | exact h.1.1.2
    | exact h.1.2
    | exact hi.2.1.1
    | exact hi.2.1.2.1
    | exact hi.2.1.2.2.1
    | exact fmt_eq hi.2.1.1 (take_eq_end hi.2.2 (by omega) (by omega))
    | exact file_eq hi.2.1.1 hi.2.1.2.1 hi.2.1.2.2.1 (take_eq_end hi.2.2 (by omega) (by omega))
    | exact hp.1
    | exact hp.2.1
    | exact fun _ => hp.2.2
    | exact table_dec a b
end
noncomputable def cfg78 : Cfg := ⟨Tryz.prog, 17, tab98, (fun _ _ => []), [], (fun _ => none)⟩
theorem cfg78_l : cfg78.pins = [] ∧ cfg78.P = Tryz.prog ∧ cfg78.N = 17 ∧ cfg78.ti 98 = none ∧ cfg78.T 98 = e98 ∧ cfg78.mv 98 = (fun _ => []) ∧ cfg78.ti 99 = none ∧ cfg78.T 99 = e99 ∧ cfg78.mv 99 = (fun _ => []) := ⟨rfl, rfl, rfl, rfl, rfl, rfl, rfl, rfl, rfl⟩
section
attribute [local go_sem] cfg78_l e98 e99
theorem con78 (hC : COk cfg78) (a : Table) (b : Table) (hp : okT a) : Sem Tryz.prog 78 [.d (encTable a), .d (encTable b)] (.d (.b (decide (a = b)))) := by
  refine sem_of_awR (C := cfg78) (rs := [.tmp 4]) (fun _ => []) Tryz.func78 rfl rfl rfl rfl rfl rfl ?_
  refine inQ ?_
  repeat' first
    | (with_reducible first | refine thenS_n ?_ | refine inBlockS_n ?_ | refine AW.seq ?_ | refine AW.block ?_)
    | (with_reducible first | (refine AW.runK hC ?_; intro K hK) | (refine AW.drawK hC (by kernel_rfl) ?_; intro K hK))
    | ((with_reducible first | refine erun_g ?_ | refine edraw_g ?_ | refine exitS_g ?_); refine siQ ?_; (try simp (disch := omega) only [w64, wu8]))
    | (with_reducible refine hCheck_g (by kernel_rfl) ?_)
    | ((first | (refine AW.cond rfl (fun h => ?_) (fun h => ?_)) | (refine AW.cond_ub rfl (fun h => ?_) ?_) | (refine AW.cond_nb rfl ?_ (fun h => ?_))) <;> (try replace h := boolH h) <;> (try (exfalso; first | omega | exact absurd h (by decide))))
    | (with_reducible first | refine AW.skip ?_ | refine AW.exit ?_ | refine AW.ret ?_ | refine thenS_r ?_ | refine thenS_e ?_ | refine inBlockS_r ?_ | refine inBlockS_e ?_ | refine inBlockS_e2 rfl ?_ | refine exitQ_r ?_ | refine exitQ_n ?_)
    | (refine sub_auto ?_; refine subQ ?_)
    | (with_reducible refine And.intro ?_ ?_)
    | (subst hK)
    | exact trivial
  all_goals (try (intros; assumption))
  all_goals (try refine boolG ?_)
  all_goals (try replace hp := boolH hp)
  all_goals (try replace hi := boolH hi)
  all_goals (try replace hj := boolH hj)
  all_goals (try replace hk := boolH hk)
  all_goals (try (intros; trivial))
  all_goals (try (intros; omega))
  all_goals (try (rw [w64 (by omega) (by omega)]; first | done | omega))
  all_goals clear hC
  all_goals first
    | rfl
    | omega
    | (intro e; subst e; exact h rfl)
    | (intro e; subst e; simp at h; done)
    | (intro e; rw [e] at h; simp at h; done)
    | exact take_eq_end hi.2.2 (by omega) (by omega)
    | exact take_eq_step hi.2.2 (by omega) (by omega) (by assumption)
    | (simp only [decide_eq_true_eq]; exact take_eq_end hi.2.2 (by omega) (by omega))
    | exact h.1
    | exact h.1.1.1
    | exact h.1.1.2
    | exact h.1.2
    | exact hi.2.1.1
    | exact hi.2.1.2.1
    | exact hi.2.1.2.2.1
    | exact fmt_eq hi.2.1.1 (take_eq_end hi.2.2 (by omega) (by omega))
    | exact file_eq hi.2.1.1 hi.2.1.2.1 hi.2.1.2.2.1 (take_eq_end hi.2.2 (by omega) (by omega))
    | exact hp.1
    | exact hp.2.1
    | exact fun _ => hp.2.2
    | exact table_dec a b
end
noncomputable def cfg64 : Cfg := ⟨Tryz.prog, 7, tab78, (fun _ _ => []), [], (fun _ => none)⟩
theorem cfg64_l : cfg64.pins = [] ∧ cfg64.P = Tryz.prog ∧ cfg64.N = 7 := ⟨rfl, rfl, rfl⟩
section
attribute [local go_sem] cfg64_l
theorem con64 (hC : COk cfg64) (f : Fmt) : Sem Tryz.prog 64 [.d (encFmt f)] (.d (.b (decide ((f.fields.length : Int) ≤ 22)))) := by
  refine sem_of_awR (C := cfg64) (rs := [.tmp 2]) (fun _ => []) Tryz.func64 rfl rfl rfl rfl rfl rfl ?_
  refine inQ ?_
  repeat' first
    | (with_reducible first | refine thenS_n ?_ | refine inBlockS_n ?_ | refine AW.seq ?_ | refine AW.block ?_)
    | (with_reducible first | (refine AW.runK hC ?_; intro K hK) | (refine AW.drawK hC (by kernel_rfl) ?_; intro K hK))
    | ((with_reducible first | refine erun_g ?_ | refine edraw_g ?_ | refine exitS_g ?_); refine siQ ?_; (try simp (disch := omega) only [w64, wu8]))
    | (with_reducible refine hCheck_g (by kernel_rfl) ?_)
    | ((first | (refine AW.cond rfl (fun h => ?_) (fun h => ?_)) | (refine AW.cond_ub rfl (fun h => ?_) ?_) | (refine AW.cond_nb rfl ?_ (fun h => ?_))) <;> (try replace h := boolH h) <;> (try (exfalso; first | omega | exact absurd h (by decide))))
    | (with_reducible first | refine AW.skip ?_ | refine AW.exit ?_ | refine AW.ret ?_ | refine thenS_r ?_ | refine thenS_e ?_ | refine inBlockS_r ?_ | refine inBlockS_e ?_ | refine inBlockS_e2 rfl ?_ | refine exitQ_r ?_ | refine exitQ_n ?_)
    | (refine sub_auto ?_; refine subQ ?_)
    | (with_reducible refine And.intro ?_ ?_)
    | (subst hK)
    | exact trivial
  all_goals (try (intros; assumption))
  all_goals (try refine boolG ?_)
  all_goals (try replace hp := boolH hp)
  all_goals (try replace hi := boolH hi)
  all_goals (try replace hj := boolH hj)
  all_goals (try replace hk := boolH hk)
  all_goals (try (intros; trivial))
  all_goals (try (intros; omega))
  all_goals (try (rw [w64 (by omega) (by omega)]; first | done | omega))
end
noncomputable def cfg43 : Cfg := ⟨Tryz.prog, 27, tab64, (fun _ _ => []), [], (fun _ => none)⟩
theorem cfg43_l : cfg43.pins = [] ∧ cfg43.P = Tryz.prog ∧ cfg43.N = 27 ∧ cfg43.ti 78 = none ∧ cfg43.T 78 = e78 ∧ cfg43.mv 78 = (fun _ => []) := ⟨rfl, rfl, rfl, rfl, rfl, rfl⟩
section
attribute [local go_sem] cfg43_l e78
attribute [local go_sem] dL_Table dM_Table
theorem con43 (hC : COk cfg43) (a : List Table) (b : List Table) (hp : okTs a) : Sem Tryz.prog 43 [.d (.sl 6 (a.map encTable)), .d (.sl 6 (b.map encTable))] (.d (.b (decide (a = b)))) := by
  have hB : a.length ≤ 1000000 := hp.1
  refine sem_of_awR (C := cfg43) (rs := [.tmp 4]) (fun _ => []) Tryz.func43 rfl rfl rfl rfl rfl rfl ?_
  refine inQ ?_
  repeat' first
    | (with_reducible first | refine thenS_n ?_ | refine inBlockS_n ?_ | refine AW.seq ?_ | refine AW.block ?_)
    | (refine AW.atR 6 rfl ?_; have hga : ∀ z, (a.map encTable).getD i z = encTable (a.getD i zTable) := fun z => getD_mapT (by omega) z; have hgb : ∀ z, (b.map encTable).getD i z = encTable (b.getD i zTable) := fun z => getD_mapT (by omega) z)
    | (with_reducible first | (refine AWh.runK hC ?_; intro K hK) | (refine AWh.drawK hC (by kernel_rfl) ?_; intro K hK))
    | (with_reducible first | (refine AW.runK hC ?_; intro K hK) | (refine AW.drawK hC (by kernel_rfl) ?_; intro K hK))
    | ((with_reducible first | refine erun_g ?_ | refine edraw_g ?_ | refine exitS_g ?_); (first | (simp (maxSteps := 1000000) only [go_sem, ↓reduceIte, reduceCtorEq, Nat.reduceEqDiff, Nat.reduceLT, Nat.reduceLeDiff, Nat.reduceMul, Nat.reduceAdd, Nat.reduceSub, reduceDIte, Nat.reduceBEq, Nat.reduceBNe, hga, hgb]) | (refine siQ ?_)); (try simp (disch := omega) only [w64, wu8]))
    | (with_reducible refine hCheck_g (by kernel_rfl) ?_)
    | ((first | (refine AW.cond rfl (fun h => ?_) (fun h => ?_)) | (refine AW.cond_ub rfl (fun h => ?_) ?_) | (refine AW.cond_nb rfl ?_ (fun h => ?_))) <;> (try replace h := boolH h) <;> (try (exfalso; first | omega | exact absurd h (by decide))))
    | (with_reducible first | refine AW.skip ?_ | refine AW.exit ?_ | refine AW.ret ?_ | refine thenS_r ?_ | refine thenS_e ?_ | refine inBlockS_r ?_ | refine inBlockS_e ?_ | refine inBlockS_e2 rfl ?_ | refine exitQ_r ?_ | refine exitQ_n ?_)
    | (refine AW.loopN 4 rfl (ι := Nat) (fun i => mkS [(0, V.d (.sl 6 (a.map encTable))), (1, V.d (.sl 6 (b.map encTable))), (5, V.d (.i .i64 (i : Int)))] ([])) (fun i => i ≤ a.length ∧ a.length = b.length ∧ a.take i = b.take i) (fun i => a.length - i) (0) ?_ ?_ (fun i hi => ?_) <;> (try dsimp only) <;> (try dsimp only at hi))
    | (refine LoopNext.mk1 4 (i + 1) ?_ ?_ ?_ <;> (try dsimp only))
    | (refine sub_auto ?_; refine subQ ?_)
    | (with_reducible refine And.intro ?_ ?_)
    | (subst hK)
    | exact trivial
  all_goals (try (intros; assumption))
  all_goals (try refine boolG ?_)
  all_goals (try replace hp := boolH hp)
  all_goals (try replace hi := boolH hi)
  all_goals (try replace hj := boolH hj)
  all_goals (try replace hk := boolH hk)
  all_goals (try (intros; trivial))
  all_goals (try (intros; omega))
  all_goals (try (rw [w64 (by omega) (by omega)]; first | done | omega))
  all_goals clear hC
  all_goals first
    | rfl
    | omega
    | (intro e; subst e; exact h rfl)
    | (intro e; subst e; simp at h; done)
    | (intro e; rw [e] at h; simp at h; done)
    | exact take_eq_end hi.2.2 (by omega) (by omega)
    | exact take_eq_step hi.2.2 (by omega) (by omega) (by assumption)
    | (simp only [decide_eq_true_eq]; exact take_eq_end hi.2.2 (by omega) (by omega))
    | exact h.1
    | exact h.1.1.1
    | exact h.1.1.2
    | exact h.1.2
    | exact hi.2.1.1
    | exact hi.2.1.2.1
    | exact hi.2.1.2.2.1
    | exact fmt_eq hi.2.1.1 (take_eq_end hi.2.2 (by omega) (by omega))
    | exact file_eq hi.2.1.1 hi.2.1.2.1 hi.2.1.2.2.1 (take_eq_end hi.2.2 (by omega) (by omega))
    | exact (hp.2 i).1
    | exact (hp.2 i).2.1
    | exact (hp.2 i).2.2
    | exact hp.2 i
    | exact hp.1
    | exact hp.2.1
    | exact fun _ => hp.2.2
    | exact table_dec a b
end
noncomputable def cfg32 : Cfg := ⟨Tryz.prog, 62, tab43, (fun _ _ => []), [], (fun _ => none)⟩
theorem cfg32_l : cfg32.pins = [] ∧ cfg32.P = Tryz.prog ∧ cfg32.N = 62 ∧ cfg32.ti 64 = none ∧ cfg32.T 64 = e64 ∧ cfg32.mv 64 = (fun _ => []) := ⟨rfl, rfl, rfl, rfl, rfl, rfl⟩
section
attribute [local go_sem] cfg32_l e64
attribute [local go_sem] dL_Table dM_Table
theorem con32 (hC : COk cfg32) (l : List Table) : Sem Tryz.prog 32 [.d (.sl 6 (l.map encTable))] (.d (.b (fewTs l))) := by
  refine sem_of_awR (C := cfg32) (rs := [.tmp 2]) (fun _ => []) Tryz.func32 rfl rfl rfl rfl rfl rfl ?_
  refine inQ ?_
  repeat' first
    | (with_reducible first | refine thenS_n ?_ | refine inBlockS_n ?_ | refine AW.seq ?_ | refine AW.block ?_)
    | (refine AW.atR 6 rfl ?_; have hg : ∀ z, (l.map encTable).getD i z = encTable (l.getD i zTable) := fun z => getD_mapT (by omega) z)
    | (with_reducible first | (refine AWh.runK hC ?_; intro K hK) | (refine AWh.drawK hC (by kernel_rfl) ?_; intro K hK))
    | (with_reducible first | (refine AW.runK hC ?_; intro K hK) | (refine AW.drawK hC (by kernel_rfl) ?_; intro K hK))
    | ((with_reducible first | refine erun_g ?_ | refine edraw_g ?_ | refine exitS_g ?_); (first | (simp (maxSteps := 1000000) only [go_sem, ↓reduceIte, reduceCtorEq, Nat.reduceEqDiff, Nat.reduceLT, Nat.reduceLeDiff, Nat.reduceMul, Nat.reduceAdd, Nat.reduceSub, reduceDIte, Nat.reduceBEq, Nat.reduceBNe, hg]) | (refine siQ ?_)); (try simp (disch := omega) only [w64, wu8]))
    | (with_reducible refine hCheck_g (by kernel_rfl) ?_)
    | ((first | (refine AW.cond rfl (fun h => ?_) (fun h => ?_)) | (refine AW.cond_ub rfl (fun h => ?_) ?_) | (refine AW.cond_nb rfl ?_ (fun h => ?_))) <;> (try replace h := boolH h) <;> (try (exfalso; first | omega | exact absurd h (by decide))))
    | (with_reducible first | refine AW.skip ?_ | refine AW.exit ?_ | refine AW.ret ?_ | refine thenS_r ?_ | refine thenS_e ?_ | refine inBlockS_r ?_ | refine inBlockS_e ?_ | refine inBlockS_e2 rfl ?_ | refine exitQ_r ?_ | refine exitQ_n ?_)
    | (refine AW.loopN 4 rfl (ι := Nat) (fun i => mkS [(0, V.d (.sl 6 (l.map encTable))), (3, V.d (.i .i64 (i : Int)))] ([])) (fun i => i ≤ l.length ∧ (l.length : Int) ≤ 10 ∧ ∀ j, j < i → tabBig l j = 0) (fun i => l.length - i) (0) ?_ ?_ (fun i hi => ?_) <;> (try dsimp only) <;> (try dsimp only at hi))
    | (refine LoopNext.mk1 4 (i + 1) ?_ ?_ ?_ <;> (try dsimp only))
    | (refine AW.loopN 9 rfl (ι := Nat) (fun k => mkS [(0, V.d (.sl 6 (l.map encTable))), (3, V.d (.i .i64 (i : Int))), (4, V.d (.i .i64 (k : Int)))] ([])) (fun k => k ≤ (l.getD i zTable).records.length ∧ ¬headBig (l.getD i zTable) ∧ ∀ j, j < k → recBig (l.getD i zTable) j = 0) (fun k => (l.getD i zTable).records.length - k) (0) ?_ ?_ (fun k hk => ?_) <;> (try dsimp only) <;> (try dsimp only at hk))
    | (refine LoopNext.mk1 9 (k + 1) ?_ ?_ ?_ <;> (try dsimp only))
    | (refine sub_auto ?_; refine subQ ?_)
    | (with_reducible refine And.intro ?_ ?_)
    | (subst hK)
    | exact trivial
  all_goals (try (intros; assumption))
  all_goals (try refine boolG ?_)
  all_goals (try replace hp := boolH hp)
  all_goals (try replace hi := boolH hi)
  all_goals (try replace hj := boolH hj)
  all_goals (try replace hk := boolH hk)
  all_goals (try (intros; trivial))
  all_goals (try (intros; omega))
  all_goals (try (rw [w64 (by omega) (by omega)]; first | done | omega))
  all_goals clear hC
  all_goals first
    | omega
    | rfl
    | (unfold headBig; omega)
    | (rw [few_many (by assumption)]; done)
    | (rw [few_bad hi.2.1 hi.2.2 (by omega) (tabBig_head (by unfold headBig; omega))]; done)
    | (rw [few_bad hi.2.1 hi.2.2 (by omega) (tabBig_rec hk.2.2 (by omega) (by assumption))]; done)
    | (rw [few_end hi.2.1 hi.2.2 (by omega)]; done)
    | exact all_step hk.2.2 (recBig_no (by assumption))
    | exact all_step hi.2.2 (tabBig_end hk.2.1 hk.2.2 (by omega))
    | (have := hk.2.1; unfold headBig at this; omega)
end
end Go.Ev
