/- Tools and contracts under the laws of this seat: Dyc9 to Dyc193. -/
import Derived.Test.YtkgkgcojfocomaaGreatE09
set_option linter.unusedVariables false
set_option linter.unusedSimpArgs false
namespace Go.Ev
open Go.Proofs Ty
set_option maxRecDepth 10000
set_option maxHeartbeats 4000000
set_option linter.unusedSimpArgs false
set_option linter.unusedVariables false
attribute [local go_sem] erun_nil erun_cons edraw_eq edrun_nil edrun_cons e1_n e1_g guardSlot_eq lkAll_tmp lkAll_nil lkAll_const lkAll_func val_tmp val_const val_func aget getBox_mk getRow_mk liveRow_mk hp_mk eU_move_n eU_assign_n eU_move eU_assign eU_pick eU_alloc eU_box eU_load eU_store eU_nilCheck eU_binOp eU_unOp eU_fieldAddr eU_field eU_indexAddr eU_index eU_build eU_buildSlice eU_slice eU_extract eU_makeFunc eU_builtin eU_call eU_callv V.cells V.one D.one D.cells newObj nm HS.isFree HS.isLive andOk_some andOk_none List.map_cons List.map_nil Option.bind_some Option.bind_none putL List.cons_append List.nil_append thenS_normal thenS_ret thenS_exit inBlockS_normal inBlockS_ret inBlockS_exit true_and and_true justV justO cval Option.map_some Option.map_none loadAt storeAt ldV ldD mkAgg V.asD spliceL List.take_succ_cons List.take_zero List.drop_succ_cons List.drop_zero List.getElem?_cons_zero List.getElem?_cons_succ List.getElem?_nil List.all_cons List.all_nil Bool.and_true Bool.true_and Bool.and_self List.length_cons List.length_nil vals aopCall argsO argO toD3 toD2 toD1 toDs O.ok O.ok2 O.ok1 O.flat O.flat1 D.flat D.flatA inO inO2 inO1 inOs List.filterMap_nil List.filterMap_cons List.filter_nil List.filter_cons List.nodup_nil decide_true decide_false Bool.not_true Bool.not_false not_true_eq_false not_false_eq_true or_false false_or and_false false_and ne_eq List.append_nil optB guardQ guardRes beq_self_eq_true List.mapM_cons List.mapM_nil Option.pure_def Option.bind_eq_bind true_or or_true or_self callHp ite_self not_true not_false_iff ite_true ite_false if_true if_false Bool.false_eq_true Bool.true_eq_false List.any_nil List.any_cons List.contains_nil List.contains_cons eq_self aopAppend builtinV elems aopBin nilEqS nilEqP aopSlice bound natOf lenOf binD intBin unD bindEq eU_makeMap eU_convert eU_makeSlice aopConv aopMake isShift shiftD eU_lookup eU_mapUpdate getMp_mk List.range_zero Nat.zero_le Nat.zero_mul Nat.zero_add Nat.add_zero List.length_append List.take_length List.isEmpty_nil List.isEmpty_cons V.neg List.flatMap_nil and_self List.range_succ forall_const implies_true Nat.not_lt_zero exitQ_normal exitQ_ret exitS_eq exitO resVs resV_tmp resV_cell takeRow argCells mvAt dle_same dles_same ole_same ole oles dle dles List.nodup_cons List.mem_cons List.not_mem_nil List.drop_length Nat.le_refl Nat.lt_irrefl id_eq Option.some.injEq Bool.or_false Bool.false_or Bool.or_self Bool.or_true Bool.true_or false_implies Bool.and_false Bool.false_and List.reverse_cons List.reverse_nil sh1 mget1 mget aopLookup aopMapUpdate mapOf msetK msetV Option.isSome_some Option.isSome_none Bool.cond_true_left Bool.cond_false_right Bool.cond_true_right Bool.cond_false_left beq_true beq_false Bool.not_not imp_self guardVal notB strBin aopSliceS buildV argOk D.splice kEq Option.toList_some Option.toList_none adel List.getD_cons_zero List.getD_cons_succ bxIds bxId backHp hget one1 aopCall0 aopTurn
attribute [local go_sem] sz3 ag3 zr3 zo3 zd3 by3 sl3 st3 bo3 pt3 ck3 sz4 ag4 zr4 zo4 zd4 by4 sl4 st4 bo4 pt4 sz9 ag9 zr9 zo9 zd9 by9 sl9 un9 st9 bo9 pt9 ck9 sz22 ag22 zr22 zo22 zd22 by22 el22 sl22 un22 st22 bo22 pt22 sz23 ag23 zr23 zo23 zd23 by23 el23 sl23 un23 st23 bo23 pt23 sz48 ag48 zr48 zd48 by48 sl48 st48 bo48 pt48 of48_0 fa48_0 of48_1 fa48_1 of48_2 fa48_2 of48_3 fa48_3 of48_4 fa48_4 pl48 ek48 sz50 ag50 zr50 zd50 by50 sl50 st50 bo50 pt50 of50_0 fa50_0 of50_1 fa50_1 of50_2 fa50_2 of50_3 fa50_3 pl50 ek50 sz72 ag72 zr72 zo72 zd72 by72 el72 sl72 un72 st72 bo72 pt72 sz74 ag74 zr74 zd74 by74 sl74 st74 bo74 pt74 of74_0 fa74_0 of74_1 fa74_1 pl74 sz75 ag75 zr75 zo75 zd75 by75 el75 sl75 un75 st75 bo75 pt75 sz77 ag77 zr77 zd77 by77 sl77 st77 bo77 pt77 of77_0 fa77_0 of77_1 fa77_1 of77_2 fa77_2 of77_3 fa77_3 pl77 sz78 ag78 zr78 zo78 zd78 by78 el78 sl78 un78 st78 bo78 pt78 sz80 ag80 zr80 zd80 by80 sl80 st80 bo80 pt80 of80_0 fa80_0 of80_1 fa80_1 pl80 sz104 ag104 zr104 zd104 by104 sl104 st104 bo104 pt104 of104_0 fa104_0 of104_1 fa104_1 pl104 ek104 sz108 ag108 zr108 zd108 by108 sl108 st108 bo108 pt108 of108_0 fa108_0 of108_1 fa108_1 of108_2 fa108_2 pl108 ek108 sz110 ag110 zr110 zd110 by110 sl110 st110 bo110 pt110 of110_0 fa110_0 of110_1 fa110_1 pl110 ek110 sz113 ag113 zr113 zd113 by113 sl113 st113 bo113 pt113 of113_0 fa113_0 of113_1 fa113_1 pl113 ek113 nc0 sz5 ag5 zr5 zo5 zd5 by5 sl5 st5 bo5 pt5 ck5 sz212 ag212 zr212 zd212 by212 sl212 st212 bo212 pt212 of212_0 fa212_0 of212_1 fa212_1 pl212 ek212
noncomputable def cfg9 : Cfg := ⟨Tryz.prog, 11, tab32, (fun _ _ => []), [], (fun _ => none)⟩
theorem cfg9_l : cfg9.pins = [] ∧ cfg9.P = Tryz.prog ∧ cfg9.N = 11 ∧ cfg9.ti 32 = none ∧ cfg9.T 32 = e32 ∧ cfg9.mv 32 = (fun _ => []) ∧ cfg9.ti 33 = none ∧ cfg9.T 33 = e33 ∧ cfg9.mv 33 = (fun _ => []) := ⟨rfl, rfl, rfl, rfl, rfl, rfl, rfl, rfl, rfl⟩
section
attribute [local go_sem] cfg9_l e32 e33
attribute [local go_sem] encDType decDType etaDType zfDType encVal decVal etaVal zfVal Int.toNat_natCast chr_eq dL_int dM_int getDz_int decL_sl decM_cons decM_nil decI List.length_map bytesD_len bytesD_get encField decField etaField zfField encFmt decFmt etaFmt zfFmt encKField decKField etaKField zfKField encFile decFile etaFile zfFile encRec decRec etaRec zfRec getDz_Field getDz_KField getDz_Rec dL_Field dL_KField dL_Rec dM_Field dM_KField dM_Rec ceqField ceqKField ceqRec List.length_take decL_nil Int.toNat_zero Nat.sub_zero List.drop_zero encTable decTable etaTable zfTable encChange decChange etaChange zfChange dL_Change dM_Change List.length_set Nat.le_refl dL_Table dM_Table encEntry decEntry etaEntry zfEntry getDz_Entry dL_Entry dM_Entry
attribute [local go_sem ←] List.map_take List.map_drop
theorem con9 (hC : COk cfg9) (ts : List Table) (l : List Entry) : Sem Tryz.prog 9 [.d (.sl 6 (ts.map encTable)), .d (.sl 8 (l.map encEntry))] (.d (.b (fewTs ts && few35 l))) := by
  refine sem_of_awR (C := cfg9) (rs := [.tmp 4]) (fun _ => []) Tryz.func9 rfl rfl rfl rfl rfl rfl ?_
  refine inQ ?_
  repeat' first
    | (with_reducible first | refine thenS_n ?_ | refine inBlockS_n ?_ | refine AW.seq ?_ | refine AW.block ?_)
    | (with_reducible first | (refine AW.runK hC ?_; intro K hK) | (refine AW.drawK hC (by kernel_rfl) ?_; intro K hK))
    | ((with_reducible first | refine erun_g ?_ | refine edraw_g ?_ | refine exitS_g ?_); refine siQ ?_; (try simp (disch := omega) only [w64, wu8]))
    | (with_reducible refine hCheck_g (by kernel_rfl) ?_)
    | ((first | (refine AW.cond rfl (fun h => ?_) (fun h => ?_)) | (refine AW.cond_ub rfl (fun h => ?_) ?_) | (refine AW.cond_nb rfl ?_ (fun h => ?_))) <;> (try replace h := boolH h) <;> (try (exfalso; first | omega | exact absurd h (by decide))))
    | (with_reducible first | refine AW.skip ?_ | refine AW.exit ?_ | refine AW.ret ?_ | refine thenS_r ?_ | refine thenS_e ?_ | refine inBlockS_r ?_ | refine inBlockS_e ?_ | refine inBlockS_e2 rfl ?_ | refine exitQ_r ?_ | refine exitQ_n ?_)
    | (refine sub_auto ?_; refine subQ ?_)
    | (with_reducible refine And.intro ?_ ?_)
    | (subst hK)
    | exact trivial
  all_goals (try (intros; assumption))
  all_goals (try refine boolG ?_)
  all_goals (try replace hp := boolH hp)
  all_goals (try replace hi := boolH hi)
  all_goals (try replace hj := boolH hj)
  all_goals (try replace hk := boolH hk)
  all_goals (try (intros; trivial))
  all_goals (try (intros; omega))
  all_goals (try (rw [w64 (by omega) (by omega)]; first | done | omega))
end
noncomputable def cfg60 : Cfg := ⟨Tryz.prog, 48, tab9, (fun _ _ => []), [], (fun _ => none)⟩
theorem cfg60_l : cfg60.pins = [] ∧ cfg60.P = Tryz.prog ∧ cfg60.N = 48 ∧ cfg60.ti 11 = none ∧ cfg60.T 11 = e11 ∧ cfg60.mv 11 = (fun _ => []) := ⟨rfl, rfl, rfl, rfl, rfl, rfl⟩
section
attribute [local go_sem] cfg60_l e11
attribute [local go_sem] encDType decDType etaDType zfDType encVal decVal etaVal zfVal Int.toNat_natCast chr_eq dL_int dM_int getDz_int decL_sl decM_cons decM_nil decI List.length_map bytesD_len bytesD_get encField decField etaField zfField encFmt decFmt etaFmt zfFmt encKField decKField etaKField zfKField encFile decFile etaFile zfFile encRec decRec etaRec zfRec getDz_Field getDz_KField getDz_Rec dL_Field dL_KField dL_Rec dM_Field dM_KField dM_Rec ceqField ceqKField ceqRec List.length_take decL_nil Int.toNat_zero Nat.sub_zero List.drop_zero encTable decTable etaTable zfTable encChange decChange etaChange zfChange dL_Change dM_Change List.length_set Nat.le_refl dL_Table dM_Table List.take_length
attribute [local go_sem ←] List.map_take List.map_drop
theorem con60 (hC : COk cfg60) (l : List Table) (hp : okTs l) : Sem Tryz.prog 60 [.d (.sl 6 (l.map encTable))] (.d (.sl 6 ((l.map trimT).map encTable))) := by
  have hB : l.length ≤ 1000000 := hp.1
  refine sem_of_awR (C := cfg60) (rs := [.tmp 2]) (fun _ => []) Tryz.func60 rfl rfl rfl rfl rfl rfl ?_
  refine inQ ?_
  repeat' first
    | (with_reducible first | refine thenS_n ?_ | refine inBlockS_n ?_ | refine AW.seq ?_ | refine AW.block ?_)
    | (refine AW.atR 5 rfl ?_; have TL := trimTo_len l i; have hg := trimTo_map (l := l) (i := i) (by omega); have hO := hp.2 i; have hR : (l.getD i zTable).records.length ≤ 1000000 := hO.2.2)
    | (refine AW.atR 6 rfl ?_; skip)
    | (with_reducible first | (refine AWh.runK hC ?_; intro K hK) | (refine AWh.drawK hC (by kernel_rfl) ?_; intro K hK))
    | (with_reducible first | (refine AW.runK hC ?_; intro K hK) | (refine AW.drawK hC (by kernel_rfl) ?_; intro K hK))
    | ((with_reducible first | refine erun_g ?_ | refine edraw_g ?_ | refine exitS_g ?_); (first | (simp (maxSteps := 1000000) only [go_sem, ↓reduceIte, reduceCtorEq, Nat.reduceEqDiff, Nat.reduceLT, Nat.reduceLeDiff, Nat.reduceMul, Nat.reduceAdd, Nat.reduceSub, reduceDIte, Nat.reduceBEq, Nat.reduceBNe, hg]) | (refine siQ ?_)); (try simp (disch := omega) only [w64, wu8]))
    | (with_reducible refine hCheck_g (by kernel_rfl) ?_)
    | ((first | (refine AW.cond rfl (fun h => ?_) (fun h => ?_)) | (refine AW.cond_ub rfl (fun h => ?_) ?_) | (refine AW.cond_nb rfl ?_ (fun h => ?_))) <;> (try replace h := boolH h) <;> (try (exfalso; first | omega | exact absurd h (by decide))))
    | (with_reducible first | refine AW.skip ?_ | refine AW.exit ?_ | refine AW.ret ?_ | refine thenS_r ?_ | refine thenS_e ?_ | refine inBlockS_r ?_ | refine inBlockS_e ?_ | refine inBlockS_e2 rfl ?_ | refine exitQ_r ?_ | refine exitQ_n ?_)
    | (refine AW.loopN 3 rfl (ι := Nat) (fun i => mkS [(3, V.row 112 6 0 (trimTo l i).length), (4, V.d (.i .i64 (i : Int)))] ([(112, .live (.row 80 6 false ((trimTo l i).map encTable)))])) (fun i => i ≤ l.length) (fun i => l.length - i) (0) ?_ ?_ (fun i hi => ?_) <;> (try dsimp only) <;> (try dsimp only at hi))
    | (refine LoopNext.mk1 3 (i + 1) ?_ ?_ ?_ <;> (try dsimp only))
    | (refine AW.loopN 6 rfl (ι := Nat) (fun n => mkS [(3, V.row 112 6 0 (trimTo l i).length), (4, V.d (.i .i64 (i : Int))), (5, V.d (.i .i64 (n : Int)))] ([(112, .live (.row 80 6 false ((trimTo l i).map encTable)))])) (fun n => n ≤ (l.getD i zTable).records.length ∧ ∀ j, n ≤ j → j < (l.getD i zTable).records.length → ((l.getD i zTable).records.getD j zRec).deleted = true) (fun n => n) ((l.getD i zTable).records.length) ?_ ?_ (fun n hn => ?_) <;> (try dsimp only) <;> (try dsimp only at hn))
    | (refine LoopNext.mk1 6 (n - 1) ?_ ?_ ?_ <;> (try dsimp only))
    | (refine sub_auto ?_; refine subQ ?_)
    | (with_reducible refine And.intro ?_ ?_)
    | (subst hK)
    | exact trivial
  all_goals (try (intros; assumption))
  all_goals (try refine boolG ?_)
  all_goals (try replace hp := boolH hp)
  all_goals (try replace hi := boolH hi)
  all_goals (try replace hj := boolH hj)
  all_goals (try replace hk := boolH hk)
  all_goals (try (intros; trivial))
  all_goals (try (intros; omega))
  all_goals (try (rw [w64 (by omega) (by omega)]; first | done | omega))
  all_goals clear hC
  all_goals (try have TL := trimTo_len l i)
  all_goals first
    | omega
    | exact dles_refl _
    | (rw [trimTo_end (by omega)]; exact dles_refl _)
    | (rw [trimTo_len, trimTo_len]; done)
    | (intro j hj hj2; by_cases e : n ≤ j; exact hn.2 j e hj2; (have := h.2; rw [show ((n : Int) - 1).toNat = j by omega] at this; exact this))
    | (have e := trim_at (l := (l.getD i zTable).records) hn.1 hn.2 (by rcases h with h | h; (left; omega); (by_cases h0 : n = 0; exact .inl h0; right; rw [show ((n : Int) - 1).toNat = n - 1 by omega] at h; exact h))
       rw [← trimTo_step (by omega), List.map_set, show trimT (l.getD i zTable) = ⟨(l.getD i zTable).file, (l.getD i zTable).records.take n⟩ from by unfold trimT; rw [e]]
       exact dles_refl _)
end
noncomputable def cfg27 : Cfg := ⟨Tryz.prog, 14, tab60, (fun _ _ => []), [], (fun _ => none)⟩
theorem cfg27_l : cfg27.pins = [] ∧ cfg27.P = Tryz.prog ∧ cfg27.N = 14 ∧ cfg27.ti 32 = none ∧ cfg27.T 32 = e32 ∧ cfg27.mv 32 = (fun _ => []) ∧ cfg27.ti 43 = none ∧ cfg27.T 43 = e43 ∧ cfg27.mv 43 = (fun _ => []) ∧ cfg27.ti 60 = none ∧ cfg27.T 60 = e60 ∧ cfg27.mv 60 = (fun _ => []) := ⟨rfl, rfl, rfl, rfl, rfl, rfl, rfl, rfl, rfl, rfl, rfl, rfl⟩
section
attribute [local go_sem] cfg27_l e32 e43 e60
attribute [local go_sem] encDType decDType etaDType zfDType encVal decVal etaVal zfVal Int.toNat_natCast chr_eq dL_int dM_int getDz_int decL_sl decM_cons decM_nil decI List.length_map bytesD_len bytesD_get encField decField etaField zfField encFmt decFmt etaFmt zfFmt encKField decKField etaKField zfKField encFile decFile etaFile zfFile encRec decRec etaRec zfRec getDz_Field getDz_KField getDz_Rec dL_Field dL_KField dL_Rec dM_Field dM_KField dM_Rec ceqField ceqKField ceqRec List.length_take decL_nil Int.toNat_zero Nat.sub_zero List.drop_zero encTable decTable etaTable zfTable encChange decChange etaChange zfChange dL_Change dM_Change List.length_set Nat.le_refl dL_Table dM_Table
attribute [local go_sem ←] List.map_take List.map_drop
theorem con27 (hC : COk cfg27) (a : List Table) (b : List Table) (hp : okTs b) : Sem Tryz.prog 27 [.d (.sl 6 (a.map encTable)), .d (.sl 6 (b.map encTable))] (.d (.b (alikeT a b))) := by
  refine sem_of_awR (C := cfg27) (rs := [.tmp 4]) (fun _ => []) Tryz.func27 rfl rfl rfl rfl rfl rfl ?_
  refine inQ ?_
  repeat' first
    | (with_reducible first | refine thenS_n ?_ | refine inBlockS_n ?_ | refine AW.seq ?_ | refine AW.block ?_)
    | (with_reducible first | (refine AW.runK hC ?_; intro K hK) | (refine AW.drawK hC (by kernel_rfl) ?_; intro K hK))
    | ((with_reducible first | refine erun_g ?_ | refine edraw_g ?_ | refine exitS_g ?_); refine siQ ?_; (try simp (disch := omega) only [w64, wu8]))
    | (with_reducible refine hCheck_g (by kernel_rfl) ?_)
    | ((first | (refine AW.cond rfl (fun h => ?_) (fun h => ?_)) | (refine AW.cond_ub rfl (fun h => ?_) ?_) | (refine AW.cond_nb rfl ?_ (fun h => ?_))) <;> (try replace h := boolH h) <;> (try (exfalso; first | omega | exact absurd h (by decide))))
    | (with_reducible first | refine AW.skip ?_ | refine AW.exit ?_ | refine AW.ret ?_ | refine thenS_r ?_ | refine thenS_e ?_ | refine inBlockS_r ?_ | refine inBlockS_e ?_ | refine inBlockS_e2 rfl ?_ | refine exitQ_r ?_ | refine exitQ_n ?_)
    | (refine sub_auto ?_; refine subQ ?_)
    | (with_reducible refine And.intro ?_ ?_)
    | (subst hK)
    | exact trivial
  all_goals (try (intros; assumption))
  all_goals (try refine boolG ?_)
  all_goals (try replace hp := boolH hp)
  all_goals (try replace hi := boolH hi)
  all_goals (try replace hj := boolH hj)
  all_goals (try replace hk := boolH hk)
  all_goals (try (intros; trivial))
  all_goals (try (intros; omega))
  all_goals (try (rw [w64 (by omega) (by omega)]; first | done | omega))
  all_goals clear hC
  all_goals first
    | omega
    | exact fun h => (fewTs_ok h).1
    | exact fun _ => hp
    | exact fun h => okTs_trim (fewTs_ok h).1
end
noncomputable def cfg179 : Cfg := ⟨Tryz.prog, 23, tab27, (fun _ _ => []), [], (fun _ => none)⟩
theorem cfg179_l : cfg179.pins = [] ∧ cfg179.P = Tryz.prog ∧ cfg179.N = 23 ∧ cfg179.ti 76 = none ∧ cfg179.T 76 = e76 ∧ cfg179.mv 76 = (fun _ => []) := ⟨rfl, rfl, rfl, rfl, rfl, rfl⟩
section
attribute [local go_sem] cfg179_l e76
attribute [local go_sem] encDType decDType etaDType zfDType encVal decVal etaVal zfVal firstE Int.toNat_natCast chr_eq dL_int dM_int getDz_int decL_sl decM_cons decM_nil decI List.length_map bytesD_len bytesD_get
theorem con179 (hC : COk cfg179) (t : DType) (hp : typeErr t = 0) : Sem Tryz.prog 179 [.d (encDType t)] (.d (.i .i64 (sizeN t))) := by
  have ht := typeErr_ok hp
  refine sem_of_awR (C := cfg179) (rs := [.tmp 2]) (fun _ => []) Tryz.func179 rfl rfl rfl rfl rfl rfl ?_
  refine inQ ?_
  repeat' first
    | (with_reducible first | refine thenS_n ?_ | refine inBlockS_n ?_ | refine AW.seq ?_ | refine AW.block ?_)
    | (with_reducible first | (refine AW.runK hC ?_; intro K hK) | (refine AW.drawK hC (by kernel_rfl) ?_; intro K hK))
    | ((with_reducible first | refine erun_g ?_ | refine edraw_g ?_ | refine exitS_g ?_); refine siQ ?_; (try simp (disch := omega) only [w64, wu8]))
    | (with_reducible refine hCheck_g (by kernel_rfl) ?_)
    | ((first | (refine AW.cond rfl (fun h => ?_) (fun h => ?_)) | (refine AW.cond_ub rfl (fun h => ?_) ?_) | (refine AW.cond_nb rfl ?_ (fun h => ?_))) <;> (try replace h := boolH h) <;> (try (exfalso; first | omega | exact absurd h (by decide))))
    | (with_reducible first | refine AW.skip ?_ | refine AW.exit ?_ | refine AW.ret ?_ | refine thenS_r ?_ | refine thenS_e ?_ | refine inBlockS_r ?_ | refine inBlockS_e ?_ | refine inBlockS_e2 rfl ?_ | refine exitQ_r ?_ | refine exitQ_n ?_)
    | (refine sub_auto ?_; refine subQ ?_)
    | (with_reducible refine And.intro ?_ ?_)
    | (subst hK)
    | exact trivial
  all_goals (try (intros; assumption))
  all_goals (try refine boolG ?_)
  all_goals (try replace hp := boolH hp)
  all_goals (try replace hi := boolH hi)
  all_goals (try replace hj := boolH hj)
  all_goals (try replace hk := boolH hk)
  all_goals (try (intros; trivial))
  all_goals (try (intros; omega))
  all_goals (try (rw [w64 (by omega) (by omega)]; first | done | omega))
  all_goals clear hC
  all_goals (try simp only [sizeN])
  all_goals first
    | omega
    | (rw [size_packed (by omega) (by omega), if_pos (by omega)]; done)
    | (rcases ht.2.2.2.2.2.2 (by omega) with e | e <;> (rw [e]; simp_all; done))
    | grind
end
noncomputable def cfg180 : Cfg := ⟨Tryz.prog, 24, tab179, (fun _ _ => []), [], (fun _ => none)⟩
theorem cfg180_l : cfg180.pins = [] ∧ cfg180.P = Tryz.prog ∧ cfg180.N = 24 := ⟨rfl, rfl, rfl⟩
section
attribute [local go_sem] cfg180_l
attribute [local go_sem] encDType decDType etaDType zfDType encVal decVal etaVal zfVal firstE Int.toNat_natCast chr_eq dL_int dM_int getDz_int decL_sl decM_cons decM_nil decI List.length_map bytesD_len bytesD_get
theorem con180 (hC : COk cfg180) (s : ByteArray) (a : Int) (n : Int) (hp : 0 ≤ a ∧ 0 ≤ n ∧ a + n ≤ s.size ∧ s.size ≤ 1000) : Sem Tryz.prog 180 [.d (.s s), .d (.i .i64 a), .d (.i .i64 n)] (.d (.i .i64 (bigAt s a.toNat n.toNat))) := by
  refine sem_of_awR (C := cfg180) (rs := [.tmp 6]) (fun _ => []) Tryz.func180 rfl rfl rfl rfl rfl rfl ?_
  refine inQ ?_
  repeat' first
    | (with_reducible first | refine thenS_n ?_ | refine inBlockS_n ?_ | refine AW.seq ?_ | refine AW.block ?_)
    | (with_reducible first | (refine AW.runK hC ?_; intro K hK) | (refine AW.drawK hC (by kernel_rfl) ?_; intro K hK))
    | ((with_reducible first | refine erun_g ?_ | refine edraw_g ?_ | refine exitS_g ?_); refine siQ ?_; (try simp (disch := omega) only [w64, wu8]))
    | (with_reducible refine hCheck_g (by kernel_rfl) ?_)
    | ((first | (refine AW.cond rfl (fun h => ?_) (fun h => ?_)) | (refine AW.cond_ub rfl (fun h => ?_) ?_) | (refine AW.cond_nb rfl ?_ (fun h => ?_))) <;> (try replace h := boolH h) <;> (try (exfalso; first | omega | exact absurd h (by decide))))
    | (with_reducible first | refine AW.skip ?_ | refine AW.exit ?_ | refine AW.ret ?_ | refine thenS_r ?_ | refine thenS_e ?_ | refine inBlockS_r ?_ | refine inBlockS_e ?_ | refine inBlockS_e2 rfl ?_ | refine exitQ_r ?_ | refine exitQ_n ?_)
    | (refine AW.loopN 3 rfl (ι := Nat) (fun i => mkS [(0, V.d (.s s)), (1, V.d (.i .i64 a)), (2, V.d (.i .i64 n)), (7, V.d (.i .i64 (bigAt s a.toNat i))), (8, V.d (.i .i64 (i : Int)))] ([])) (fun i => (i : Int) ≤ n) (fun i => n.toNat - i) (0) ?_ ?_ (fun i hi => ?_) <;> (try dsimp only) <;> (try dsimp only at hi))
    | (refine LoopNext.mk1 3 (i + 1) ?_ ?_ ?_ <;> (try dsimp only))
    | (refine sub_auto ?_; refine subQ ?_)
    | (with_reducible refine And.intro ?_ ?_)
    | (subst hK)
    | exact trivial
  all_goals (try (intros; assumption))
  all_goals (try refine boolG ?_)
  all_goals (try replace hp := boolH hp)
  all_goals (try replace hi := boolH hi)
  all_goals (try replace hj := boolH hj)
  all_goals (try replace hk := boolH hk)
  all_goals (try (intros; trivial))
  all_goals (try (intros; omega))
  all_goals (try (rw [w64 (by omega) (by omega)]; first | done | omega))
  all_goals clear hC
  all_goals first
    | omega
    | rfl
    | (rw [show (a + (i : Int)).toNat = a.toNat + i by omega, wrap_c]; rfl)
    | (rw [show n.toNat = i by omega]; done)
end
noncomputable def cfg195 : Cfg := ⟨Tryz.prog, 13, tab180, (fun _ _ => []), [], (fun _ => none)⟩
theorem cfg195_l : cfg195.pins = [] ∧ cfg195.P = Tryz.prog ∧ cfg195.N = 13 := ⟨rfl, rfl, rfl⟩
section
attribute [local go_sem] cfg195_l
attribute [local go_sem] encDType decDType etaDType zfDType encVal decVal etaVal zfVal firstE Int.toNat_natCast chr_eq dL_int dM_int getDz_int decL_sl decM_cons decM_nil decI List.length_map bytesD_len bytesD_get
theorem con195 (hC : COk cfg195) (n : Int) (hp : 0 ≤ n ∧ n ≤ 18) : Sem Tryz.prog 195 [.d (.i .i64 n)] (.d (.i .i64 (p10 n))) := by
  refine sem_of_awR (C := cfg195) (rs := [.tmp 2]) (fun _ => []) Tryz.func195 rfl rfl rfl rfl rfl rfl ?_
  refine inQ ?_
  repeat' first
    | (with_reducible first | refine thenS_n ?_ | refine inBlockS_n ?_ | refine AW.seq ?_ | refine AW.block ?_)
    | (with_reducible first | (refine AW.runK hC ?_; intro K hK) | (refine AW.drawK hC (by kernel_rfl) ?_; intro K hK))
    | ((with_reducible first | refine erun_g ?_ | refine edraw_g ?_ | refine exitS_g ?_); refine siQ ?_; (try simp (disch := omega) only [w64, wu8]))
    | (with_reducible refine hCheck_g (by kernel_rfl) ?_)
    | ((first | (refine AW.cond rfl (fun h => ?_) (fun h => ?_)) | (refine AW.cond_ub rfl (fun h => ?_) ?_) | (refine AW.cond_nb rfl ?_ (fun h => ?_))) <;> (try replace h := boolH h) <;> (try (exfalso; first | omega | exact absurd h (by decide))))
    | (with_reducible first | refine AW.skip ?_ | refine AW.exit ?_ | refine AW.ret ?_ | refine thenS_r ?_ | refine thenS_e ?_ | refine inBlockS_r ?_ | refine inBlockS_e ?_ | refine inBlockS_e2 rfl ?_ | refine exitQ_r ?_ | refine exitQ_n ?_)
    | (refine AW.loopN 3 rfl (ι := Nat) (fun i => mkS [(0, V.d (.i .i64 n)), (3, V.d (.i .i64 (10 ^ i : Int))), (4, V.d (.i .i64 (i : Int)))] ([])) (fun i => (i : Int) ≤ n) (fun i => n.toNat - i) (0) ?_ ?_ (fun i hi => ?_) <;> (try dsimp only) <;> (try dsimp only at hi))
    | (refine LoopNext.mk1 3 (i + 1) ?_ ?_ ?_ <;> (try dsimp only))
    | (refine sub_auto ?_; refine subQ ?_)
    | (with_reducible refine And.intro ?_ ?_)
    | (subst hK)
    | exact trivial
  all_goals (try (intros; assumption))
  all_goals (try refine boolG ?_)
  all_goals (try replace hp := boolH hp)
  all_goals (try replace hi := boolH hi)
  all_goals (try replace hj := boolH hj)
  all_goals (try replace hk := boolH hk)
  all_goals (try (intros; trivial))
  all_goals (try (intros; omega))
  all_goals (try (rw [w64 (by omega) (by omega)]; first | done | omega))
  all_goals clear hC
  all_goals first
    | omega
    | exact p10_step (by omega)
    | exact p10_end (by omega) (by omega)
end
noncomputable def cfg194 : Cfg := ⟨Tryz.prog, 5, tab195, (fun _ _ => []), [], (fun _ => none)⟩
theorem cfg194_l : cfg194.pins = [] ∧ cfg194.P = Tryz.prog ∧ cfg194.N = 5 ∧ cfg194.ti 41 = none ∧ cfg194.T 41 = e41 ∧ cfg194.mv 41 = (fun _ => []) := ⟨rfl, rfl, rfl, rfl, rfl, rfl⟩
section
attribute [local go_sem] cfg194_l e41
theorem con194 (hC : COk cfg194) (k : Int) : Sem Tryz.prog 194 [.d (.i .i64 k)] (.d (.b (decide (1 ≤ k) && decide (k ≤ 3)))) := by
  refine sem_of_awR (C := cfg194) (rs := [.tmp 2]) (fun _ => []) Tryz.func194 rfl rfl rfl rfl rfl rfl ?_
  refine inQ ?_
  repeat' first
    | (with_reducible first | refine thenS_n ?_ | refine inBlockS_n ?_ | refine AW.seq ?_ | refine AW.block ?_)
    | (with_reducible first | (refine AW.runK hC ?_; intro K hK) | (refine AW.drawK hC (by kernel_rfl) ?_; intro K hK))
    | ((with_reducible first | refine erun_g ?_ | refine edraw_g ?_ | refine exitS_g ?_); refine siQ ?_; (try simp (disch := omega) only [w64, wu8]))
    | (with_reducible refine hCheck_g (by kernel_rfl) ?_)
    | ((first | (refine AW.cond rfl (fun h => ?_) (fun h => ?_)) | (refine AW.cond_ub rfl (fun h => ?_) ?_) | (refine AW.cond_nb rfl ?_ (fun h => ?_))) <;> (try replace h := boolH h) <;> (try (exfalso; first | omega | exact absurd h (by decide))))
    | (with_reducible first | refine AW.skip ?_ | refine AW.exit ?_ | refine AW.ret ?_ | refine thenS_r ?_ | refine thenS_e ?_ | refine inBlockS_r ?_ | refine inBlockS_e ?_ | refine inBlockS_e2 rfl ?_ | refine exitQ_r ?_ | refine exitQ_n ?_)
    | (refine sub_auto ?_; refine subQ ?_)
    | (with_reducible refine And.intro ?_ ?_)
    | (subst hK)
    | exact trivial
  all_goals (try (intros; assumption))
  all_goals (try refine boolG ?_)
  all_goals (try replace hp := boolH hp)
  all_goals (try replace hi := boolH hi)
  all_goals (try replace hj := boolH hj)
  all_goals (try replace hk := boolH hk)
  all_goals (try (intros; trivial))
  all_goals (try (intros; omega))
  all_goals (try (rw [w64 (by omega) (by omega)]; first | done | omega))
 
end
noncomputable def cfg196 : Cfg := ⟨Tryz.prog, 17, tab194, (fun _ _ => []), [], (fun _ => none)⟩
theorem cfg196_l : cfg196.pins = [] ∧ cfg196.P = Tryz.prog ∧ cfg196.N = 17 := ⟨rfl, rfl, rfl⟩
section
attribute [local go_sem] cfg196_l
attribute [local go_sem] encDType decDType etaDType zfDType encVal decVal etaVal zfVal firstE Int.toNat_natCast chr_eq dL_int dM_int getDz_int decL_sl decM_cons decM_nil decI List.length_map bytesD_len bytesD_get
theorem con196 (hC : COk cfg196) (n : Int) (h : Int) : Sem Tryz.prog 196 [.d (.i .i64 n), .d (.i .i64 h)] (.tup [.d (.i .i64 (if h = 11 ∨ h = 13 then IntKind.i64.wrap (-n) else n)), .d (.b (decide (10 ≤ h)))]) := by
  refine sem_of_awR (C := cfg196) (rs := [.tmp 4, .tmp 5]) (fun _ => []) Tryz.func196 rfl rfl rfl rfl rfl rfl ?_
  refine inQ ?_
  repeat' first
    | (with_reducible first | refine thenS_n ?_ | refine inBlockS_n ?_ | refine AW.seq ?_ | refine AW.block ?_)
    | (with_reducible first | (refine AW.runK hC ?_; intro K hK) | (refine AW.drawK hC (by kernel_rfl) ?_; intro K hK))
    | ((with_reducible first | refine erun_g ?_ | refine edraw_g ?_ | refine exitS_g ?_); refine siQ ?_; (try simp (disch := omega) only [w64, wu8]))
    | (with_reducible refine hCheck_g (by kernel_rfl) ?_)
    | ((first | (refine AW.cond rfl (fun h => ?_) (fun h => ?_)) | (refine AW.cond_ub rfl (fun h => ?_) ?_) | (refine AW.cond_nb rfl ?_ (fun h => ?_))) <;> (try replace h := boolH h) <;> (try (exfalso; first | omega | exact absurd h (by decide))))
    | (with_reducible first | refine AW.skip ?_ | refine AW.exit ?_ | refine AW.ret ?_ | refine thenS_r ?_ | refine thenS_e ?_ | refine inBlockS_r ?_ | refine inBlockS_e ?_ | refine inBlockS_e2 rfl ?_ | refine exitQ_r ?_ | refine exitQ_n ?_)
    | (refine sub_auto ?_; refine subQ ?_)
    | (with_reducible refine And.intro ?_ ?_)
    | (subst hK)
    | exact trivial
  all_goals (try (intros; assumption))
  all_goals (try refine boolG ?_)
  all_goals (try replace hp := boolH hp)
  all_goals (try replace hi := boolH hi)
  all_goals (try replace hj := boolH hj)
  all_goals (try replace hk := boolH hk)
  all_goals (try (intros; trivial))
  all_goals (try (intros; omega))
  all_goals (try (rw [w64 (by omega) (by omega)]; first | done | omega))
  all_goals clear hC
  all_goals first
    | omega
    | grind
end
noncomputable def cfg178 : Cfg := ⟨Tryz.prog, 49, tab196, (fun _ _ => []), [], (fun _ => none)⟩
theorem cfg178_l : cfg178.pins = [] ∧ cfg178.P = Tryz.prog ∧ cfg178.N = 49 ∧ cfg178.ti 41 = none ∧ cfg178.T 41 = e41 ∧ cfg178.mv 41 = (fun _ => []) ∧ cfg178.ti 76 = none ∧ cfg178.T 76 = e76 ∧ cfg178.mv 76 = (fun _ => []) ∧ cfg178.ti 194 = none ∧ cfg178.T 194 = e194 ∧ cfg178.mv 194 = (fun _ => []) := ⟨rfl, rfl, rfl, rfl, rfl, rfl, rfl, rfl, rfl, rfl, rfl, rfl⟩
section
attribute [local go_sem] cfg178_l e41 e76 e194
attribute [local go_sem] encDType decDType etaDType zfDType encVal decVal etaVal zfVal firstE Int.toNat_natCast chr_eq dL_int dM_int getDz_int decL_sl decM_cons decM_nil decI List.length_map bytesD_len bytesD_get
theorem con178 (hC : COk cfg178) (t : DType) : Sem Tryz.prog 178 [.d (encDType t)] (.d (.i .i64 (typeErr t))) := by
  refine sem_of_awR (C := cfg178) (rs := [.tmp 2]) (fun _ => []) Tryz.func178 rfl rfl rfl rfl rfl rfl ?_
  refine inQ ?_
  repeat' first
    | (with_reducible first | refine thenS_n ?_ | refine inBlockS_n ?_ | refine AW.seq ?_ | refine AW.block ?_)
    | (with_reducible first | (refine AW.runK hC ?_; intro K hK) | (refine AW.drawK hC (by kernel_rfl) ?_; intro K hK))
    | ((with_reducible first | refine erun_g ?_ | refine edraw_g ?_ | refine exitS_g ?_); refine siQ ?_; (try simp (disch := omega) only [w64, wu8]))
    | (with_reducible refine hCheck_g (by kernel_rfl) ?_)
    | ((first | (refine AW.cond rfl (fun h => ?_) (fun h => ?_)) | (refine AW.cond_ub rfl (fun h => ?_) ?_) | (refine AW.cond_nb rfl ?_ (fun h => ?_))) <;> (try replace h := boolH h) <;> (try (exfalso; first | omega | exact absurd h (by decide))))
    | (with_reducible first | refine AW.skip ?_ | refine AW.exit ?_ | refine AW.ret ?_ | refine thenS_r ?_ | refine thenS_e ?_ | refine inBlockS_r ?_ | refine inBlockS_e ?_ | refine inBlockS_e2 rfl ?_ | refine exitQ_r ?_ | refine exitQ_n ?_)
    | (refine sub_auto ?_; refine subQ ?_)
    | (with_reducible refine And.intro ?_ ?_)
    | (subst hK)
    | exact trivial
  all_goals (try (intros; assumption))
  all_goals (try refine boolG ?_)
  all_goals (try replace hp := boolH hp)
  all_goals (try replace hi := boolH hi)
  all_goals (try replace hj := boolH hj)
  all_goals (try replace hk := boolH hk)
  all_goals (try (intros; trivial))
  all_goals (try (intros; omega))
  all_goals (try (rw [w64 (by omega) (by omega)]; first | done | omega))
  all_goals clear hC
  all_goals first
    | (simp only [typeErr]; grind)
end
noncomputable def cfg181 : Cfg := ⟨Tryz.prog, 7, tab178, (fun _ _ => []), [], (fun _ => none)⟩
theorem cfg181_l : cfg181.pins = [] ∧ cfg181.P = Tryz.prog ∧ cfg181.N = 7 ∧ cfg181.ti 195 = none ∧ cfg181.T 195 = e195 ∧ cfg181.mv 195 = (fun _ => []) := ⟨rfl, rfl, rfl, rfl, rfl, rfl⟩
section
attribute [local go_sem] cfg181_l e195
attribute [local go_sem] encDType decDType etaDType zfDType encVal decVal etaVal zfVal firstE Int.toNat_natCast chr_eq dL_int dM_int getDz_int decL_sl decM_cons decM_nil decI List.length_map bytesD_len bytesD_get
theorem con181 (hC : COk cfg181) (t : DType) (hp : 0 ≤ t.length ∧ t.length ≤ 18) : Sem Tryz.prog 181 [.d (encDType t)] (.d (.i .i64 (p10 t.length - 1))) := by
  refine sem_of_awR (C := cfg181) (rs := [.tmp 2]) (fun _ => []) Tryz.func181 rfl rfl rfl rfl rfl rfl ?_
  refine inQ ?_
  repeat' first
    | (with_reducible first | refine thenS_n ?_ | refine inBlockS_n ?_ | refine AW.seq ?_ | refine AW.block ?_)
    | (with_reducible first | (refine AW.runK hC ?_; intro K hK) | (refine AW.drawK hC (by kernel_rfl) ?_; intro K hK))
    | ((with_reducible first | refine erun_g ?_ | refine edraw_g ?_ | refine exitS_g ?_); refine siQ ?_; (try simp (disch := omega) only [w64, wu8]))
    | (with_reducible refine hCheck_g (by kernel_rfl) ?_)
    | ((first | (refine AW.cond rfl (fun h => ?_) (fun h => ?_)) | (refine AW.cond_ub rfl (fun h => ?_) ?_) | (refine AW.cond_nb rfl ?_ (fun h => ?_))) <;> (try replace h := boolH h) <;> (try (exfalso; first | omega | exact absurd h (by decide))))
    | (with_reducible first | refine AW.skip ?_ | refine AW.exit ?_ | refine AW.ret ?_ | refine thenS_r ?_ | refine thenS_e ?_ | refine inBlockS_r ?_ | refine inBlockS_e ?_ | refine inBlockS_e2 rfl ?_ | refine exitQ_r ?_ | refine exitQ_n ?_)
    | (refine sub_auto ?_; refine subQ ?_)
    | (with_reducible refine And.intro ?_ ?_)
    | (subst hK)
    | exact trivial
  all_goals (try (intros; assumption))
  all_goals (try refine boolG ?_)
  all_goals (try replace hp := boolH hp)
  all_goals (try replace hi := boolH hi)
  all_goals (try replace hj := boolH hj)
  all_goals (try replace hk := boolH hk)
  all_goals (try (intros; trivial))
  all_goals (try (intros; omega))
  all_goals (try (rw [w64 (by omega) (by omega)]; first | done | omega))
  all_goals clear hC
  all_goals have PW := p10_le t.length
  all_goals first
    | omega
    | (rw [w64 (by omega) (by omega)]; done)
end
noncomputable def cfg182 : Cfg := ⟨Tryz.prog, 51, tab181, (fun _ _ => []), [], (fun _ => none)⟩
theorem cfg182_l : cfg182.pins = [] ∧ cfg182.P = Tryz.prog ∧ cfg182.N = 51 ∧ cfg182.ti 196 = none ∧ cfg182.T 196 = e196 ∧ cfg182.mv 196 = (fun _ => []) := ⟨rfl, rfl, rfl, rfl, rfl, rfl⟩
section
attribute [local go_sem] cfg182_l e196
attribute [local go_sem] encDType decDType etaDType zfDType encVal decVal etaVal zfVal firstE Int.toNat_natCast chr_eq dL_int dM_int getDz_int decL_sl decM_cons decM_nil decI List.length_map bytesD_len bytesD_get mod_lo div_hi wrap_hi wrap_lo wrap_lo8 wrap_c
theorem con182 (hC : COk cfg182) (s : ByteArray) (hp : 0 < s.size ∧ s.size ≤ 1000) : Sem Tryz.prog 182 [.d (.s s)] (.tup [.d (encVal (zonedV s).1), .d (.i .i64 (zonedV s).2.1), .d (.i .i64 (zonedV s).2.2)]) := by
  refine sem_of_awR (C := cfg182) (rs := [.cell 2 212, .tmp 3, .tmp 4]) (fun _ => []) Tryz.func182 rfl rfl rfl rfl rfl rfl ?_
  refine inQ ?_
  repeat' first
    | (with_reducible first | refine thenS_n ?_ | refine inBlockS_n ?_ | refine AW.seq ?_ | refine AW.block ?_)
    | (with_reducible first | (refine AW.runK hC ?_; intro K hK) | (refine AW.drawK hC (by kernel_rfl) ?_; intro K hK))
    | ((with_reducible first | refine erun_g ?_ | refine edraw_g ?_ | refine exitS_g ?_); refine siQ ?_; (try simp (disch := omega) only [w64, wu8]))
    | (with_reducible refine hCheck_g (by kernel_rfl) ?_)
    | ((first | (refine AW.cond rfl (fun h => ?_) (fun h => ?_)) | (refine AW.cond_ub rfl (fun h => ?_) ?_) | (refine AW.cond_nb rfl ?_ (fun h => ?_))) <;> (try replace h := boolH h) <;> (try (exfalso; first | omega | exact absurd h (by decide))))
    | (with_reducible first | refine AW.skip ?_ | refine AW.exit ?_ | refine AW.ret ?_ | refine thenS_r ?_ | refine thenS_e ?_ | refine inBlockS_r ?_ | refine inBlockS_e ?_ | refine inBlockS_e2 rfl ?_ | refine exitQ_r ?_ | refine exitQ_n ?_)
    | (refine AW.loopN 3 rfl (ι := Nat × Int × Int) (fun p => mkS [(0, V.d (.s s)), (2, V.ptr 32 0), (5, V.d (.i .i64 p.2.1)), (6, V.d (.i .i64 p.2.2)), (7, V.d (.i .i64 (p.1 : Int)))] ([(32, .live (.box 212 [.d (.i .i64 0), .d (.s ⟨#[]⟩)]))])) (fun p => p.1 ≤ s.size ∧ decAt (zT s) s p.1 p.2.1 = decN (zT s) s ∧ (p.1 < s.size → p.2.2 = 15) ∧ (p.1 = s.size → p.2.2 = hiB (chr s (s.size - 1)) ∧ ¬hiB (chr s (s.size - 1)) < 10)) (fun p => s.size - p.1) ((0, 0, 15)) ?_ ?_ (fun p hi => ?_) <;> (try dsimp only) <;> (try dsimp only at hi))
    | (refine LoopNext.mk1 3 ((p.1 + 1, IntKind.i64.wrap (IntKind.i64.wrap (10 * p.2.1) + loB (chr s p.1)), if p.1 = s.size - 1 then hiB (chr s p.1) else p.2.2)) ?_ ?_ ?_ <;> (try dsimp only))
    | (refine sub_auto ?_; refine subQ ?_)
    | (with_reducible refine And.intro ?_ ?_)
    | (subst hK)
    | exact trivial
  all_goals (try (intros; assumption))
  all_goals (try refine boolG ?_)
  all_goals (try replace hp := boolH hp)
  all_goals (try replace hi := boolH hi)
  all_goals (try replace hj := boolH hj)
  all_goals (try replace hk := boolH hk)
  all_goals (try (intros; trivial))
  all_goals (try (intros; omega))
  all_goals (try (rw [w64 (by omega) (by omega)]; first | done | omega))
  all_goals clear hC
  all_goals (try have HH := hi_le s p.1)
  all_goals first
    | omega
    | rfl
    | (rw [zz_bad hi.2.1 (by omega) (by omega)]; done)
    | (rw [zz_bad hi.2.1 (by omega) (by omega)]; rfl)
    | exact zz_next hi.2.1 (by omega) (by omega)
    | (intro e; rw [show s.size - 1 = p.1 by omega]; omega)
    | (rw [zz_end hi.2.1 (by omega) (by omega), (hi.2.2.2 (by omega)).1]; done)
    | (rw [zz_end hi.2.1 (by omega) (by omega)]; done)
    | (rw [zz_end hi.2.1 (by omega) (by omega)]; rfl)
end
noncomputable def cfg183 : Cfg := ⟨Tryz.prog, 79, tab182, (fun _ _ => []), [], (fun _ => none)⟩
theorem cfg183_l : cfg183.pins = [] ∧ cfg183.P = Tryz.prog ∧ cfg183.N = 79 ∧ cfg183.ti 196 = none ∧ cfg183.T 196 = e196 ∧ cfg183.mv 196 = (fun _ => []) := ⟨rfl, rfl, rfl, rfl, rfl, rfl⟩
section
attribute [local go_sem] cfg183_l e196
attribute [local go_sem] encDType decDType etaDType zfDType encVal decVal etaVal zfVal firstE Int.toNat_natCast chr_eq dL_int dM_int getDz_int decL_sl decM_cons decM_nil decI List.length_map bytesD_len bytesD_get mod_lo div_hi wrap_hi wrap_lo wrap_lo8 wrap_c
theorem con183 (hC : COk cfg183) (t : DType) (s : ByteArray) (hp : t.kind = 1 ∧ (s.size : Int) = t.length / 2 + 1 ∧ 0 ≤ t.length ∧ t.length ≤ 100) : Sem Tryz.prog 183 [.d (encDType t), .d (.s s)] (.tup [.d (encVal (packedV t s).1), .d (.i .i64 (packedV t s).2.1), .d (.i .i64 (packedV t s).2.2)]) := by
  refine sem_of_awR (C := cfg183) (rs := [.cell 4 212, .tmp 5, .tmp 6]) (fun _ => []) Tryz.func183 rfl rfl rfl rfl rfl rfl ?_
  refine inQ ?_
  repeat' first
    | (with_reducible first | refine thenS_n ?_ | refine inBlockS_n ?_ | refine AW.seq ?_ | refine AW.block ?_)
    | (refine AW.atR 5 rfl ?_; have hq : IntKind.i64.wrap ((p.1 : Int).tdiv 2) = ((p.1 / 2 : Nat) : Int) := (by rw [Int.tdiv_eq_ediv_of_nonneg (by omega), w64 (by omega) (by omega)]; omega); have hr : IntKind.i64.wrap ((p.1 : Int).tmod 2) = ((p.1 % 2 : Nat) : Int) := (by rw [Int.tmod_eq_emod_of_nonneg (by omega), w64 (by omega) (by omega)]; omega); have hm : IntKind.i64.wrap (t.length.tmod 2) = t.length % 2 := (by rw [Int.tmod_eq_emod_of_nonneg (by omega), w64 (by omega) (by omega)]))
    | (with_reducible first | (refine AWh.runK hC ?_; intro K hK) | (refine AWh.drawK hC (by kernel_rfl) ?_; intro K hK))
    | (with_reducible first | (refine AW.runK hC ?_; intro K hK) | (refine AW.drawK hC (by kernel_rfl) ?_; intro K hK))
    | ((with_reducible first | refine erun_g ?_ | refine edraw_g ?_ | refine exitS_g ?_); (first | (simp (maxSteps := 1000000) only [go_sem, ↓reduceIte, reduceCtorEq, Nat.reduceEqDiff, Nat.reduceLT, Nat.reduceLeDiff, Nat.reduceMul, Nat.reduceAdd, Nat.reduceSub, reduceDIte, Nat.reduceBEq, Nat.reduceBNe, hq, hr, hm]) | (refine siQ ?_)); (try simp (disch := omega) only [w64, wu8]))
    | (with_reducible refine hCheck_g (by kernel_rfl) ?_)
    | ((first | (refine AW.cond rfl (fun h => ?_) (fun h => ?_)) | (refine AW.cond_ub rfl (fun h => ?_) ?_) | (refine AW.cond_nb rfl ?_ (fun h => ?_))) <;> (try replace h := boolH h) <;> (try (exfalso; first | omega | exact absurd h (by decide))))
    | (with_reducible first | refine AW.skip ?_ | refine AW.exit ?_ | refine AW.ret ?_ | refine thenS_r ?_ | refine thenS_e ?_ | refine inBlockS_r ?_ | refine inBlockS_e ?_ | refine inBlockS_e2 rfl ?_ | refine exitQ_r ?_ | refine exitQ_n ?_)
    | (refine AW.loopN 3 rfl (ι := Nat × Int) (fun p => mkS [(1, V.d (.s s)), (2, V.ptr 32 0), (4, V.ptr 64 0), (7, V.d (.i .i64 p.2)), (8, V.d (.i .i64 (p.1 : Int)))] ([(32, .live (.box 108 [.d (.i .i64 t.kind), .d (.i .i64 t.length), .d (.i .i64 t.scale)])), (64, .live (.box 212 [.d (.i .i64 0), .d (.s ⟨#[]⟩)]))])) (fun p => p.1 ≤ 2 * s.size ∧ (p.1 < 2 * s.size → decAt t s p.1 p.2 = decN t s) ∧ (p.1 = 2 * s.size → decN t s = (p.2, 0, 0))) (fun p => 2 * s.size - p.1) ((0, 0)) ?_ ?_ (fun p hi => ?_) <;> (try dsimp only) <;> (try dsimp only at hi))
    | (refine LoopNext.mk1 3 ((p.1 + 1, if p.1 = 2 * s.size - 1 then (if halfAt s p.1 = 11 ∨ halfAt s p.1 = 13 then IntKind.i64.wrap (-p.2) else p.2) else IntKind.i64.wrap (IntKind.i64.wrap (10 * p.2) + halfAt s p.1))) ?_ ?_ ?_ <;> (try dsimp only))
    | (refine sub_auto ?_; refine subQ ?_)
    | (with_reducible refine And.intro ?_ ?_)
    | (subst hK)
    | exact trivial
  all_goals (try (intros; assumption))
  all_goals (try refine boolG ?_)
  all_goals (try replace hp := boolH hp)
  all_goals (try replace hi := boolH hi)
  all_goals (try replace hj := boolH hj)
  all_goals (try replace hk := boolH hk)
  all_goals (try (intros; trivial))
  all_goals (try (intros; omega))
  all_goals (try (rw [w64 (by omega) (by omega)]; first | done | omega))
  all_goals clear hC
  all_goals (try have HH := half_le s p.1)
  all_goals (try have HE : p.1 % 2 = 1 → halfAt s p.1 = loB (chr s (p.1 / 2)) := fun e => by unfold halfAt; rw [if_pos e])
  all_goals (try have HO : ¬p.1 % 2 = 1 → halfAt s p.1 = hiB (chr s (p.1 / 2)) := fun e => by unfold halfAt; rw [if_neg e])
  all_goals (try have T1 : (p.1 : Int).tmod 2 = ((p.1 % 2 : Nat) : Int) := by rw [Int.tmod_eq_emod_of_nonneg (by omega)]; omega)
  all_goals (try have T2 : t.length.tmod 2 = t.length % 2 := Int.tmod_eq_emod_of_nonneg (by omega))
  all_goals first
    | omega
    | rfl
    | (intro e; exfalso; omega)
    | (intro e; rw [if_pos (by omega)]; exact pp_end hp.1 (hi.2.1 (by omega)) (by omega) (by omega) (by omega))
    | (intro e; rw [if_neg (by omega)]; exact pp_next hp.1 hp.2.1 hp.2.2.1 (hi.2.1 (by omega)) (by omega) (by omega) (by omega))
    | (rw [if_pos (by omega), HE (by omega)]; done)
    | (rw [if_neg (by omega), HE (by omega)]; done)
    | (rw [if_neg (by omega), HO (by omega)]; done)
    | (unfold packedV; rw [hi.2.2 (by omega)]; done)
    | (rw [pp_bad (i := p.1) (n := p.2) hp.1 hp.2.1 hp.2.2.1 (hi.2.1 (by omega)) (by omega) (by omega)]; done)
    | (rw [pp_bad (i := p.1) (n := p.2) hp.1 hp.2.1 hp.2.2.1 (hi.2.1 (by omega)) (by omega) (by omega)]; rfl)
end
noncomputable def cfg169 : Cfg := ⟨Tryz.prog, 70, tab183, (fun _ _ => []), [], (fun _ => none)⟩
theorem cfg169_l : cfg169.pins = [] ∧ cfg169.P = Tryz.prog ∧ cfg169.N = 70 ∧ cfg169.ti 41 = none ∧ cfg169.T 41 = e41 ∧ cfg169.mv 41 = (fun _ => []) ∧ cfg169.ti 178 = none ∧ cfg169.T 178 = e178 ∧ cfg169.mv 178 = (fun _ => []) ∧ cfg169.ti 179 = none ∧ cfg169.T 179 = e179 ∧ cfg169.mv 179 = (fun _ => []) ∧ cfg169.ti 180 = none ∧ cfg169.T 180 = e180 ∧ cfg169.mv 180 = (fun _ => []) ∧ cfg169.ti 181 = none ∧ cfg169.T 181 = e181 ∧ cfg169.mv 181 = (fun _ => []) ∧ cfg169.ti 182 = none ∧ cfg169.T 182 = e182 ∧ cfg169.mv 182 = (fun _ => []) ∧ cfg169.ti 183 = none ∧ cfg169.T 183 = e183 ∧ cfg169.mv 183 = (fun _ => []) := ⟨rfl, rfl, rfl, rfl, rfl, rfl, rfl, rfl, rfl, rfl, rfl, rfl, rfl, rfl, rfl, rfl, rfl, rfl, rfl, rfl, rfl, rfl, rfl, rfl⟩
section
attribute [local go_sem] cfg169_l e41 e178 e179 e180 e181 e182 e183
attribute [local go_sem] encDType decDType etaDType zfDType encVal decVal etaVal zfVal firstE Int.toNat_natCast chr_eq dL_int dM_int getDz_int decL_sl decM_cons decM_nil decI List.length_map bytesD_len bytesD_get mod_lo div_hi wrap_hi wrap_lo wrap_lo8 wrap_c
theorem con169 (hC : COk cfg169) (t : DType) (s : ByteArray) : Sem Tryz.prog 169 [.d (encDType t), .d (.s s)] (.tup [.d (encVal (decodeV t s).1), .d (.i .i64 (decodeV t s).2.1), .d (.i .i64 (decodeV t s).2.2)]) := by
  refine sem_of_awR (C := cfg169) (rs := [.cell 4 212, .tmp 5, .tmp 6]) (fun _ => []) Tryz.func169 rfl rfl rfl rfl rfl rfl ?_
  refine inQ ?_
  repeat' first
    | (with_reducible first | refine thenS_n ?_ | refine inBlockS_n ?_ | refine AW.seq ?_ | refine AW.block ?_)
    | (refine AW.atR 12 rfl ?_; have ht := typeErr_ok (t := t) (by assumption); have hz : s.size = 2 ∨ s.size = 4 := (by have e : (s.size : Int) = sizeN t := (by assumption); have e2 : sizeN t = 2 + t.length / 9 * 2 := (by unfold sizeN; rw [if_neg (by omega), if_pos (by omega)]); omega); rcases hz with hz | hz)
    | (with_reducible first | (refine AWh.runK hC ?_; intro K hK) | (refine AWh.drawK hC (by kernel_rfl) ?_; intro K hK))
    | (with_reducible first | (refine AW.runK hC ?_; intro K hK) | (refine AW.drawK hC (by kernel_rfl) ?_; intro K hK))
    | ((with_reducible first | refine erun_g ?_ | refine edraw_g ?_ | refine exitS_g ?_); (first | (simp (maxSteps := 1000000) only [go_sem, ↓reduceIte, reduceCtorEq, Nat.reduceEqDiff, Nat.reduceLT, Nat.reduceLeDiff, Nat.reduceMul, Nat.reduceAdd, Nat.reduceSub, reduceDIte, Nat.reduceBEq, Nat.reduceBNe, hz]) | (refine siQ ?_)); (try simp (disch := omega) only [w64, wu8]))
    | (with_reducible refine hCheck_g (by kernel_rfl) ?_)
    | ((first | (refine AW.cond rfl (fun h => ?_) (fun h => ?_)) | (refine AW.cond_ub rfl (fun h => ?_) ?_) | (refine AW.cond_nb rfl ?_ (fun h => ?_))) <;> (try replace h := boolH h) <;> (try (exfalso; first | omega | exact absurd h (by decide))))
    | (with_reducible first | refine AW.skip ?_ | refine AW.exit ?_ | refine AW.ret ?_ | refine thenS_r ?_ | refine thenS_e ?_ | refine inBlockS_r ?_ | refine inBlockS_e ?_ | refine inBlockS_e2 rfl ?_ | refine exitQ_r ?_ | refine exitQ_n ?_)
    | (refine sub_auto ?_; refine subQ ?_)
    | (with_reducible refine And.intro ?_ ?_)
    | (subst hK)
    | exact trivial
  all_goals (try (intros; assumption))
  all_goals (try refine boolG ?_)
  all_goals (try replace hp := boolH hp)
  all_goals (try replace hi := boolH hi)
  all_goals (try replace hj := boolH hj)
  all_goals (try replace hk := boolH hk)
  all_goals (try (intros; trivial))
  all_goals (try (intros; omega))
  all_goals (try (rw [w64 (by omega) (by omega)]; first | done | omega))
  all_goals clear hC
  all_goals (try have ht := typeErr_ok (t := t) (by assumption))
  all_goals (try simp only [Int.toNat_zero, shl_2, shl_4, wbig_2, wbig_4, wneg_p] at *)
  all_goals (try have B2 := bin_2 (b := s) (by assumption))
  all_goals (try have B4 := bin_4 (b := s) (by assumption))
  all_goals first
    | omega
    | (rw [dv_type (by assumption)]; first | done | rfl)
    | (rw [dv_ptr (by assumption) (by assumption)]; first | done | rfl)
    | (rw [dv_len (by assumption) (by assumption) (by assumption)]; first | done | rfl)
    | (rw [dv_chr (by assumption) (by assumption) (by assumption)]; first | done | rfl)
    | (rw [dv_zoned (by assumption) (by assumption) (by assumption)]; first | done | rfl)
    | (rw [dv_bin (n := bigAt s 0 2 - 65536) (by assumption) (by assumption) (by assumption) (by omega) (by omega)]; first | done | rfl)
    | (rw [dv_bin (n := bigAt s 0 2) (by assumption) (by assumption) (by assumption) (by omega) (by omega)]; first | done | rfl)
    | (rw [dv_bin (n := bigAt s 0 4 - 4294967296) (by assumption) (by assumption) (by assumption) (by omega) (by omega)]; first | done | rfl)
    | (rw [dv_bin (n := bigAt s 0 4) (by assumption) (by assumption) (by assumption) (by omega) (by omega)]; first | done | rfl)
    | (rw [dv_over (n := binN s) (by assumption) (by assumption) (by assumption) rfl (by omega)]; first | done | rfl)
    | (rw [dv_packed (by assumption) (by assumption) (by omega)]; first | done | rfl)
    | (have e : (s.size : Int) = sizeN t := by assumption
       have q := sizeN_ok (t := t) (by assumption)
       omega)
    | (have e : (s.size : Int) = sizeN t := by assumption
       rw [e]; unfold sizeN; rw [if_pos (by omega)]; done)
end
noncomputable def cfg193 : Cfg := ⟨Tryz.prog, 22, tab169, (fun _ _ => []), [], (fun _ => none)⟩
theorem cfg193_l : cfg193.pins = [] ∧ cfg193.P = Tryz.prog ∧ cfg193.N = 22 := ⟨rfl, rfl, rfl⟩
section
attribute [local go_sem] cfg193_l
attribute [local go_sem] encDType decDType etaDType zfDType encVal decVal etaVal zfVal Int.toNat_natCast chr_eq dL_int dM_int getDz_int decL_sl decM_cons decM_nil decI List.length_map bytesD_len bytesD_get encField decField etaField zfField encFmt decFmt etaFmt zfFmt encKField decKField etaKField zfKField encFile decFile etaFile zfFile encRec decRec etaRec zfRec getDz_Field getDz_KField getDz_Rec dL_Field dL_KField dL_Rec dM_Field dM_KField dM_Rec ceqField ceqKField ceqRec List.length_take decL_nil Int.toNat_zero Nat.sub_zero List.drop_zero
attribute [local go_sem ←] List.map_take List.map_drop
theorem con193 (hC : COk cfg193) (f : Fmt) (name : ByteArray) (hp : f.fields.length ≤ 1000000) : Sem Tryz.prog 193 [.d (encFmt f), .d (.s name)] (.d (.i .i64 (idxI f.fields name))) := by
  refine sem_of_awR (C := cfg193) (rs := [.tmp 4]) (fun _ => []) Tryz.func193 rfl rfl rfl rfl rfl rfl ?_
  refine inQ ?_
  repeat' first
    | (with_reducible first | refine thenS_n ?_ | refine inBlockS_n ?_ | refine AW.seq ?_ | refine AW.block ?_)
    | (with_reducible first | (refine AW.runK hC ?_; intro K hK) | (refine AW.drawK hC (by kernel_rfl) ?_; intro K hK))
    | ((with_reducible first | refine erun_g ?_ | refine edraw_g ?_ | refine exitS_g ?_); refine siQ ?_; (try simp (disch := omega) only [w64, wu8]))
    | (with_reducible refine hCheck_g (by kernel_rfl) ?_)
    | ((first | (refine AW.cond rfl (fun h => ?_) (fun h => ?_)) | (refine AW.cond_ub rfl (fun h => ?_) ?_) | (refine AW.cond_nb rfl ?_ (fun h => ?_))) <;> (try replace h := boolH h) <;> (try (exfalso; first | omega | exact absurd h (by decide))))
    | (with_reducible first | refine AW.skip ?_ | refine AW.exit ?_ | refine AW.ret ?_ | refine thenS_r ?_ | refine thenS_e ?_ | refine inBlockS_r ?_ | refine inBlockS_e ?_ | refine inBlockS_e2 rfl ?_ | refine exitQ_r ?_ | refine exitQ_n ?_)
    | (refine AW.loopN 2 rfl (ι := Nat) (fun i => mkS [(1, V.d (.s name)), (2, V.ptr 32 0), (5, V.d (.i .i64 (i : Int)))] ([(32, .live (.box 74 [.d (.s f.name), .d (.sl 4 (f.fields.map encField))]))])) (fun i => i ≤ f.fields.length ∧ idxF (f.fields.take i) name = none) (fun i => f.fields.length - i) (0) ?_ ?_ (fun i hi => ?_) <;> (try dsimp only) <;> (try dsimp only at hi))
    | (refine LoopNext.mk1 2 (i + 1) ?_ ?_ ?_ <;> (try dsimp only))
    | (refine sub_auto ?_; refine subQ ?_)
    | (with_reducible refine And.intro ?_ ?_)
    | (subst hK)
    | exact trivial
  all_goals (try (intros; assumption))
  all_goals (try refine boolG ?_)
  all_goals (try replace hp := boolH hp)
  all_goals (try replace hi := boolH hi)
  all_goals (try replace hj := boolH hj)
  all_goals (try replace hk := boolH hk)
  all_goals (try (intros; trivial))
  all_goals (try (intros; omega))
  all_goals (try (rw [w64 (by omega) (by omega)]; first | done | omega))
  all_goals clear hC
  all_goals first
    | omega
    | rfl
    | (rw [idxI_yes hi.2 (by omega) (by assumption)]; done)
    | exact idxF_step hi.2 (by omega) (by assumption)
    | (rw [idxI_no hi.2 (by omega)]; done)
end
end Go.Ev
