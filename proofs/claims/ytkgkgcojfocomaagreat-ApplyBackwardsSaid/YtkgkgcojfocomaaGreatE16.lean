/- Tools and contracts under the laws of this seat: Dyc71 to Dyc10. -/
import Derived.Test.YtkgkgcojfocomaaGreatE05
import Derived.Test.YtkgkgcojfocomaaGreatE07
import Derived.Test.YtkgkgcojfocomaaGreatE09
set_option linter.unusedVariables false
set_option linter.unusedSimpArgs false
namespace Go.Ev
open Go.Proofs Ty
set_option maxRecDepth 10000
set_option maxHeartbeats 4000000
set_option linter.unusedSimpArgs false
set_option linter.unusedVariables false
attribute [local go_sem] erun_nil erun_cons edraw_eq edrun_nil edrun_cons e1_n e1_g guardSlot_eq lkAll_tmp lkAll_nil lkAll_const lkAll_func val_tmp val_const val_func aget getBox_mk getRow_mk liveRow_mk hp_mk eU_move_n eU_assign_n eU_move eU_assign eU_pick eU_alloc eU_box eU_load eU_store eU_nilCheck eU_binOp eU_unOp eU_fieldAddr eU_field eU_indexAddr eU_index eU_build eU_buildSlice eU_slice eU_extract eU_makeFunc eU_builtin eU_call eU_callv V.cells V.one D.one D.cells newObj nm HS.isFree HS.isLive andOk_some andOk_none List.map_cons List.map_nil Option.bind_some Option.bind_none putL List.cons_append List.nil_append thenS_normal thenS_ret thenS_exit inBlockS_normal inBlockS_ret inBlockS_exit true_and and_true justV justO cval Option.map_some Option.map_none loadAt storeAt ldV ldD mkAgg V.asD spliceL List.take_succ_cons List.take_zero List.drop_succ_cons List.drop_zero List.getElem?_cons_zero List.getElem?_cons_succ List.getElem?_nil List.all_cons List.all_nil Bool.and_true Bool.true_and Bool.and_self List.length_cons List.length_nil vals aopCall argsO argO toD3 toD2 toD1 toDs O.ok O.ok2 O.ok1 O.flat O.flat1 D.flat D.flatA inO inO2 inO1 inOs List.filterMap_nil List.filterMap_cons List.filter_nil List.filter_cons List.nodup_nil decide_true decide_false Bool.not_true Bool.not_false not_true_eq_false not_false_eq_true or_false false_or and_false false_and ne_eq List.append_nil optB guardQ guardRes beq_self_eq_true List.mapM_cons List.mapM_nil Option.pure_def Option.bind_eq_bind true_or or_true or_self callHp ite_self not_true not_false_iff ite_true ite_false if_true if_false Bool.false_eq_true Bool.true_eq_false List.any_nil List.any_cons List.contains_nil List.contains_cons eq_self aopAppend builtinV elems aopBin nilEqS nilEqP aopSlice bound natOf lenOf binD intBin unD bindEq eU_makeMap eU_convert eU_makeSlice aopConv aopMake isShift shiftD eU_lookup eU_mapUpdate getMp_mk List.range_zero Nat.zero_le Nat.zero_mul Nat.zero_add Nat.add_zero List.length_append List.take_length List.isEmpty_nil List.isEmpty_cons V.neg List.flatMap_nil and_self List.range_succ forall_const implies_true Nat.not_lt_zero exitQ_normal exitQ_ret exitS_eq exitO resVs resV_tmp resV_cell takeRow argCells mvAt dle_same dles_same ole_same ole oles dle dles List.nodup_cons List.mem_cons List.not_mem_nil List.drop_length Nat.le_refl Nat.lt_irrefl id_eq Option.some.injEq Bool.or_false Bool.false_or Bool.or_self Bool.or_true Bool.true_or false_implies Bool.and_false Bool.false_and List.reverse_cons List.reverse_nil sh1 mget1 mget aopLookup aopMapUpdate mapOf msetK msetV Option.isSome_some Option.isSome_none Bool.cond_true_left Bool.cond_false_right Bool.cond_true_right Bool.cond_false_left beq_true beq_false Bool.not_not imp_self guardVal notB strBin aopSliceS buildV argOk D.splice kEq Option.toList_some Option.toList_none adel List.getD_cons_zero List.getD_cons_succ bxIds bxId backHp hget one1 aopCall0 aopTurn
attribute [local go_sem] sz3 ag3 zr3 zo3 zd3 by3 sl3 st3 bo3 pt3 ck3 sz9 ag9 zr9 zo9 zd9 by9 sl9 un9 st9 bo9 pt9 ck9 encDType decDType etaDType zfDType encVal decVal etaVal zfVal Int.toNat_natCast chr_eq dL_int dM_int getDz_int decL_sl decM_cons decM_nil decI List.length_map nc0 bytesD_len bytesD_get encField decField etaField zfField encFmt decFmt etaFmt zfFmt encKField decKField etaKField zfKField encFile decFile etaFile zfFile encRec decRec etaRec zfRec getDz_Field getDz_KField getDz_Rec dL_Field dL_KField dL_Rec dM_Field dM_KField dM_Rec ceqField ceqKField ceqRec List.length_take decL_nil Int.toNat_zero Nat.sub_zero List.drop_zero encTable decTable etaTable zfTable encChange decChange etaChange zfChange dL_Change dM_Change List.length_set Nat.le_refl sz48 ag48 zr48 zd48 by48 sl48 st48 bo48 pt48 of48_0 fa48_0 of48_1 fa48_1 of48_2 fa48_2 of48_3 fa48_3 of48_4 fa48_4 pl48 ek48 sz4 ag4 zr4 zo4 zd4 by4 sl4 st4 bo4 pt4 sz72 ag72 zr72 zo72 zd72 by72 el72 sl72 un72 st72 bo72 pt72 sz74 ag74 zr74 zd74 by74 sl74 st74 bo74 pt74 of74_0 fa74_0 of74_1 fa74_1 pl74 sz75 ag75 zr75 zo75 zd75 by75 el75 sl75 un75 st75 bo75 pt75 sz77 ag77 zr77 zd77 by77 sl77 st77 bo77 pt77 of77_0 fa77_0 of77_1 fa77_1 of77_2 fa77_2 of77_3 fa77_3 pl77 sz78 ag78 zr78 zo78 zd78 by78 el78 sl78 un78 st78 bo78 pt78 sz80 ag80 zr80 zd80 by80 sl80 st80 bo80 pt80 of80_0 fa80_0 of80_1 fa80_1 pl80 sz104 ag104 zr104 zd104 by104 sl104 st104 bo104 pt104 of104_0 fa104_0 of104_1 fa104_1 pl104 ek104 sz108 ag108 zr108 zd108 by108 sl108 st108 bo108 pt108 of108_0 fa108_0 of108_1 fa108_1 of108_2 fa108_2 pl108 ek108 sz110 ag110 zr110 zd110 by110 sl110 st110 bo110 pt110 of110_0 fa110_0 of110_1 fa110_1 pl110 ek110 sz113 ag113 zr113 zd113 by113 sl113 st113 bo113 pt113 of113_0 fa113_0 of113_1 fa113_1 pl113 ek113 sz22 ag22 zr22 zo22 zd22 by22 el22 sl22 un22 st22 bo22 pt22 sz26 ag26 zr26 zo26 zd26 by26 sl26 st26 bo26 pt26 ck26 sz50 ag50 zr50 zd50 by50 sl50 st50 bo50 pt50 of50_0 fa50_0 of50_1 fa50_1 of50_2 fa50_2 of50_3 fa50_3 pl50 ek50 sz23 ag23 zr23 zo23 zd23 by23 el23 sl23 un23 st23 bo23 pt23 sz69 ag69 zr69 zo69 zd69 by69 el69 sl69 un69 st69 bo69 pt69
attribute [local go_sem ←] List.map_take List.map_drop
noncomputable def cfg71 : Cfg := ⟨Tryz.prog, 22, tab70, (fun _ _ => []), [], (fun _ => none)⟩
theorem cfg71_l : cfg71.pins = [] ∧ cfg71.P = Tryz.prog ∧ cfg71.N = 22 := ⟨rfl, rfl, rfl⟩
section
attribute [local go_sem] cfg71_l
theorem con71 (hC : COk cfg71) (c : Change) : Sem Tryz.prog 71 [.d (encChange c)] (.tup [.d (encChange (reversedC c).1), .d (.i .i64 (reversedC c).2)]) := by
  refine sem_of_awR (C := cfg71) (rs := [.cell 2 48, .tmp 3]) (fun _ => []) Tryz.func71 rfl rfl rfl rfl rfl rfl ?_
  refine inQ ?_
  repeat' first
    | (with_reducible first | refine thenS_n ?_ | refine inBlockS_n ?_ | refine AW.seq ?_ | refine AW.block ?_)
    | (with_reducible first | (refine AW.runK hC ?_; intro K hK) | (refine AW.drawK hC (by kernel_rfl) ?_; intro K hK))
    | ((with_reducible first | refine erun_g ?_ | refine edraw_g ?_ | refine exitS_g ?_); refine siQ ?_; (try simp (disch := omega) only [w64, wu8]))
    | (with_reducible refine hCheck_g (by kernel_rfl) ?_)
    | ((first | (refine AW.cond rfl (fun h => ?_) (fun h => ?_)) | (refine AW.cond_ub rfl (fun h => ?_) ?_) | (refine AW.cond_nb rfl ?_ (fun h => ?_))) <;> (try replace h := boolH h) <;> (try (exfalso; first | omega | exact absurd h (by decide))))
    | (with_reducible first | refine AW.skip ?_ | refine AW.exit ?_ | refine AW.ret ?_ | refine thenS_r ?_ | refine thenS_e ?_ | refine inBlockS_r ?_ | refine inBlockS_e ?_ | refine inBlockS_e2 rfl ?_ | refine exitQ_r ?_ | refine exitQ_n ?_)
    | (refine sub_auto ?_; refine subQ ?_)
    | (with_reducible refine And.intro ?_ ?_)
    | (subst hK)
    | exact trivial
  all_goals (try (intros; assumption))
  all_goals (try refine boolG ?_)
  all_goals (try replace hp := boolH hp)
  all_goals (try replace hi := boolH hi)
  all_goals (try replace hj := boolH hj)
  all_goals (try replace hk := boolH hk)
  all_goals (try (intros; trivial))
  all_goals (try (intros; omega))
  all_goals (try (rw [w64 (by omega) (by omega)]; first | done | omega))
  all_goals clear hC
  all_goals first
    | omega
    | (simp [reversedC, revKind, zChange, *]; done)
    | (simp_all [reversedC, revKind]; done)
    | (unfold reversedC revKind; grind)
end
noncomputable def cfg92 : Cfg := ⟨Tryz.prog, 9, tab71, (fun _ _ => []), [], (fun _ => none)⟩
theorem cfg92_l : cfg92.pins = [] ∧ cfg92.P = Tryz.prog ∧ cfg92.N = 9 := ⟨rfl, rfl, rfl⟩
section
attribute [local go_sem] cfg92_l
attribute [local go_sem] dL_Table dM_Table
theorem con92 (hC : COk cfg92) (t : Table) (n : ByteArray) : Sem Tryz.prog 92 [.d (encTable t), .d (.cp [.s n])] (.d (.b (decide (t.file.name = n)))) := by
  refine sem_of_awR (C := cfg92) (rs := [.tmp 3]) (fun _ => []) Tryz.func92 rfl rfl rfl rfl rfl rfl ?_
  refine inQ ?_
  repeat' first
    | (with_reducible first | refine thenS_n ?_ | refine inBlockS_n ?_ | refine AW.seq ?_ | refine AW.block ?_)
    | (with_reducible first | (refine AW.runK hC ?_; intro K hK) | (refine AW.drawK hC (by kernel_rfl) ?_; intro K hK))
    | ((with_reducible first | refine erun_g ?_ | refine edraw_g ?_ | refine exitS_g ?_); refine siQ ?_; (try simp (disch := omega) only [w64, wu8]))
    | (with_reducible refine hCheck_g (by kernel_rfl) ?_)
    | ((first | (refine AW.cond rfl (fun h => ?_) (fun h => ?_)) | (refine AW.cond_ub rfl (fun h => ?_) ?_) | (refine AW.cond_nb rfl ?_ (fun h => ?_))) <;> (try replace h := boolH h) <;> (try (exfalso; first | omega | exact absurd h (by decide))))
    | (with_reducible first | refine AW.skip ?_ | refine AW.exit ?_ | refine AW.ret ?_ | refine thenS_r ?_ | refine thenS_e ?_ | refine inBlockS_r ?_ | refine inBlockS_e ?_ | refine inBlockS_e2 rfl ?_ | refine exitQ_r ?_ | refine exitQ_n ?_)
    | (refine sub_auto ?_; refine subQ ?_)
    | (with_reducible refine And.intro ?_ ?_)
    | (subst hK)
    | exact trivial
  all_goals (try (intros; assumption))
  all_goals (try refine boolG ?_)
  all_goals (try replace hp := boolH hp)
  all_goals (try replace hi := boolH hi)
  all_goals (try replace hj := boolH hj)
  all_goals (try replace hk := boolH hk)
  all_goals (try (intros; trivial))
  all_goals (try (intros; omega))
  all_goals (try (rw [w64 (by omega) (by omega)]; first | done | omega))
end
noncomputable def cfg91 : Cfg := ⟨Tryz.prog, 19, tab92, (fun _ _ => []), [], (fun _ => none)⟩
theorem cfg91_l : cfg91.pins = [] ∧ cfg91.P = Tryz.prog ∧ cfg91.N = 19 ∧ cfg91.ti 92 = none ∧ cfg91.T 92 = e92 ∧ cfg91.mv 92 = (fun _ => []) := ⟨rfl, rfl, rfl, rfl, rfl, rfl⟩
section
attribute [local go_sem] cfg91_l e92
attribute [local go_sem] dL_Table dM_Table
theorem con91 (hC : COk cfg91) (l : List Table) (n : ByteArray) (hp : l.length ≤ 1000000) : Sem Tryz.prog 91 [.d (.sl 6 (l.map encTable)), .d (.fn 92 [.cp [.s n]])] (.d (.i .i64 (findT l n))) := by
  refine sem_of_awR (C := cfg91) (rs := [.tmp 4]) (fun _ => []) Tryz.func91 rfl rfl rfl rfl rfl rfl ?_
  refine inQ ?_
  repeat' first
    | (with_reducible first | refine thenS_n ?_ | refine inBlockS_n ?_ | refine AW.seq ?_ | refine AW.block ?_)
    | (refine AW.atR 4 rfl ?_; have hg : ∀ z, (l.map encTable).getD i z = encTable (l.getD i zTable) := fun z => getD_mapT (by omega) z)
    | (with_reducible first | (refine AWh.runK hC ?_; intro K hK) | (refine AWh.drawK hC (by kernel_rfl) ?_; intro K hK))
    | (with_reducible first | (refine AW.runK hC ?_; intro K hK) | (refine AW.drawK hC (by kernel_rfl) ?_; intro K hK))
    | ((with_reducible first | refine erun_g ?_ | refine edraw_g ?_ | refine exitS_g ?_); (first | (simp (maxSteps := 1000000) only [go_sem, ↓reduceIte, reduceCtorEq, Nat.reduceEqDiff, Nat.reduceLT, Nat.reduceLeDiff, Nat.reduceMul, Nat.reduceAdd, Nat.reduceSub, reduceDIte, Nat.reduceBEq, Nat.reduceBNe, hg]) | (refine siQ ?_)); (try simp (disch := omega) only [w64, wu8]))
    | (with_reducible refine hCheck_g (by kernel_rfl) ?_)
    | ((first | (refine AW.cond rfl (fun h => ?_) (fun h => ?_)) | (refine AW.cond_ub rfl (fun h => ?_) ?_) | (refine AW.cond_nb rfl ?_ (fun h => ?_))) <;> (try replace h := boolH h) <;> (try (exfalso; first | omega | exact absurd h (by decide))))
    | (with_reducible first | refine AW.skip ?_ | refine AW.exit ?_ | refine AW.ret ?_ | refine thenS_r ?_ | refine thenS_e ?_ | refine inBlockS_r ?_ | refine inBlockS_e ?_ | refine inBlockS_e2 rfl ?_ | refine exitQ_r ?_ | refine exitQ_n ?_)
    | (refine AW.loopN 2 rfl (ι := Nat) (fun i => mkS [(0, V.d (.sl 6 (l.map encTable))), (1, V.d (.fn 92 [.cp [.s n]])), (7, V.d (.i .i64 (l.length : Int))), (8, V.d (.i .i64 (i : Int)))] ([])) (fun i => i ≤ l.length ∧ ∀ j, j < i → nameHit l n j = 0) (fun i => l.length - i) (0) ?_ ?_ (fun i hi => ?_) <;> (try dsimp only) <;> (try dsimp only at hi))
    | (refine LoopNext.mk1 2 (i + 1) ?_ ?_ ?_ <;> (try dsimp only))
    | (refine sub_auto ?_; refine subQ ?_)
    | (with_reducible refine And.intro ?_ ?_)
    | (subst hK)
    | exact trivial
  all_goals (try (intros; assumption))
  all_goals (try refine boolG ?_)
  all_goals (try replace hp := boolH hp)
  all_goals (try replace hi := boolH hi)
  all_goals (try replace hj := boolH hj)
  all_goals (try replace hk := boolH hk)
  all_goals (try (intros; trivial))
  all_goals (try (intros; omega))
  all_goals (try (rw [w64 (by omega) (by omega)]; first | done | omega))
  all_goals clear hC
  all_goals first
    | omega
    | (rw [find_yes hi.2 (by omega) (by assumption)]; done)
    | (rw [find_end hi.2 (by omega)]; done)
    | exact all_step hi.2 (hit_no (by assumption))
end
noncomputable def cfg69 : Cfg := ⟨Tryz.prog, 8, tab91, (fun _ _ => []), [], (fun _ => none)⟩
theorem cfg69_l : cfg69.pins = [] ∧ cfg69.P = Tryz.prog ∧ cfg69.N = 8 ∧ cfg69.ti 91 = none ∧ cfg69.T 91 = e91 ∧ cfg69.mv 91 = (fun _ => []) ∧ cfg69.ti 92 = none ∧ cfg69.T 92 = e92 ∧ cfg69.mv 92 = (fun _ => []) := ⟨rfl, rfl, rfl, rfl, rfl, rfl, rfl, rfl, rfl⟩
section
attribute [local go_sem] cfg69_l e91 e92
attribute [local go_sem] dL_Table dM_Table
theorem con69 (hC : COk cfg69) (l : List Table) (n : ByteArray) (hp : l.length ≤ 1000000) : Sem Tryz.prog 69 [.d (.sl 6 (l.map encTable)), .d (.s n)] (.d (.i .i64 (findT l n))) := by
  refine sem_of_awR (C := cfg69) (rs := [.tmp 4]) (fun _ => []) Tryz.func69 rfl rfl rfl rfl rfl rfl ?_
  refine inQ ?_
  repeat' first
    | (with_reducible first | refine thenS_n ?_ | refine inBlockS_n ?_ | refine AW.seq ?_ | refine AW.block ?_)
    | (with_reducible first | (refine AW.runK hC ?_; intro K hK) | (refine AW.drawK hC (by kernel_rfl) ?_; intro K hK))
    | ((with_reducible first | refine erun_g ?_ | refine edraw_g ?_ | refine exitS_g ?_); refine siQ ?_; (try simp (disch := omega) only [w64, wu8]))
    | (with_reducible refine hCheck_g (by kernel_rfl) ?_)
    | ((first | (refine AW.cond rfl (fun h => ?_) (fun h => ?_)) | (refine AW.cond_ub rfl (fun h => ?_) ?_) | (refine AW.cond_nb rfl ?_ (fun h => ?_))) <;> (try replace h := boolH h) <;> (try (exfalso; first | omega | exact absurd h (by decide))))
    | (with_reducible first | refine AW.skip ?_ | refine AW.exit ?_ | refine AW.ret ?_ | refine thenS_r ?_ | refine thenS_e ?_ | refine inBlockS_r ?_ | refine inBlockS_e ?_ | refine inBlockS_e2 rfl ?_ | refine exitQ_r ?_ | refine exitQ_n ?_)
    | (refine sub_auto ?_; refine subQ ?_)
    | (with_reducible refine And.intro ?_ ?_)
    | (subst hK)
    | exact trivial
  all_goals (try (intros; assumption))
  all_goals (try refine boolG ?_)
  all_goals (try replace hp := boolH hp)
  all_goals (try replace hi := boolH hi)
  all_goals (try replace hj := boolH hj)
  all_goals (try replace hk := boolH hk)
  all_goals (try (intros; trivial))
  all_goals (try (intros; omega))
  all_goals (try (rw [w64 (by omega) (by omega)]; first | done | omega))
end
noncomputable def cfg65 : Cfg := ⟨Tryz.prog, 33, tab69, (fun _ _ => []), [], (fun _ => none)⟩
theorem cfg65_l : cfg65.pins = [] ∧ cfg65.P = Tryz.prog ∧ cfg65.N = 33 ∧ cfg65.ti 69 = none ∧ cfg65.T 69 = e69 ∧ cfg65.mv 69 = (fun _ => []) ∧ cfg65.ti 90 = none ∧ cfg65.T 90 = e90 ∧ cfg65.mv 90 = (fun _ => []) := ⟨rfl, rfl, rfl, rfl, rfl, rfl, rfl, rfl, rfl⟩
section
attribute [local go_sem] cfg65_l e69 e90
attribute [local go_sem] dL_Table dM_Table
theorem con65 (hC : COk cfg65) (l : List Table) (hp : okTs l) : Sem Tryz.prog 65 [.d (.sl 6 (l.map encTable))] (.d (.i .i64 (tablesErr l))) := by
  refine sem_of_awR (C := cfg65) (rs := [.tmp 2]) (fun _ => []) Tryz.func65 rfl rfl rfl rfl rfl rfl ?_
  refine inQ ?_
  repeat' first
    | (with_reducible first | refine thenS_n ?_ | refine inBlockS_n ?_ | refine AW.seq ?_ | refine AW.block ?_)
    | (refine AW.atR 5 rfl ?_; have hg : ∀ z, (l.map encTable).getD i z = encTable (l.getD i zTable) := fun z => getD_mapT (by omega) z)
    | (with_reducible first | (refine AWh.runK hC ?_; intro K hK) | (refine AWh.drawK hC (by kernel_rfl) ?_; intro K hK))
    | (with_reducible first | (refine AW.runK hC ?_; intro K hK) | (refine AW.drawK hC (by kernel_rfl) ?_; intro K hK))
    | ((with_reducible first | refine erun_g ?_ | refine edraw_g ?_ | refine exitS_g ?_); (first | (simp (maxSteps := 1000000) only [go_sem, ↓reduceIte, reduceCtorEq, Nat.reduceEqDiff, Nat.reduceLT, Nat.reduceLeDiff, Nat.reduceMul, Nat.reduceAdd, Nat.reduceSub, reduceDIte, Nat.reduceBEq, Nat.reduceBNe, hg]) | (refine siQ ?_)); (try simp (disch := omega) only [w64, wu8]))
    | (with_reducible refine hCheck_g (by kernel_rfl) ?_)
    | ((first | (refine AW.cond rfl (fun h => ?_) (fun h => ?_)) | (refine AW.cond_ub rfl (fun h => ?_) ?_) | (refine AW.cond_nb rfl ?_ (fun h => ?_))) <;> (try replace h := boolH h) <;> (try (exfalso; first | omega | exact absurd h (by decide))))
    | (with_reducible first | refine AW.skip ?_ | refine AW.exit ?_ | refine AW.ret ?_ | refine thenS_r ?_ | refine thenS_e ?_ | refine inBlockS_r ?_ | refine inBlockS_e ?_ | refine inBlockS_e2 rfl ?_ | refine exitQ_r ?_ | refine exitQ_n ?_)
    | (refine AW.loopN 4 rfl (ι := Nat) (fun i => mkS [(0, V.d (.sl 6 (l.map encTable))), (10, V.d (.sl 6 (l.map encTable))), (11, V.d (.i .i64 (l.length : Int))), (12, V.d (.i .i64 (i : Int)))] ([])) (fun i => i ≤ l.length ∧ l.length ≤ 8 ∧ ∀ j, j < i → tabE l j = 0) (fun i => l.length - i) (0) ?_ ?_ (fun i hi => ?_) <;> (try dsimp only) <;> (try dsimp only at hi))
    | (refine LoopNext.mk1 4 (i + 1) ?_ ?_ ?_ <;> (try dsimp only))
    | (refine sub_auto ?_; refine subQ ?_)
    | (with_reducible refine And.intro ?_ ?_)
    | (subst hK)
    | exact trivial
  all_goals (try (intros; assumption))
  all_goals (try refine boolG ?_)
  all_goals (try replace hp := boolH hp)
  all_goals (try replace hi := boolH hi)
  all_goals (try replace hj := boolH hj)
  all_goals (try replace hk := boolH hk)
  all_goals (try (intros; trivial))
  all_goals (try (intros; omega))
  all_goals (try (rw [w64 (by omega) (by omega)]; first | done | omega))
  all_goals clear hC
  all_goals first
    | omega
    | exact hp.1
    | exact hp.2 i
    | exact (hp.2 i).1
    | exact (hp.2 i).2.1
    | exact (hp.2 i).2.2
    | (rw [tabs_many (by assumption)]; done)
    | (rw [tabs_bad hi.2.1 hi.2.2 (by omega) (by rw [tabE_err (by assumption)]; assumption), tabE_err (by assumption)]; done)
    | (rw [tabs_bad hi.2.1 hi.2.2 (by omega) (by rw [tabE_dup (by assumption) (by assumption)]; decide), tabE_dup (by assumption) (by assumption)]; done)
    | (rw [tabs_end hi.2.1 hi.2.2 (by omega)]; done)
    | exact all_step hi.2.2 (tabE_ok (by assumption) (by assumption))
end
noncomputable def cfg37 : Cfg := ⟨Tryz.prog, 8, tab65, (fun _ _ => []), [], (fun _ => none)⟩
theorem cfg37_l : cfg37.pins = [] ∧ cfg37.P = Tryz.prog ∧ cfg37.N = 8 := ⟨rfl, rfl, rfl⟩
section
attribute [local go_sem] cfg37_l
attribute [local go_sem] dL_Table dM_Table encEntry decEntry etaEntry zfEntry getDz_Entry dL_Entry dM_Entry
theorem con37 (hC : COk cfg37) (x : Entry) (n : Int) : Sem Tryz.prog 37 [.d (encEntry x), .d (.cp [.i .i64 n])] (.d (.b (decide (x.number ≤ n)))) := by
  refine sem_of_awR (C := cfg37) (rs := [.tmp 3]) (fun _ => []) Tryz.func37 rfl rfl rfl rfl rfl rfl ?_
  refine inQ ?_
  repeat' first
    | (with_reducible first | refine thenS_n ?_ | refine inBlockS_n ?_ | refine AW.seq ?_ | refine AW.block ?_)
    | (with_reducible first | (refine AW.runK hC ?_; intro K hK) | (refine AW.drawK hC (by kernel_rfl) ?_; intro K hK))
    | ((with_reducible first | refine erun_g ?_ | refine edraw_g ?_ | refine exitS_g ?_); refine siQ ?_; (try simp (disch := omega) only [w64, wu8]))
    | (with_reducible refine hCheck_g (by kernel_rfl) ?_)
    | ((first | (refine AW.cond rfl (fun h => ?_) (fun h => ?_)) | (refine AW.cond_ub rfl (fun h => ?_) ?_) | (refine AW.cond_nb rfl ?_ (fun h => ?_))) <;> (try replace h := boolH h) <;> (try (exfalso; first | omega | exact absurd h (by decide))))
    | (with_reducible first | refine AW.skip ?_ | refine AW.exit ?_ | refine AW.ret ?_ | refine thenS_r ?_ | refine thenS_e ?_ | refine inBlockS_r ?_ | refine inBlockS_e ?_ | refine inBlockS_e2 rfl ?_ | refine exitQ_r ?_ | refine exitQ_n ?_)
    | (refine sub_auto ?_; refine subQ ?_)
    | (with_reducible refine And.intro ?_ ?_)
    | (subst hK)
    | exact trivial
  all_goals (try (intros; assumption))
  all_goals (try refine boolG ?_)
  all_goals (try replace hp := boolH hp)
  all_goals (try replace hi := boolH hi)
  all_goals (try replace hj := boolH hj)
  all_goals (try replace hk := boolH hk)
  all_goals (try (intros; trivial))
  all_goals (try (intros; omega))
  all_goals (try (rw [w64 (by omega) (by omega)]; first | done | omega))
end
noncomputable def cfg44 : Cfg := ⟨Tryz.prog, 8, tab37, (fun _ _ => []), [], (fun _ => none)⟩
theorem cfg44_l : cfg44.pins = [] ∧ cfg44.P = Tryz.prog ∧ cfg44.N = 8 := ⟨rfl, rfl, rfl⟩
section
attribute [local go_sem] cfg44_l
attribute [local go_sem] dL_Table dM_Table encEntry decEntry etaEntry zfEntry getDz_Entry dL_Entry dM_Entry
theorem con44 (hC : COk cfg44) (x : Entry) (n : Int) : Sem Tryz.prog 44 [.d (encEntry x), .d (.cp [.i .i64 n])] (.d (.b (decide (n ≤ x.number)))) := by
  refine sem_of_awR (C := cfg44) (rs := [.tmp 3]) (fun _ => []) Tryz.func44 rfl rfl rfl rfl rfl rfl ?_
  refine inQ ?_
  repeat' first
    | (with_reducible first | refine thenS_n ?_ | refine inBlockS_n ?_ | refine AW.seq ?_ | refine AW.block ?_)
    | (with_reducible first | (refine AW.runK hC ?_; intro K hK) | (refine AW.drawK hC (by kernel_rfl) ?_; intro K hK))
    | ((with_reducible first | refine erun_g ?_ | refine edraw_g ?_ | refine exitS_g ?_); refine siQ ?_; (try simp (disch := omega) only [w64, wu8]))
    | (with_reducible refine hCheck_g (by kernel_rfl) ?_)
    | ((first | (refine AW.cond rfl (fun h => ?_) (fun h => ?_)) | (refine AW.cond_ub rfl (fun h => ?_) ?_) | (refine AW.cond_nb rfl ?_ (fun h => ?_))) <;> (try replace h := boolH h) <;> (try (exfalso; first | omega | exact absurd h (by decide))))
    | (with_reducible first | refine AW.skip ?_ | refine AW.exit ?_ | refine AW.ret ?_ | refine thenS_r ?_ | refine thenS_e ?_ | refine inBlockS_r ?_ | refine inBlockS_e ?_ | refine inBlockS_e2 rfl ?_ | refine exitQ_r ?_ | refine exitQ_n ?_)
    | (refine sub_auto ?_; refine subQ ?_)
    | (with_reducible refine And.intro ?_ ?_)
    | (subst hK)
    | exact trivial
  all_goals (try (intros; assumption))
  all_goals (try refine boolG ?_)
  all_goals (try replace hp := boolH hp)
  all_goals (try replace hi := boolH hi)
  all_goals (try replace hj := boolH hj)
  all_goals (try replace hk := boolH hk)
  all_goals (try (intros; trivial))
  all_goals (try (intros; omega))
  all_goals (try (rw [w64 (by omega) (by omega)]; first | done | omega))
end
noncomputable def cfg34 : Cfg := ⟨Tryz.prog, 23, tab44, (fun _ _ => []), [], (fun _ => none)⟩
theorem cfg34_l : cfg34.pins = [] ∧ cfg34.P = Tryz.prog ∧ cfg34.N = 23 ∧ cfg34.ti 61 = none ∧ cfg34.T 61 = e61 ∧ cfg34.mv 61 = (fun _ => []) ∧ cfg34.ti 65 = none ∧ cfg34.T 65 = e65 ∧ cfg34.mv 65 = (fun _ => []) := ⟨rfl, rfl, rfl, rfl, rfl, rfl, rfl, rfl, rfl⟩
section
attribute [local go_sem] cfg34_l e61 e65
attribute [local go_sem] dL_Table dM_Table encEntry decEntry etaEntry zfEntry getDz_Entry dL_Entry dM_Entry
theorem con34 (hC : COk cfg34) (ts : List Table) (l : List Entry) (hp : okTs ts ∧ l.length ≤ 1000000) : Sem Tryz.prog 34 [.d (.sl 6 (ts.map encTable)), .d (.sl 8 (l.map encEntry))] (.tup [.d (.mp ((chkL ts l).map keyU) ((chkL ts l).map fun u => .cp (cellsU u))), .d (.i .i64 (chkE ts l))]) := by
  refine sem_of_awR (C := cfg34) (rs := [.tmp 4, .tmp 5]) (fun _ => []) Tryz.func34 rfl rfl rfl rfl rfl rfl ?_
  refine inQ ?_
  repeat' first
    | (with_reducible first | refine thenS_n ?_ | refine inBlockS_n ?_ | refine AW.seq ?_ | refine AW.block ?_)
    | (with_reducible first | (refine AW.runK hC ?_; intro K hK) | (refine AW.drawK hC (by kernel_rfl) ?_; intro K hK))
    | ((with_reducible first | refine erun_g ?_ | refine edraw_g ?_ | refine exitS_g ?_); refine siQ ?_; (try simp (disch := omega) only [w64, wu8]))
    | (with_reducible refine hCheck_g (by kernel_rfl) ?_)
    | ((first | (refine AW.cond rfl (fun h => ?_) (fun h => ?_)) | (refine AW.cond_ub rfl (fun h => ?_) ?_) | (refine AW.cond_nb rfl ?_ (fun h => ?_))) <;> (try replace h := boolH h) <;> (try (exfalso; first | omega | exact absurd h (by decide))))
    | (with_reducible first | refine AW.skip ?_ | refine AW.exit ?_ | refine AW.ret ?_ | refine thenS_r ?_ | refine thenS_e ?_ | refine inBlockS_r ?_ | refine inBlockS_e ?_ | refine inBlockS_e2 rfl ?_ | refine exitQ_r ?_ | refine exitQ_n ?_)
    | (refine sub_auto ?_; refine subQ ?_)
    | (with_reducible refine And.intro ?_ ?_)
    | (subst hK)
    | exact trivial
  all_goals (try (intros; assumption))
  all_goals (try refine boolG ?_)
  all_goals (try replace hp := boolH hp)
  all_goals (try replace hi := boolH hi)
  all_goals (try replace hj := boolH hj)
  all_goals (try replace hk := boolH hk)
  all_goals (try (intros; trivial))
  all_goals (try (intros; omega))
  all_goals (try (rw [w64 (by omega) (by omega)]; first | done | omega))
  all_goals clear hC
  all_goals first
    | omega
    | exact hp.1
    | exact hp.2
    | (rw [(chk_bad (by assumption)).1]; exact dles_refl _)
    | (rw [(chk_bad (by assumption)).1]; rfl)
    | (rw [(chk_bad (by assumption)).2]; done)
    | (rw [(chk_good (by assumption)).1]; exact dles_refl _)
    | (rw [(chk_good (by assumption)).2]; done)
    | (rw [(chk_good (by assumption)).1]; done)
end
noncomputable def cfg72 : Cfg := ⟨Tryz.prog, 28, (fun _ _ => none), (fun _ _ => []), [0], (fun _ => none)⟩
theorem cfg72_l : cfg72.pins = [0] ∧ cfg72.P = Tryz.prog ∧ cfg72.N = 28 := ⟨rfl, rfl, rfl⟩
section
attribute [local go_sem] cfg72_l
attribute [local go_sem] getDz_Change
theorem con72 (hC : COk cfg72)  (l : List Change) (hp : l.length ≤ 1000000) : SemJ Tryz.prog 72 48 5 (l.map encChange) (l.reverse.map encChange) := by
  refine semJ_of_aw (C := cfg72) Tryz.func72 rfl rfl (by decide) rfl rfl (flatCh l) (flatCh _) (by simp) ?_
  simp only [enterS, enterSl, enterHp, inO, inO2, inO1, inOs, List.append_nil, List.nil_append, Nat.mul_zero, List.cons_append, Nat.zero_add, Nat.reduceAdd, Nat.reduceMul, encDType, decDType, etaDType, zfDType, encVal, decVal, etaVal, zfVal, Int.toNat_natCast, chr_eq, dL_int, dM_int, getDz_int, decL_sl, decM_cons, decM_nil, decI, List.length_map, nc0, bytesD_len, bytesD_get, encField, decField, etaField, zfField, encFmt, decFmt, etaFmt, zfFmt, encKField, decKField, etaKField, zfKField, encFile, decFile, etaFile, zfFile, encRec, decRec, etaRec, zfRec, getDz_Field, getDz_KField, getDz_Rec, dL_Field, dL_KField, dL_Rec, dM_Field, dM_KField, dM_Rec, ceqField, ceqKField, ceqRec, ← List.map_take, ← List.map_drop, List.length_take, decL_nil, Int.toNat_zero, Nat.sub_zero, List.drop_zero, encTable, decTable, etaTable, zfTable, encChange, decChange, etaChange, zfChange, dL_Change, dM_Change, List.length_set, Nat.le_refl, getDz_Change]
  repeat' first
    | (with_reducible first | refine thenS_n ?_ | refine inBlockS_n ?_ | refine AW.seq ?_ | refine AW.block ?_)
    | (refine AW.atR 3 rfl ?_; have hj : ((l.length : Int) - 1 - (i : Int)).toNat = l.length - 1 - i := (by omega); have hl := revTo_len l zChange i; have hs := revTo_at (l := l) (i := i) (by omega) (by omega))
    | (with_reducible first | (refine AWh.runK hC ?_; intro K hK) | (refine AWh.drawK hC (by kernel_rfl) ?_; intro K hK))
    | (with_reducible first | (refine AW.runK hC ?_; intro K hK) | (refine AW.drawK hC (by kernel_rfl) ?_; intro K hK))
    | ((with_reducible first | refine erun_g ?_ | refine edraw_g ?_ | refine exitS_g ?_); (first | (simp (maxSteps := 1000000) only [go_sem, ↓reduceIte, reduceCtorEq, Nat.reduceEqDiff, Nat.reduceLT, Nat.reduceLeDiff, Nat.reduceMul, Nat.reduceAdd, Nat.reduceSub, reduceDIte, Nat.reduceBEq, Nat.reduceBNe, hj, hl, hs]) | (refine siQ ?_)); (try simp (disch := omega) only [w64, wu8]))
    | (with_reducible refine hCheck_g (by kernel_rfl) ?_)
    | ((first | (refine AW.cond rfl (fun h => ?_) (fun h => ?_)) | (refine AW.cond_ub rfl (fun h => ?_) ?_) | (refine AW.cond_nb rfl ?_ (fun h => ?_))) <;> (try replace h := boolH h) <;> (try (exfalso; first | omega | exact absurd h (by decide))))
    | (with_reducible first | refine AW.skip ?_ | refine AW.exit ?_ | refine AW.ret ?_ | refine thenS_r ?_ | refine thenS_e ?_ | refine inBlockS_r ?_ | refine inBlockS_e ?_ | refine inBlockS_e2 rfl ?_ | refine exitQ_r ?_ | refine exitQ_n ?_)
    | (refine AW.loopN 1 rfl (ι := Nat) (fun i => mkS [(0, V.row 0 5 0 l.length), (2, V.d (.i .i64 (i : Int))), (3, V.d (.i .i64 ((l.length : Int) - 1 - (i : Int))))] ([(0, .live (.row 48 5 false ((revTo l zChange i).map encChange)))])) (fun i => 2 * i ≤ l.length) (fun i => l.length - 2 * i) (0) ?_ ?_ (fun i hi => ?_) <;> (try dsimp only) <;> (try dsimp only at hi))
    | (refine LoopNext.mk1 1 (i + 1) ?_ ?_ ?_ <;> (try dsimp only))
    | (refine sub_auto ?_; refine subQ ?_)
    | (with_reducible refine And.intro ?_ ?_)
    | (subst hK)
    | exact trivial
  all_goals (try (intros; assumption))
  all_goals (try refine boolG ?_)
  all_goals (try replace hp := boolH hp)
  all_goals (try replace hi := boolH hi)
  all_goals (try replace hj := boolH hj)
  all_goals (try replace hk := boolH hk)
  all_goals (try (intros; trivial))
  all_goals (try (intros; omega))
  all_goals (try (rw [w64 (by omega) (by omega)]; first | done | omega))
  all_goals (try have hl := revTo_len l zChange i)
  all_goals first
    | omega
    | exact .inl trivial
    | exact .inl rfl
    | exact .inr rfl
    | exact dles_refl _
    | exact dles_of_eq revTo_step
    | exact ⟨false, by rw [← revTo_end l zChange hi (by omega)]; rfl⟩
end
theorem rev72 (l : List Change) (h : l.length ≤ 1000000) : SemJ Tryz.prog 72 48 5 (l.map encChange) (l.reverse.map encChange) := con72 (cok_of (TabOk.nil _) follows) l h
noncomputable def cfg36 : Cfg := ⟨Tryz.prog, 43, tab34, (fun _ _ => []), [], (fun _ => none)⟩
theorem cfg36_l : cfg36.pins = [] ∧ cfg36.P = Tryz.prog ∧ cfg36.N = 43 ∧ cfg36.ti 71 = none ∧ cfg36.T 71 = e71 ∧ cfg36.mv 71 = (fun _ => []) ∧ cfg36.ti 72 = none ∧ cfg36.ti 37 = none ∧ cfg36.T 37 = e37 ∧ cfg36.mv 37 = (fun _ => []) ∧ cfg36.ti 44 = none ∧ cfg36.T 44 = e44 ∧ cfg36.mv 44 = (fun _ => []) := ⟨rfl, rfl, rfl, rfl, rfl, rfl, rfl, rfl, rfl, rfl, rfl, rfl, rfl⟩
section
attribute [local go_sem] cfg36_l e71 e37 e44
attribute [local go_sem] dL_Table dM_Table encEntry decEntry etaEntry zfEntry getDz_Entry dL_Entry dM_Entry encWant List.length_reverse
theorem con36 (hC : COk cfg36) (l : List Entry) (back : Bool) (w : Want) (hp : l.length ≤ 1000000) : Sem Tryz.prog 36 [.d (.sl 8 (l.map encEntry)), .d (.b back), .d (encWant w)] (.d (.sl 5 ((changesOf w back l).map encChange))) := by
  refine sem_of_awR (C := cfg36) (rs := [.tmp 6]) (fun _ => []) Tryz.func36 rfl rfl rfl rfl rfl rfl ?_
  refine inQ ?_
  repeat' first
    | (refine AW.turnJ (id := 112) (rev72 (chgsOf w back (l.take i)) (by have := chgs_len (w := w) (back := back) (l := l) (i := i); omega)) ⟨_, Tryz.func72, rfl, rfl⟩ (flatCh _) (by simp) (flatCh _) rfl rfl rfl rfl rfl rfl (by show _ < 43; decide) (by rw [List.length_map]; rfl) rfl rfl rfl ?_)
    | (with_reducible first | refine thenS_n ?_ | refine inBlockS_n ?_ | refine AW.seq ?_ | refine AW.block ?_)
    | (refine AW.atR 5 rfl ?_; obtain ⟨up, n⟩ := w; cases up)
    | (with_reducible first | (refine AWh.runK hC ?_; intro K hK) | (refine AWh.drawK hC (by kernel_rfl) ?_; intro K hK))
    | (with_reducible first | (refine AW.runK hC ?_; intro K hK) | (refine AW.drawK hC (by kernel_rfl) ?_; intro K hK))
    | ((with_reducible first | refine erun_g ?_ | refine edraw_g ?_ | refine exitS_g ?_); refine siQ ?_; (try simp (disch := omega) only [w64, wu8]))
    | (with_reducible refine hCheck_g (by kernel_rfl) ?_)
    | ((first | (refine AW.cond rfl (fun h => ?_) (fun h => ?_)) | (refine AW.cond_ub rfl (fun h => ?_) ?_) | (refine AW.cond_nb rfl ?_ (fun h => ?_))) <;> (try replace h := boolH h) <;> (try (exfalso; first | omega | exact absurd h (by decide))))
    | (with_reducible first | refine AW.skip ?_ | refine AW.exit ?_ | refine AW.ret ?_ | refine thenS_r ?_ | refine thenS_e ?_ | refine inBlockS_r ?_ | refine inBlockS_e ?_ | refine inBlockS_e2 rfl ?_ | refine exitQ_r ?_ | refine exitQ_n ?_)
    | (refine AW.loopN 3 rfl (ι := Nat) (fun i => mkS [(1, V.d (.b back)), (2, V.d (encWant w)), (7, V.row 112 5 0 (chgsOf w back (l.take i)).length), (11, V.d (.sl 8 (l.map encEntry))), (12, V.d (.i .i64 (l.length : Int))), (13, V.d (.i .i64 (i : Int)))] ([(112, .live (.row 48 5 false ((chgsOf w back (l.take i)).map encChange)))])) (fun i => i ≤ l.length) (fun i => l.length - i) (0) ?_ ?_ (fun i hi => ?_) <;> (try dsimp only) <;> (try dsimp only at hi))
    | (refine LoopNext.mk1 3 (i + 1) ?_ ?_ ?_ <;> (try dsimp only))
    | (refine sub_auto ?_; refine subQ ?_)
    | (with_reducible refine And.intro ?_ ?_)
    | (subst hK)
    | exact trivial
  all_goals (try (intros; assumption))
  all_goals (try refine boolG ?_)
  all_goals (try replace hp := boolH hp)
  all_goals (try replace hi := boolH hi)
  all_goals (try replace hj := boolH hj)
  all_goals (try replace hk := boolH hk)
  all_goals (try (intros; trivial))
  all_goals (try (intros; omega))
  all_goals (try (rw [w64 (by omega) (by omega)]; first | done | omega))
  all_goals clear hC
  all_goals first
    | omega
    | (intro d hd; subst hd; exact ⟨rfl, by simp [D.cells, D.one]⟩)
    | (have := chgs_len (w := ⟨true, n⟩) (back := back) (l := l) (i := i); omega)
    | (have := chgs_len (w := ⟨false, n⟩) (back := back) (l := l) (i := i); omega)
    | exact dles_refl _
    | (rw [chgs_no (by omega) (by rw [takenE_f]; omega)]; done)
    | (rw [chgs_no (by omega) (by rw [takenE_f]; omega)]; exact dles_refl _)
    | (subst h; rw [chgs_yes (by omega) (by rw [takenE_f]; omega), List.length_append]; rfl)
    | (subst h; rw [chgs_yes (by omega) (by rw [takenE_f]; omega), List.map_append]; exact dles_refl _)
    | (rw [chgs_no (by omega) (by rw [takenE_t]; omega)]; done)
    | (rw [chgs_no (by omega) (by rw [takenE_t]; omega)]; exact dles_refl _)
    | (subst h; rw [chgs_yes (by omega) (by rw [takenE_t]; omega), List.length_append]; rfl)
    | (subst h; rw [chgs_yes (by omega) (by rw [takenE_t]; omega), List.map_append]; exact dles_refl _)
    | (subst h; rw [changes_t (by omega)]; exact dles_refl _)
    | (subst h; rw [changes_f (by omega)]; exact dles_refl _)
    | (subst h; rw [changes_t2 (by omega)]; exact dles_refl _)
end
noncomputable def cfg35 : Cfg := ⟨Tryz.prog, 78, tab36, (fun _ _ => []), [], (fun _ => none)⟩
theorem cfg35_l : cfg35.pins = [] ∧ cfg35.P = Tryz.prog ∧ cfg35.N = 78 ∧ cfg35.ti 66 = none ∧ cfg35.T 66 = e66 ∧ cfg35.mv 66 = (fun _ => []) ∧ cfg35.ti 67 = none ∧ cfg35.T 67 = e67 ∧ cfg35.mv 67 = (fun _ => []) ∧ cfg35.ti 68 = none ∧ cfg35.T 68 = e68 ∧ cfg35.mv 68 = (fun _ => []) ∧ cfg35.ti 69 = none ∧ cfg35.T 69 = e69 ∧ cfg35.mv 69 = (fun _ => []) ∧ cfg35.ti 70 = none ∧ cfg35.T 70 = e70 ∧ cfg35.mv 70 = (fun _ => []) := ⟨rfl, rfl, rfl, rfl, rfl, rfl, rfl, rfl, rfl, rfl, rfl, rfl, rfl, rfl, rfl, rfl, rfl, rfl⟩
section
attribute [local go_sem] cfg35_l e66 e67 e68 e69 e70
attribute [local go_sem] dL_Table dM_Table getDz_Change List.take_length
theorem con35 (hC : COk cfg35) (ts : List Table) (cs : List Change) (hp : okTs ts ∧ cs.length ≤ 1000000) : Sem Tryz.prog 35 [.d (.sl 6 (ts.map encTable)), .d (.sl 5 (cs.map encChange))] (.tup [.d (.sl 6 ((madeT ts cs).1.map encTable)), .d (.i .i64 (madeT ts cs).2.1), .d (.i .i64 (madeT ts cs).2.2)]) := by
  have hB : ts.length ≤ 1000000 := hp.1.1
  refine sem_of_awR (C := cfg35) (rs := [.tmp 4, .tmp 5, .tmp 6]) (fun _ => []) Tryz.func35 rfl rfl rfl rfl rfl rfl ?_
  refine inQ ?_
  repeat' first
    | (with_reducible first | refine thenS_n ?_ | refine inBlockS_n ?_ | refine AW.seq ?_ | refine AW.block ?_)
    | (refine AW.atR 4 rfl ?_; have hg : ∀ z, (ts.map encTable).getD i z = encTable (ts.getD i zTable) := fun z => getD_mapT (by omega) z)
    | (refine AW.atR 8 rfl ?_; refine AWh.mk ?_; refine AW.frzBox 144 [.s (ts.getD i zTable).file.name, .s (ts.getD i zTable).file.format.name, .sl 4 ((ts.getD i zTable).file.format.fields.map encField), .sl 2 ((ts.getD i zTable).file.keys.map encKField), .b (ts.getD i zTable).file.unique, .sl 2 ((ts.getD i zTable).records.map encRec)] [416, 528, 608] rfl (by simp (maxSteps := 1000000) only [toDs, toD1, go_sem, ↓reduceIte, reduceCtorEq, Nat.reduceEqDiff, Nat.reduceLT, Nat.reduceLeDiff, Nat.reduceMul, Nat.reduceAdd, Nat.reduceSub, reduceDIte, Nat.reduceBEq, Nat.reduceBNe, encDType, decDType, etaDType, zfDType, encVal, decVal, etaVal, zfVal, Int.toNat_natCast, chr_eq, dL_int, dM_int, getDz_int, decL_sl, decM_cons, decM_nil, decI, List.length_map, nc0, bytesD_len, bytesD_get, encField, decField, etaField, zfField, encFmt, decFmt, etaFmt, zfFmt, encKField, decKField, etaKField, zfKField, encFile, decFile, etaFile, zfFile, encRec, decRec, etaRec, zfRec, getDz_Field, getDz_KField, getDz_Rec, dL_Field, dL_KField, dL_Rec, dM_Field, dM_KField, dM_Rec, ceqField, ceqKField, ceqRec, ← List.map_take, ← List.map_drop, List.length_take, decL_nil, Int.toNat_zero, Nat.sub_zero, List.drop_zero, encTable, decTable, etaTable, zfTable, encChange, decChange, etaChange, zfChange, dL_Change, dM_Change, List.length_set, Nat.le_refl, dL_Table, dM_Table, encEntry, decEntry, etaEntry, zfEntry, getDz_Entry, dL_Entry, dM_Entry]) rfl rfl ?_; simp only [frzL, HS.frz, List.map_cons, List.map_nil, List.contains_cons, List.contains_nil, List.elem_cons, List.elem_nil, Nat.reduceEqDiff, Nat.reduceBEq, Bool.or_false, Bool.false_or, Bool.or_true, Bool.true_or, ↓reduceIte, Bool.false_eq_true]; refine AW.atR 8 rfl ?_)
    | (refine AW.atR 16 rfl ?_; have hb := findT_lt (mTo ts cs k).1 (cs.getD k zChange).file; have hg : ∀ z, ((mTo ts cs k).1.map encTable).getD (findT (mTo ts cs k).1 (cs.getD k zChange).file).toNat z = encTable ((mTo ts cs k).1.getD (findT (mTo ts cs k).1 (cs.getD k zChange).file).toNat zTable) := fun z => getD_mapT (by omega) z)
    | (with_reducible first | (refine AWh.runK hC ?_; intro K hK) | (refine AWh.drawK hC (by kernel_rfl) ?_; intro K hK))
    | (with_reducible first | (refine AW.runK hC ?_; intro K hK) | (refine AW.drawK hC (by kernel_rfl) ?_; intro K hK))
    | ((with_reducible first | refine erun_g ?_ | refine edraw_g ?_ | refine exitS_g ?_); (first | (simp (maxSteps := 1000000) only [go_sem, ↓reduceIte, reduceCtorEq, Nat.reduceEqDiff, Nat.reduceLT, Nat.reduceLeDiff, Nat.reduceMul, Nat.reduceAdd, Nat.reduceSub, reduceDIte, Nat.reduceBEq, Nat.reduceBNe, hg]) | (refine siQ ?_)); (try simp (disch := omega) only [w64, wu8]))
    | (with_reducible refine hCheck_g (by kernel_rfl) ?_)
    | ((first | (refine AW.cond rfl (fun h => ?_) (fun h => ?_)) | (refine AW.cond_ub rfl (fun h => ?_) ?_) | (refine AW.cond_nb rfl ?_ (fun h => ?_))) <;> (try replace h := boolH h) <;> (try (exfalso; first | omega | exact absurd h (by decide))))
    | (with_reducible first | refine AW.skip ?_ | refine AW.exit ?_ | refine AW.ret ?_ | refine thenS_r ?_ | refine thenS_e ?_ | refine inBlockS_r ?_ | refine inBlockS_e ?_ | refine inBlockS_e2 rfl ?_ | refine exitQ_r ?_ | refine exitQ_n ?_)
    | (refine AW.loopN 3 rfl (ι := Nat) (fun i => mkS [(1, V.d (.sl 5 (cs.map encChange))), (7, V.row 112 6 0 (ts.take i).length), (16, V.d (.sl 6 (ts.map encTable))), (17, V.d (.i .i64 (ts.length : Int))), (18, V.d (.i .i64 (i : Int)))] ([(112, .live (.row 80 6 false ((ts.take i).map encTable)))])) (fun i => i ≤ ts.length) (fun i => ts.length - i) (0) ?_ ?_ (fun i hi => ?_) <;> (try dsimp only) <;> (try dsimp only at hi))
    | (refine LoopNext.mk1 3 (i + 1) ?_ ?_ ?_ <;> (try dsimp only))
    | (refine AW.loopN 12 rfl (ι := Nat) (fun k => mkS [(7, V.row 112 6 0 (mTo ts cs k).1.length), (10, V.d (.i .i64 (mTo ts cs k).2)), (45, V.d (.sl 5 (cs.map encChange))), (46, V.d (.i .i64 (cs.length : Int))), (47, V.d (.i .i64 (k : Int)))] ([(112, .live (.row 80 6 false ((mTo ts cs k).1.map encTable)))])) (fun k => k ≤ cs.length ∧ ∀ j, j < k → mErr ts cs j = 0) (fun k => cs.length - k) (0) ?_ ?_ (fun k hk => ?_) <;> (try dsimp only) <;> (try dsimp only at hk))
    | (refine LoopNext.mk1 12 (k + 1) ?_ ?_ ?_ <;> (try dsimp only))
    | (refine sub_auto ?_; refine subQ ?_)
    | (with_reducible refine And.intro ?_ ?_)
    | (subst hK)
    | exact trivial
  all_goals (try (intros; assumption))
  all_goals (try refine boolG ?_)
  all_goals (try replace hp := boolH hp)
  all_goals (try replace hi := boolH hi)
  all_goals (try replace hj := boolH hj)
  all_goals (try replace hk := boolH hk)
  all_goals (try (intros; trivial))
  all_goals (try (intros; omega))
  all_goals (try (rw [w64 (by omega) (by omega)]; first | done | omega))
  all_goals clear hC
  all_goals (try have OK := mTo_ok (cs := cs) hp.1 hk.2)
  all_goals (try have CN := mTo_cnt ts cs k)
  all_goals (try have LN := mTo_len ts cs k)
  all_goals (try simp only [changed_snd] at *)
  all_goals first
    | omega
    | exact (hp.1.2 i).1
    | exact (hp.1.2 i).2.1
    | exact (hp.1.2 i).2.2
    | exact hp.1.1
    | exact OK.1
    | exact (OK.2 _).1
    | exact (OK.2 _).2.1
    | exact (OK.2 _).2.2
    | (rw [List.take_of_length_le (by omega)]; exact dles_refl _)
    | (rw [List.take_take, List.take_of_length_le (by omega)]; exact dles_refl _)
    | (rw [take_getD zTable (by omega), List.map_append]; exact dles_refl _)
    | (intro d hd; subst hd; exact ⟨rfl, by simp [D.cells, D.one]⟩)
    | (rw [made_bad hk.2 (by omega) (by rw [mErr_at (by omega)]; assumption)]; done)
    | (rw [made_bad hk.2 (by omega) (by rw [mErr_at (by omega)]; assumption)]; rfl)
    | (rw [made_bad hk.2 (by omega) (by rw [mErr_at (by omega)]; assumption), mErr_at (by omega)]; done)
    | exact all_step hk.2 (mErr_skip (by omega))
    | exact all_step hk.2 (by rw [mErr_at (by omega)]; assumption)
    | (have L0 := mTo_len ts cs 0; have L1 := mTo_len ts cs (k + 1); omega)
    | (have L0 := mTo_len ts cs 0; omega)
    | (rw [mTo_skip (by omega)]; done)
    | (rw [mTo_skip (by omega)]; exact dles_refl _)
    | (rw [mTo_at (by omega)]; done)
    | (rw [mTo_at (by omega), w64 (by omega) (by omega)]; done)
    | (rw [mTo_at (by omega), w64 (by omega) (by omega)]; rfl)
    | (rw [mTo_at (by omega), List.map_set]; exact dles_refl _)
    | (rw [changed_ok (by assumption), mTo_at (by omega), List.map_set]; exact dles_refl _)
    | (rw [made_end hk.2 (by omega)]; done)
    | (rw [made_end hk.2 (by omega)]; exact dles_refl _)
end
noncomputable def cfg10 : Cfg := ⟨Tryz.prog, 53, tab35, (fun _ _ => []), [], (fun _ => none)⟩
theorem cfg10_l : cfg10.pins = [] ∧ cfg10.P = Tryz.prog ∧ cfg10.N = 53 ∧ cfg10.ti 34 = none ∧ cfg10.T 34 = e34 ∧ cfg10.mv 34 = (fun _ => []) ∧ cfg10.ti 35 = none ∧ cfg10.T 35 = e35 ∧ cfg10.mv 35 = (fun _ => []) ∧ cfg10.ti 36 = none ∧ cfg10.T 36 = e36 ∧ cfg10.mv 36 = (fun _ => []) ∧ cfg10.ti 37 = none ∧ cfg10.T 37 = e37 ∧ cfg10.mv 37 = (fun _ => []) := ⟨rfl, rfl, rfl, rfl, rfl, rfl, rfl, rfl, rfl, rfl, rfl, rfl, rfl, rfl, rfl⟩
section
attribute [local go_sem] cfg10_l e34 e35 e36 e37
attribute [local go_sem] dL_Table dM_Table encEntry decEntry etaEntry zfEntry getDz_Entry dL_Entry dM_Entry encWant decWant
theorem con10 (hC : COk cfg10) (ts : List Table) (l : List Entry) (n : Int) (hp : okTs ts ∧ l.length ≤ 1000000) : Sem Tryz.prog 10 [.d (.sl 6 (ts.map encTable)), .d (.sl 8 (l.map encEntry)), .d (.i .i64 n)] (.tup [.d (.sl 6 ((applyT ts l n).1.map encTable)), .d (.i .i64 (applyT ts l n).2.1), .d (.i .i64 (applyT ts l n).2.2)]) := by
  refine sem_of_awR (C := cfg10) (rs := [.tmp 6, .tmp 7, .tmp 8]) (fun _ => []) Tryz.func10 rfl rfl rfl rfl rfl rfl ?_
  refine inQ ?_
  repeat' first
    | (with_reducible first | refine thenS_n ?_ | refine inBlockS_n ?_ | refine AW.seq ?_ | refine AW.block ?_)
    | (refine AW.atR 6 rfl ?_; have hq := (chkE_ok (ts := ts) (l := l) (by assumption)).2; have h0 := num_chk hq (j := 0) (by omega); have h1 := num_chk hq (j := l.length - 1) (by omega); have hj : ((l.length : Int) - 1).toNat = l.length - 1 := (by omega))
    | (with_reducible first | (refine AWh.runK hC ?_; intro K hK) | (refine AWh.drawK hC (by kernel_rfl) ?_; intro K hK))
    | (with_reducible first | (refine AW.runK hC ?_; intro K hK) | (refine AW.drawK hC (by kernel_rfl) ?_; intro K hK))
    | ((with_reducible first | refine erun_g ?_ | refine edraw_g ?_ | refine exitS_g ?_); (first | (simp (maxSteps := 1000000) only [go_sem, ↓reduceIte, reduceCtorEq, Nat.reduceEqDiff, Nat.reduceLT, Nat.reduceLeDiff, Nat.reduceMul, Nat.reduceAdd, Nat.reduceSub, reduceDIte, Nat.reduceBEq, Nat.reduceBNe, hj]) | (refine siQ ?_)); (try simp (disch := omega) only [w64, wu8]))
    | (with_reducible refine hCheck_g (by kernel_rfl) ?_)
    | ((first | (refine AW.cond rfl (fun h => ?_) (fun h => ?_)) | (refine AW.cond_ub rfl (fun h => ?_) ?_) | (refine AW.cond_nb rfl ?_ (fun h => ?_))) <;> (try replace h := boolH h) <;> (try (exfalso; first | omega | exact absurd h (by decide))))
    | (with_reducible first | refine AW.skip ?_ | refine AW.exit ?_ | refine AW.ret ?_ | refine thenS_r ?_ | refine thenS_e ?_ | refine inBlockS_r ?_ | refine inBlockS_e ?_ | refine inBlockS_e2 rfl ?_ | refine exitQ_r ?_ | refine exitQ_n ?_)
    | (refine sub_auto ?_; refine subQ ?_)
    | (with_reducible refine And.intro ?_ ?_)
    | (subst hK)
    | exact trivial
  all_goals (try (intros; assumption))
  all_goals (try refine boolG ?_)
  all_goals (try replace hp := boolH hp)
  all_goals (try replace hi := boolH hi)
  all_goals (try replace hj := boolH hj)
  all_goals (try replace hk := boolH hk)
  all_goals (try (intros; trivial))
  all_goals (try (intros; omega))
  all_goals (try (rw [w64 (by omega) (by omega)]; first | done | omega))
  all_goals clear hC
  all_goals (try have ES := edge_some (l := l) (by omega))
  all_goals (try have EN := edge_none (l := l) (by omega))
  all_goals first
    | omega
    | exact hp.1
    | exact hp.2
    | exact hp.1.1
    | (rw [apply_err (by assumption)]; done)
    | (rw [apply_err (by assumption)]; rfl)
    | (rw [apply_err (by assumption)]; exact dles_refl _)
    | (rw [apply_out (by assumption) (by omega)]; done)
    | (rw [apply_out (by assumption) (by omega)]; rfl)
    | (rw [apply_out (by assumption) (by omega)]; exact dles_refl _)
    | (rw [apply_in (by assumption) (by omega)]; done)
    | (rw [apply_in (by assumption) (by omega)]; exact dles_refl _)
    | (have := changes_len ⟨true, n⟩ false l; omega)
    | (have := changes_len ⟨false, n⟩ true l; omega)
end
end Go.Ev
