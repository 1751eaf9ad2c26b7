/- Tools and contracts under the laws of this seat: Dyc165 to Dyc70. -/
import Derived.Test.YtkgkgcojfocomaaGreatE05
set_option linter.unusedVariables false
set_option linter.unusedSimpArgs false
namespace Go.Ev
open Go.Proofs Ty
set_option maxRecDepth 10000
set_option maxHeartbeats 4000000
set_option linter.unusedSimpArgs false
set_option linter.unusedVariables false
attribute [local go_sem] erun_nil erun_cons edraw_eq edrun_nil edrun_cons e1_n e1_g guardSlot_eq lkAll_tmp lkAll_nil lkAll_const lkAll_func val_tmp val_const val_func aget getBox_mk getRow_mk liveRow_mk hp_mk eU_move_n eU_assign_n eU_move eU_assign eU_pick eU_alloc eU_box eU_load eU_store eU_nilCheck eU_binOp eU_unOp eU_fieldAddr eU_field eU_indexAddr eU_index eU_build eU_buildSlice eU_slice eU_extract eU_makeFunc eU_builtin eU_call eU_callv V.cells V.one D.one D.cells newObj nm HS.isFree HS.isLive andOk_some andOk_none List.map_cons List.map_nil Option.bind_some Option.bind_none putL List.cons_append List.nil_append thenS_normal thenS_ret thenS_exit inBlockS_normal inBlockS_ret inBlockS_exit true_and and_true justV justO cval Option.map_some Option.map_none loadAt storeAt ldV ldD mkAgg V.asD spliceL List.take_succ_cons List.take_zero List.drop_succ_cons List.drop_zero List.getElem?_cons_zero List.getElem?_cons_succ List.getElem?_nil List.all_cons List.all_nil Bool.and_true Bool.true_and Bool.and_self List.length_cons List.length_nil vals aopCall argsO argO toD3 toD2 toD1 toDs O.ok O.ok2 O.ok1 O.flat O.flat1 D.flat D.flatA inO inO2 inO1 inOs List.filterMap_nil List.filterMap_cons List.filter_nil List.filter_cons List.nodup_nil decide_true decide_false Bool.not_true Bool.not_false not_true_eq_false not_false_eq_true or_false false_or and_false false_and ne_eq List.append_nil optB guardQ guardRes beq_self_eq_true List.mapM_cons List.mapM_nil Option.pure_def Option.bind_eq_bind true_or or_true or_self callHp ite_self not_true not_false_iff ite_true ite_false if_true if_false Bool.false_eq_true Bool.true_eq_false List.any_nil List.any_cons List.contains_nil List.contains_cons eq_self aopAppend builtinV elems aopBin nilEqS nilEqP aopSlice bound natOf lenOf binD intBin unD bindEq eU_makeMap eU_convert eU_makeSlice aopConv aopMake isShift shiftD eU_lookup eU_mapUpdate getMp_mk List.range_zero Nat.zero_le Nat.zero_mul Nat.zero_add Nat.add_zero List.length_append List.take_length List.isEmpty_nil List.isEmpty_cons V.neg List.flatMap_nil and_self List.range_succ forall_const implies_true Nat.not_lt_zero exitQ_normal exitQ_ret exitS_eq exitO resVs resV_tmp resV_cell takeRow argCells mvAt dle_same dles_same ole_same ole oles dle dles List.nodup_cons List.mem_cons List.not_mem_nil List.drop_length Nat.le_refl Nat.lt_irrefl id_eq Option.some.injEq Bool.or_false Bool.false_or Bool.or_self Bool.or_true Bool.true_or false_implies Bool.and_false Bool.false_and List.reverse_cons List.reverse_nil sh1 mget1 mget aopLookup aopMapUpdate mapOf msetK msetV Option.isSome_some Option.isSome_none Bool.cond_true_left Bool.cond_false_right Bool.cond_true_right Bool.cond_false_left beq_true beq_false Bool.not_not imp_self guardVal notB strBin aopSliceS buildV argOk D.splice kEq Option.toList_some Option.toList_none adel List.getD_cons_zero List.getD_cons_succ bxIds bxId backHp hget one1 aopCall0 aopTurn
attribute [local go_sem] sz9 ag9 zr9 zo9 zd9 by9 sl9 un9 st9 bo9 pt9 ck9 encDType decDType etaDType zfDType encVal decVal etaVal zfVal Int.toNat_natCast chr_eq dL_int dM_int getDz_int decL_sl decM_cons decM_nil decI List.length_map nc0 bytesD_len bytesD_get encField decField etaField zfField encFmt decFmt etaFmt zfFmt encKField decKField etaKField zfKField encFile decFile etaFile zfFile encRec decRec etaRec zfRec getDz_Field getDz_KField getDz_Rec dL_Field dL_KField dL_Rec dM_Field dM_KField dM_Rec ceqField ceqKField ceqRec List.length_take decL_nil Int.toNat_zero Nat.sub_zero List.drop_zero sz3 ag3 zr3 zo3 zd3 by3 sl3 st3 bo3 pt3 ck3 sz26 ag26 zr26 zo26 zd26 by26 sl26 st26 bo26 pt26 ck26 sz72 ag72 zr72 zo72 zd72 by72 el72 sl72 un72 st72 bo72 pt72 sz74 ag74 zr74 zd74 by74 sl74 st74 bo74 pt74 of74_0 fa74_0 of74_1 fa74_1 pl74 sz108 ag108 zr108 zd108 by108 sl108 st108 bo108 pt108 of108_0 fa108_0 of108_1 fa108_1 of108_2 fa108_2 pl108 ek108 sz110 ag110 zr110 zd110 by110 sl110 st110 bo110 pt110 of110_0 fa110_0 of110_1 fa110_1 pl110 ek110 sz200 ag200 zr200 zo200 zd200 by200 el200 sl200 un200 st200 bo200 pt200 sz212 ag212 zr212 zd212 by212 sl212 st212 bo212 pt212 of212_0 fa212_0 of212_1 fa212_1 pl212 ek212 sz4 ag4 zr4 zo4 zd4 by4 sl4 st4 bo4 pt4 sz75 ag75 zr75 zo75 zd75 by75 el75 sl75 un75 st75 bo75 pt75 sz77 ag77 zr77 zd77 by77 sl77 st77 bo77 pt77 of77_0 fa77_0 of77_1 fa77_1 of77_2 fa77_2 of77_3 fa77_3 pl77 sz78 ag78 zr78 zo78 zd78 by78 el78 sl78 un78 st78 bo78 pt78 sz80 ag80 zr80 zd80 by80 sl80 st80 bo80 pt80 of80_0 fa80_0 of80_1 fa80_1 pl80 sz104 ag104 zr104 zd104 by104 sl104 st104 bo104 pt104 of104_0 fa104_0 of104_1 fa104_1 pl104 ek104 sz113 ag113 zr113 zd113 by113 sl113 st113 bo113 pt113 of113_0 fa113_0 of113_1 fa113_1 pl113 ek113 sz182 ag182 zr182 zo182 zd182 by182 el182 sl182 un182 st182 bo182 pt182 sz48 ag48 zr48 zd48 by48 sl48 st48 bo48 pt48 of48_0 fa48_0 of48_1 fa48_1 of48_2 fa48_2 of48_3 fa48_3 of48_4 fa48_4 pl48 ek48
attribute [local go_sem ←] List.map_take List.map_drop
noncomputable def cfg165 : Cfg := ⟨Tryz.prog, 47, tab118, (fun _ _ => []), [], (fun _ => none)⟩
theorem cfg165_l : cfg165.pins = [] ∧ cfg165.P = Tryz.prog ∧ cfg165.N = 47 ∧ cfg165.ti 163 = none ∧ cfg165.T 163 = e163 ∧ cfg165.mv 163 = (fun _ => []) ∧ cfg165.ti 174 = none ∧ cfg165.T 174 = e174 ∧ cfg165.mv 174 = (fun _ => []) := ⟨rfl, rfl, rfl, rfl, rfl, rfl, rfl, rfl, rfl⟩
section
attribute [local go_sem] cfg165_l e163 e174
theorem con165 (hC : COk cfg165) (f : Fmt) (b : ByteArray) (hp : f.fields.length ≤ 1000 ∧ (b.size : Int) = sizeF f) : Sem Tryz.prog 165 [.d (encFmt f), .d (.s b)] (.tup [.d (.sl 2 ((decodedC f b).1.map encVal)), .d (.i .i64 (decodedC f b).2.1), .d (.i .i64 (decodedC f b).2.2)]) := by
  refine sem_of_awR (C := cfg165) (rs := [.tmp 4, .tmp 5, .tmp 6]) (fun _ => []) Tryz.func165 rfl rfl rfl rfl rfl rfl ?_
  refine inQ ?_
  repeat' first
    | (with_reducible first | refine thenS_n ?_ | refine inBlockS_n ?_ | refine AW.seq ?_ | refine AW.block ?_)
    | (with_reducible first | (refine AW.runK hC ?_; intro K hK) | (refine AW.drawK hC (by kernel_rfl) ?_; intro K hK))
    | ((with_reducible first | refine erun_g ?_ | refine edraw_g ?_ | refine exitS_g ?_); refine siQ ?_; (try simp (disch := omega) only [w64, wu8]))
    | (with_reducible refine hCheck_g (by kernel_rfl) ?_)
    | ((first | (refine AW.cond rfl (fun h => ?_) (fun h => ?_)) | (refine AW.cond_ub rfl (fun h => ?_) ?_) | (refine AW.cond_nb rfl ?_ (fun h => ?_))) <;> (try replace h := boolH h) <;> (try (exfalso; first | omega | exact absurd h (by decide))))
    | (with_reducible first | refine AW.skip ?_ | refine AW.exit ?_ | refine AW.ret ?_ | refine thenS_r ?_ | refine thenS_e ?_ | refine inBlockS_r ?_ | refine inBlockS_e ?_ | refine inBlockS_e2 rfl ?_ | refine exitQ_r ?_ | refine exitQ_n ?_)
    | (refine AW.loopN 3 rfl (ι := Nat) (fun i => mkS [(1, V.d (.s (b.extract (offTo f.fields i).toNat b.size))), (7, V.row 112 2 0 (valsTo f b i).length), (15, V.d (.sl 4 (f.fields.map encField))), (16, V.d (.i .i64 (f.fields.length : Int))), (17, V.d (.i .i64 (i : Int)))] ([(112, .live (.row 212 2 false ((valsTo f b i).map encVal)))])) (fun i => i ≤ f.fields.length ∧ ∀ j, j < i → partE f b j = 0) (fun i => f.fields.length - i) (0) ?_ ?_ (fun i hi => ?_) <;> (try dsimp only) <;> (try dsimp only at hi))
    | (refine LoopNext.mk1 3 (i + 1) ?_ ?_ ?_ <;> (try dsimp only))
    | (refine sub_auto ?_; refine subQ ?_)
    | (with_reducible refine And.intro ?_ ?_)
    | (subst hK)
    | exact trivial
  all_goals (try (intros; assumption))
  all_goals (try refine boolG ?_)
  all_goals (try replace hp := boolH hp)
  all_goals (try replace hi := boolH hi)
  all_goals (try replace hj := boolH hj)
  all_goals (try replace hk := boolH hk)
  all_goals (try (intros; trivial))
  all_goals (try (intros; omega))
  all_goals (try (rw [w64 (by omega) (by omega)]; first | done | omega))
  all_goals (try have O1 := offTo_ok f.fields i)
  all_goals (try have W1 := widthF_ok (f.fields.getD i zField))
  all_goals (try have VL := valsTo_len f b i)
  all_goals (try have PI := part_size (f := f) (b := b) (i := i) hp.2 (by omega))
  all_goals (try have PE := part_err (f := f) (b := b) (i := i) hp.2 (by omega))
  all_goals clear hC
  all_goals (try simp only [PE] at *)
  all_goals first
    | rfl
    | omega
    | exact ext_all b
    | exact PI
    | (rw [dec_bad hi.2 (by omega) (by assumption)]; done)
    | (rw [dec_bad hi.2 (by omega) (by assumption)]; rfl)
    | exact all_step hi.2 (by assumption)
    | exact rest_eq hp.2 (by omega)
    | (rw [rest_eq hp.2 (by omega)]; exact dles_refl _)
    | (rw [valsTo, List.length_append]; rfl)
    | (rw [valsTo, List.map_append]; exact dles_refl _)
    | (rw [dec_end hi.2 (by omega)]; done)
    | (rw [dec_end hi.2 (by omega), show f.fields.length = i by omega]; exact dles_refl _)
    | (intro d hd; first | (subst hd; exact ⟨rfl, by simp [D.cells, D.one]⟩) | (rcases hd with rfl | rfl <;> exact ⟨rfl, by simp [D.cells, D.one]⟩) | (rcases hd with rfl | rfl | rfl <;> exact ⟨rfl, by simp [D.cells, D.one]⟩) | (rcases hd with rfl | rfl | rfl | rfl <;> exact ⟨rfl, by simp [D.cells, D.one]⟩))
end
noncomputable def cfg155 : Cfg := ⟨Tryz.prog, 24, tab165, (fun _ _ => []), [], (fun _ => none)⟩
theorem cfg155_l : cfg155.pins = [] ∧ cfg155.P = Tryz.prog ∧ cfg155.N = 24 ∧ cfg155.ti 153 = none ∧ cfg155.T 153 = e153 ∧ cfg155.mv 153 = (fun _ => []) ∧ cfg155.ti 164 = none ∧ cfg155.T 164 = e164 ∧ cfg155.mv 164 = (fun _ => []) ∧ cfg155.ti 165 = none ∧ cfg155.T 165 = e165 ∧ cfg155.mv 165 = (fun _ => []) := ⟨rfl, rfl, rfl, rfl, rfl, rfl, rfl, rfl, rfl, rfl, rfl, rfl⟩
section
attribute [local go_sem] cfg155_l e153 e164 e165
theorem con155 (hC : COk cfg155) (f : Fmt) (b : ByteArray) (hp : f.fields.length ≤ 1000000) : Sem Tryz.prog 155 [.d (encFmt f), .d (.s b)] (.tup [.d (.sl 2 ((valuesC f b).1.map encVal)), .d (.i .i64 (valuesC f b).2.1), .d (.i .i64 (valuesC f b).2.2)]) := by
  refine sem_of_awR (C := cfg155) (rs := [.tmp 4, .tmp 5, .tmp 6]) (fun _ => []) Tryz.func155 rfl rfl rfl rfl rfl rfl ?_
  refine inQ ?_
  repeat' first
    | (with_reducible first | refine thenS_n ?_ | refine inBlockS_n ?_ | refine AW.seq ?_ | refine AW.block ?_)
    | (with_reducible first | (refine AW.runK hC ?_; intro K hK) | (refine AW.drawK hC (by kernel_rfl) ?_; intro K hK))
    | ((with_reducible first | refine erun_g ?_ | refine edraw_g ?_ | refine exitS_g ?_); refine siQ ?_; (try simp (disch := omega) only [w64, wu8]))
    | (with_reducible refine hCheck_g (by kernel_rfl) ?_)
    | ((first | (refine AW.cond rfl (fun h => ?_) (fun h => ?_)) | (refine AW.cond_ub rfl (fun h => ?_) ?_) | (refine AW.cond_nb rfl ?_ (fun h => ?_))) <;> (try replace h := boolH h) <;> (try (exfalso; first | omega | exact absurd h (by decide))))
    | (with_reducible first | refine AW.skip ?_ | refine AW.exit ?_ | refine AW.ret ?_ | refine thenS_r ?_ | refine thenS_e ?_ | refine inBlockS_r ?_ | refine inBlockS_e ?_ | refine inBlockS_e2 rfl ?_ | refine exitQ_r ?_ | refine exitQ_n ?_)
    | (refine sub_auto ?_; refine subQ ?_)
    | (with_reducible refine And.intro ?_ ?_)
    | (subst hK)
    | exact trivial
  all_goals (try (intros; assumption))
  all_goals (try refine boolG ?_)
  all_goals (try replace hp := boolH hp)
  all_goals (try replace hi := boolH hi)
  all_goals (try replace hj := boolH hj)
  all_goals (try replace hk := boolH hk)
  all_goals (try (intros; trivial))
  all_goals (try (intros; omega))
  all_goals (try (rw [w64 (by omega) (by omega)]; first | done | omega))
  all_goals clear hC
  all_goals (try have FO := fmt_ok (f := f) (by assumption))
  all_goals first
    | omega
    | (rw [val_fmt (by assumption)]; done)
    | (rw [val_fmt (by assumption)]; rfl)
    | (rw [val_len (by assumption) (by assumption)]; done)
    | (rw [val_len (by assumption) (by assumption)]; rfl)
    | (rw [val_dec (by assumption) (by assumption)]; done)
    | (rw [val_dec (by assumption) (by assumption)]; exact dles_refl _)
    | assumption
end
noncomputable def cfg137 : Cfg := ⟨Tryz.prog, 18, tab155, (fun _ _ => []), [], (fun _ => none)⟩
theorem cfg137_l : cfg137.pins = [] ∧ cfg137.P = Tryz.prog ∧ cfg137.N = 18 ∧ cfg137.ti 155 = none ∧ cfg137.T 155 = e155 ∧ cfg137.mv 155 = (fun _ => []) := ⟨rfl, rfl, rfl, rfl, rfl, rfl⟩
section
attribute [local go_sem] cfg137_l e155
theorem con137 (hC : COk cfg137) (f : Fmt) (b : ByteArray) (hp : f.fields.length ≤ 1000000) : Sem Tryz.prog 137 [.d (encFmt f), .d (.s b)] (.tup [.d (.i .i64 (valuesC f b).2.1), .d (.i .i64 (valuesC f b).2.2)]) := by
  refine sem_of_awR (C := cfg137) (rs := [.tmp 4, .tmp 5]) (fun _ => []) Tryz.func137 rfl rfl rfl rfl rfl rfl ?_
  refine inQ ?_
  repeat' first
    | (with_reducible first | refine thenS_n ?_ | refine inBlockS_n ?_ | refine AW.seq ?_ | refine AW.block ?_)
    | (with_reducible first | (refine AW.runK hC ?_; intro K hK) | (refine AW.drawK hC (by kernel_rfl) ?_; intro K hK))
    | ((with_reducible first | refine erun_g ?_ | refine edraw_g ?_ | refine exitS_g ?_); refine siQ ?_; (try simp (disch := omega) only [w64, wu8]))
    | (with_reducible refine hCheck_g (by kernel_rfl) ?_)
    | ((first | (refine AW.cond rfl (fun h => ?_) (fun h => ?_)) | (refine AW.cond_ub rfl (fun h => ?_) ?_) | (refine AW.cond_nb rfl ?_ (fun h => ?_))) <;> (try replace h := boolH h) <;> (try (exfalso; first | omega | exact absurd h (by decide))))
    | (with_reducible first | refine AW.skip ?_ | refine AW.exit ?_ | refine AW.ret ?_ | refine thenS_r ?_ | refine thenS_e ?_ | refine inBlockS_r ?_ | refine inBlockS_e ?_ | refine inBlockS_e2 rfl ?_ | refine exitQ_r ?_ | refine exitQ_n ?_)
    | (refine sub_auto ?_; refine subQ ?_)
    | (with_reducible refine And.intro ?_ ?_)
    | (subst hK)
    | exact trivial
  all_goals (try (intros; assumption))
  all_goals (try refine boolG ?_)
  all_goals (try replace hp := boolH hp)
  all_goals (try replace hi := boolH hi)
  all_goals (try replace hj := boolH hj)
  all_goals (try replace hk := boolH hk)
  all_goals (try (intros; trivial))
  all_goals (try (intros; omega))
  all_goals (try (rw [w64 (by omega) (by omega)]; first | done | omega))
end
noncomputable def cfg120 : Cfg := ⟨Tryz.prog, 14, tab137, (fun _ _ => []), [], (fun _ => none)⟩
theorem cfg120_l : cfg120.pins = [] ∧ cfg120.P = Tryz.prog ∧ cfg120.N = 14 ∧ cfg120.ti 137 = none ∧ cfg120.T 137 = e137 ∧ cfg120.mv 137 = (fun _ => []) := ⟨rfl, rfl, rfl, rfl, rfl, rfl⟩
section
attribute [local go_sem] cfg120_l e137
theorem con120 (hC : COk cfg120) (f : Fmt) (b : ByteArray) (hp : f.fields.length ≤ 1000000) : Sem Tryz.prog 120 [.d (encFmt f), .d (.s b)] (.d (.i .i64 (valuesC f b).2.2)) := by
  refine sem_of_awR (C := cfg120) (rs := [.tmp 4]) (fun _ => []) Tryz.func120 rfl rfl rfl rfl rfl rfl ?_
  refine inQ ?_
  repeat' first
    | (with_reducible first | refine thenS_n ?_ | refine inBlockS_n ?_ | refine AW.seq ?_ | refine AW.block ?_)
    | (with_reducible first | (refine AW.runK hC ?_; intro K hK) | (refine AW.drawK hC (by kernel_rfl) ?_; intro K hK))
    | ((with_reducible first | refine erun_g ?_ | refine edraw_g ?_ | refine exitS_g ?_); refine siQ ?_; (try simp (disch := omega) only [w64, wu8]))
    | (with_reducible refine hCheck_g (by kernel_rfl) ?_)
    | ((first | (refine AW.cond rfl (fun h => ?_) (fun h => ?_)) | (refine AW.cond_ub rfl (fun h => ?_) ?_) | (refine AW.cond_nb rfl ?_ (fun h => ?_))) <;> (try replace h := boolH h) <;> (try (exfalso; first | omega | exact absurd h (by decide))))
    | (with_reducible first | refine AW.skip ?_ | refine AW.exit ?_ | refine AW.ret ?_ | refine thenS_r ?_ | refine thenS_e ?_ | refine inBlockS_r ?_ | refine inBlockS_e ?_ | refine inBlockS_e2 rfl ?_ | refine exitQ_r ?_ | refine exitQ_n ?_)
    | (refine sub_auto ?_; refine subQ ?_)
    | (with_reducible refine And.intro ?_ ?_)
    | (subst hK)
    | exact trivial
  all_goals (try (intros; assumption))
  all_goals (try refine boolG ?_)
  all_goals (try replace hp := boolH hp)
  all_goals (try replace hi := boolH hi)
  all_goals (try replace hj := boolH hj)
  all_goals (try replace hk := boolH hk)
  all_goals (try (intros; trivial))
  all_goals (try (intros; omega))
  all_goals (try (rw [w64 (by omega) (by omega)]; first | done | omega))
end
noncomputable def cfg90 : Cfg := ⟨Tryz.prog, 47, tab120, (fun _ _ => []), [], (fun _ => none)⟩
theorem cfg90_l : cfg90.pins = [] ∧ cfg90.P = Tryz.prog ∧ cfg90.N = 47 ∧ cfg90.ti 117 = none ∧ cfg90.T 117 = e117 ∧ cfg90.mv 117 = (fun _ => []) ∧ cfg90.ti 118 = none ∧ cfg90.T 118 = e118 ∧ cfg90.mv 118 = (fun _ => []) ∧ cfg90.ti 119 = none ∧ cfg90.T 119 = e119 ∧ cfg90.mv 119 = (fun _ => []) ∧ cfg90.ti 120 = none ∧ cfg90.T 120 = e120 ∧ cfg90.mv 120 = (fun _ => []) := ⟨rfl, rfl, rfl, rfl, rfl, rfl, rfl, rfl, rfl, rfl, rfl, rfl, rfl, rfl, rfl⟩
section
attribute [local go_sem] cfg90_l e117 e118 e119 e120
attribute [local go_sem] encTable decTable etaTable zfTable encChange decChange etaChange zfChange dL_Change dM_Change
theorem con90 (hC : COk cfg90) (t : Table) (hp : (t.file.format.fields.length ≤ 1000000 ∧ t.file.keys.length ≤ 1000000 ∧ t.records.length ≤ 1000000)) : Sem Tryz.prog 90 [.d (encTable t)] (.tup [.d (.i .i64 (tableErr t).1), .d (.i .i64 (tableErr t).2)]) := by
  refine sem_of_awR (C := cfg90) (rs := [.tmp 2, .tmp 3]) (fun _ => []) Tryz.func90 rfl rfl rfl rfl rfl rfl ?_
  refine inQ ?_
  repeat' first
    | (with_reducible first | refine thenS_n ?_ | refine inBlockS_n ?_ | refine AW.seq ?_ | refine AW.block ?_)
    | (with_reducible first | (refine AW.runK hC ?_; intro K hK) | (refine AW.drawK hC (by kernel_rfl) ?_; intro K hK))
    | ((with_reducible first | refine erun_g ?_ | refine edraw_g ?_ | refine exitS_g ?_); refine siQ ?_; (try simp (disch := omega) only [w64, wu8]))
    | (with_reducible refine hCheck_g (by kernel_rfl) ?_)
    | ((first | (refine AW.cond rfl (fun h => ?_) (fun h => ?_)) | (refine AW.cond_ub rfl (fun h => ?_) ?_) | (refine AW.cond_nb rfl ?_ (fun h => ?_))) <;> (try replace h := boolH h) <;> (try (exfalso; first | omega | exact absurd h (by decide))))
    | (with_reducible first | refine AW.skip ?_ | refine AW.exit ?_ | refine AW.ret ?_ | refine thenS_r ?_ | refine thenS_e ?_ | refine inBlockS_r ?_ | refine inBlockS_e ?_ | refine inBlockS_e2 rfl ?_ | refine exitQ_r ?_ | refine exitQ_n ?_)
    | (refine AW.loopN 5 rfl (ι := Nat) (fun i => mkS [(1, V.ptr 16 0), (22, V.d (.sl 2 (t.records.map encRec))), (23, V.d (.i .i64 (t.records.length : Int))), (24, V.d (.i .i64 (i : Int)))] ([(16, .live (.box 80 [.d (.s t.file.name), .d (.s t.file.format.name), .d (.sl 4 (t.file.format.fields.map encField)), .d (.sl 2 (t.file.keys.map encKField)), .d (.b t.file.unique), .d (.sl 2 (t.records.map encRec))]))])) (fun i => i ≤ t.records.length ∧ ((fileErr t.file).2 = 0 ∧ t.records.length ≤ 60) ∧ ∀ j, j < i → recE t j = 0) (fun i => t.records.length - i) (0) ?_ ?_ (fun i hi => ?_) <;> (try dsimp only) <;> (try dsimp only at hi))
    | (refine LoopNext.mk1 5 (i + 1) ?_ ?_ ?_ <;> (try dsimp only))
    | (refine sub_auto ?_; refine subQ ?_)
    | (with_reducible refine And.intro ?_ ?_)
    | (subst hK)
    | exact trivial
  all_goals (try (intros; assumption))
  all_goals (try refine boolG ?_)
  all_goals (try replace hp := boolH hp)
  all_goals (try replace hi := boolH hi)
  all_goals (try replace hj := boolH hj)
  all_goals (try replace hk := boolH hk)
  all_goals (try (intros; trivial))
  all_goals (try (intros; omega))
  all_goals (try (rw [w64 (by omega) (by omega)]; first | done | omega))
  all_goals clear hC
  all_goals (try simp only [thead_eq] at *)
  all_goals first
    | rfl
    | omega
    | (rw [tab_head (by assumption)]; done)
    | (rw [tab_head (by assumption)]; rfl)
    | exact (thead_ok (by assumption)).1
    | exact (thead_ok (by assumption)).2
    | exact hi.2.1.1
    | exact hi.2.1.2
    | (rw [table_bad hi.2.1 hi.2.2 (by omega) (by unfold recE; simp_all)]; unfold recE; simp_all; done)
    | (rw [table_bad hi.2.1 hi.2.2 (by omega) (by unfold recE; simp_all)]; done)
    | exact all_step hi.2.2 (by unfold recE; simp_all)
    | (rw [table_end hi.2.1 hi.2.2 (by omega)]; done)
    | (intro d hd; first | (subst hd; exact ⟨rfl, by simp [D.cells, D.one]⟩) | (rcases hd with rfl | rfl <;> exact ⟨rfl, by simp [D.cells, D.one]⟩) | (rcases hd with rfl | rfl | rfl <;> exact ⟨rfl, by simp [D.cells, D.one]⟩) | (rcases hd with rfl | rfl | rfl | rfl <;> exact ⟨rfl, by simp [D.cells, D.one]⟩))
end
noncomputable def cfg121 : Cfg := ⟨Tryz.prog, 11, tab90, (fun _ _ => []), [], (fun _ => none)⟩
theorem cfg121_l : cfg121.pins = [] ∧ cfg121.P = Tryz.prog ∧ cfg121.N = 11 ∧ cfg121.ti 90 = none ∧ cfg121.T 90 = e90 ∧ cfg121.mv 90 = (fun _ => []) := ⟨rfl, rfl, rfl, rfl, rfl, rfl⟩
section
attribute [local go_sem] cfg121_l e90
attribute [local go_sem] encTable decTable etaTable zfTable encChange decChange etaChange zfChange dL_Change dM_Change
theorem con121 (hC : COk cfg121) (t : Table) (hp : (t.file.format.fields.length ≤ 1000000 ∧ t.file.keys.length ≤ 1000000 ∧ t.records.length ≤ 1000000)) : Sem Tryz.prog 121 [.d (encTable t)] (.d (.i .i64 (tableErr t).2)) := by
  refine sem_of_awR (C := cfg121) (rs := [.tmp 2]) (fun _ => []) Tryz.func121 rfl rfl rfl rfl rfl rfl ?_
  refine inQ ?_
  repeat' first
    | (with_reducible first | refine thenS_n ?_ | refine inBlockS_n ?_ | refine AW.seq ?_ | refine AW.block ?_)
    | (with_reducible first | (refine AW.runK hC ?_; intro K hK) | (refine AW.drawK hC (by kernel_rfl) ?_; intro K hK))
    | ((with_reducible first | refine erun_g ?_ | refine edraw_g ?_ | refine exitS_g ?_); refine siQ ?_; (try simp (disch := omega) only [w64, wu8]))
    | (with_reducible refine hCheck_g (by kernel_rfl) ?_)
    | ((first | (refine AW.cond rfl (fun h => ?_) (fun h => ?_)) | (refine AW.cond_ub rfl (fun h => ?_) ?_) | (refine AW.cond_nb rfl ?_ (fun h => ?_))) <;> (try replace h := boolH h) <;> (try (exfalso; first | omega | exact absurd h (by decide))))
    | (with_reducible first | refine AW.skip ?_ | refine AW.exit ?_ | refine AW.ret ?_ | refine thenS_r ?_ | refine thenS_e ?_ | refine inBlockS_r ?_ | refine inBlockS_e ?_ | refine inBlockS_e2 rfl ?_ | refine exitQ_r ?_ | refine exitQ_n ?_)
    | (refine sub_auto ?_; refine subQ ?_)
    | (with_reducible refine And.intro ?_ ?_)
    | (subst hK)
    | exact trivial
  all_goals (try (intros; assumption))
  all_goals (try refine boolG ?_)
  all_goals (try replace hp := boolH hp)
  all_goals (try replace hi := boolH hi)
  all_goals (try replace hj := boolH hj)
  all_goals (try replace hk := boolH hk)
  all_goals (try (intros; trivial))
  all_goals (try (intros; omega))
  all_goals (try (rw [w64 (by omega) (by omega)]; first | done | omega))
end
noncomputable def cfg66 : Cfg := ⟨Tryz.prog, 8, tab121, (fun _ _ => []), [], (fun _ => none)⟩
theorem cfg66_l : cfg66.pins = [] ∧ cfg66.P = Tryz.prog ∧ cfg66.N = 8 := ⟨rfl, rfl, rfl⟩
section
attribute [local go_sem] cfg66_l
attribute [local go_sem] encTable decTable etaTable zfTable encChange decChange etaChange zfChange dL_Change dM_Change
theorem con66 (hC : COk cfg66) (l : List Field) (hp : l.length ≤ 1000000) : Sem Tryz.prog 66 [.d (.sl 4 (l.map encField))] (.own 110 4 (l.map encField)) := by
  refine sem_of_awR (C := cfg66) (rs := [.tmp 2]) (fun _ => [(0, 110, 4)]) Tryz.func66 rfl rfl rfl rfl rfl rfl ?_
  refine inQ ?_
  repeat' first
    | (with_reducible first | refine thenS_n ?_ | refine inBlockS_n ?_ | refine AW.seq ?_ | refine AW.block ?_)
    | (with_reducible first | (refine AW.runK hC ?_; intro K hK) | (refine AW.drawK hC (by kernel_rfl) ?_; intro K hK))
    | ((with_reducible first | refine erun_g ?_ | refine edraw_g ?_ | refine exitS_g ?_); refine siQ ?_; (try simp (disch := omega) only [w64, wu8]))
    | (with_reducible refine hCheck_g (by kernel_rfl) ?_)
    | ((first | (refine AW.cond rfl (fun h => ?_) (fun h => ?_)) | (refine AW.cond_ub rfl (fun h => ?_) ?_) | (refine AW.cond_nb rfl ?_ (fun h => ?_))) <;> (try replace h := boolH h) <;> (try (exfalso; first | omega | exact absurd h (by decide))))
    | (with_reducible first | refine AW.skip ?_ | refine AW.exit ?_ | refine AW.ret ?_ | refine thenS_r ?_ | refine thenS_e ?_ | refine inBlockS_r ?_ | refine inBlockS_e ?_ | refine inBlockS_e2 rfl ?_ | refine exitQ_r ?_ | refine exitQ_n ?_)
    | (refine sub_auto ?_; refine subQ ?_)
    | (with_reducible refine And.intro ?_ ?_)
    | (subst hK)
    | exact trivial
  all_goals (try (intros; assumption))
  all_goals (try refine boolG ?_)
  all_goals (try replace hp := boolH hp)
  all_goals (try replace hi := boolH hi)
  all_goals (try replace hj := boolH hj)
  all_goals (try replace hk := boolH hk)
  all_goals (try (intros; trivial))
  all_goals (try (intros; omega))
  all_goals (try (rw [w64 (by omega) (by omega)]; first | done | omega))
  all_goals first | omega | (simp_all [dles]; done)
end
noncomputable def cfg67 : Cfg := ⟨Tryz.prog, 8, tab66, (fun _ _ => []), [], (fun _ => none)⟩
theorem cfg67_l : cfg67.pins = [] ∧ cfg67.P = Tryz.prog ∧ cfg67.N = 8 := ⟨rfl, rfl, rfl⟩
section
attribute [local go_sem] cfg67_l
attribute [local go_sem] encTable decTable etaTable zfTable encChange decChange etaChange zfChange dL_Change dM_Change
theorem con67 (hC : COk cfg67) (l : List KField) (hp : l.length ≤ 1000000) : Sem Tryz.prog 67 [.d (.sl 2 (l.map encKField))] (.own 113 2 (l.map encKField)) := by
  refine sem_of_awR (C := cfg67) (rs := [.tmp 2]) (fun _ => [(0, 113, 2)]) Tryz.func67 rfl rfl rfl rfl rfl rfl ?_
  refine inQ ?_
  repeat' first
    | (with_reducible first | refine thenS_n ?_ | refine inBlockS_n ?_ | refine AW.seq ?_ | refine AW.block ?_)
    | (with_reducible first | (refine AW.runK hC ?_; intro K hK) | (refine AW.drawK hC (by kernel_rfl) ?_; intro K hK))
    | ((with_reducible first | refine erun_g ?_ | refine edraw_g ?_ | refine exitS_g ?_); refine siQ ?_; (try simp (disch := omega) only [w64, wu8]))
    | (with_reducible refine hCheck_g (by kernel_rfl) ?_)
    | ((first | (refine AW.cond rfl (fun h => ?_) (fun h => ?_)) | (refine AW.cond_ub rfl (fun h => ?_) ?_) | (refine AW.cond_nb rfl ?_ (fun h => ?_))) <;> (try replace h := boolH h) <;> (try (exfalso; first | omega | exact absurd h (by decide))))
    | (with_reducible first | refine AW.skip ?_ | refine AW.exit ?_ | refine AW.ret ?_ | refine thenS_r ?_ | refine thenS_e ?_ | refine inBlockS_r ?_ | refine inBlockS_e ?_ | refine inBlockS_e2 rfl ?_ | refine exitQ_r ?_ | refine exitQ_n ?_)
    | (refine sub_auto ?_; refine subQ ?_)
    | (with_reducible refine And.intro ?_ ?_)
    | (subst hK)
    | exact trivial
  all_goals (try (intros; assumption))
  all_goals (try refine boolG ?_)
  all_goals (try replace hp := boolH hp)
  all_goals (try replace hi := boolH hi)
  all_goals (try replace hj := boolH hj)
  all_goals (try replace hk := boolH hk)
  all_goals (try (intros; trivial))
  all_goals (try (intros; omega))
  all_goals (try (rw [w64 (by omega) (by omega)]; first | done | omega))
  all_goals first | omega | (simp_all [dles]; done)
end
noncomputable def cfg68 : Cfg := ⟨Tryz.prog, 8, tab67, (fun _ _ => []), [], (fun _ => none)⟩
theorem cfg68_l : cfg68.pins = [] ∧ cfg68.P = Tryz.prog ∧ cfg68.N = 8 := ⟨rfl, rfl, rfl⟩
section
attribute [local go_sem] cfg68_l
attribute [local go_sem] encTable decTable etaTable zfTable encChange decChange etaChange zfChange dL_Change dM_Change
theorem con68 (hC : COk cfg68) (l : List Rec) (hp : l.length ≤ 1000000) : Sem Tryz.prog 68 [.d (.sl 2 (l.map encRec))] (.own 104 2 (l.map encRec)) := by
  refine sem_of_awR (C := cfg68) (rs := [.tmp 2]) (fun _ => [(0, 104, 2)]) Tryz.func68 rfl rfl rfl rfl rfl rfl ?_
  refine inQ ?_
  repeat' first
    | (with_reducible first | refine thenS_n ?_ | refine inBlockS_n ?_ | refine AW.seq ?_ | refine AW.block ?_)
    | (with_reducible first | (refine AW.runK hC ?_; intro K hK) | (refine AW.drawK hC (by kernel_rfl) ?_; intro K hK))
    | ((with_reducible first | refine erun_g ?_ | refine edraw_g ?_ | refine exitS_g ?_); refine siQ ?_; (try simp (disch := omega) only [w64, wu8]))
    | (with_reducible refine hCheck_g (by kernel_rfl) ?_)
    | ((first | (refine AW.cond rfl (fun h => ?_) (fun h => ?_)) | (refine AW.cond_ub rfl (fun h => ?_) ?_) | (refine AW.cond_nb rfl ?_ (fun h => ?_))) <;> (try replace h := boolH h) <;> (try (exfalso; first | omega | exact absurd h (by decide))))
    | (with_reducible first | refine AW.skip ?_ | refine AW.exit ?_ | refine AW.ret ?_ | refine thenS_r ?_ | refine thenS_e ?_ | refine inBlockS_r ?_ | refine inBlockS_e ?_ | refine inBlockS_e2 rfl ?_ | refine exitQ_r ?_ | refine exitQ_n ?_)
    | (refine sub_auto ?_; refine subQ ?_)
    | (with_reducible refine And.intro ?_ ?_)
    | (subst hK)
    | exact trivial
  all_goals (try (intros; assumption))
  all_goals (try refine boolG ?_)
  all_goals (try replace hp := boolH hp)
  all_goals (try replace hi := boolH hi)
  all_goals (try replace hj := boolH hj)
  all_goals (try replace hk := boolH hk)
  all_goals (try (intros; trivial))
  all_goals (try (intros; omega))
  all_goals (try (rw [w64 (by omega) (by omega)]; first | done | omega))
  all_goals first | omega | (simp_all [dles]; done)
end
noncomputable def cfg122 : Cfg := ⟨Tryz.prog, 50, tab68, (fun _ _ => []), [], (fun _ => none)⟩
theorem cfg122_l : cfg122.pins = [] ∧ cfg122.P = Tryz.prog ∧ cfg122.N = 50 ∧ cfg122.ti 117 = none ∧ cfg122.T 117 = e117 ∧ cfg122.mv 117 = (fun _ => []) ∧ cfg122.ti 119 = none ∧ cfg122.T 119 = e119 ∧ cfg122.mv 119 = (fun _ => []) := ⟨rfl, rfl, rfl, rfl, rfl, rfl, rfl, rfl, rfl⟩
section
attribute [local go_sem] cfg122_l e117 e119
attribute [local go_sem] encTable decTable etaTable zfTable encChange decChange etaChange zfChange dL_Change dM_Change
theorem con122 (hC : COk cfg122) (t : Table) (c : Change) (hp : 1 ≤ c.rrn ∧ c.rrn ≤ (t.records.length : Int) + 1 ∧ t.records.length ≤ 1000000) : Sem Tryz.prog 122 [.d (encTable t), .d (encChange c)] (.d (.i .i64 (placeErr t c))) := by
  refine sem_of_awR (C := cfg122) (rs := [.tmp 4]) (fun _ => []) Tryz.func122 rfl rfl rfl rfl rfl rfl ?_
  refine inQ ?_
  repeat' first
    | (with_reducible first | refine thenS_n ?_ | refine inBlockS_n ?_ | refine AW.seq ?_ | refine AW.block ?_)
    | (with_reducible first | (refine AW.runK hC ?_; intro K hK) | (refine AW.drawK hC (by kernel_rfl) ?_; intro K hK))
    | ((with_reducible first | refine erun_g ?_ | refine edraw_g ?_ | refine exitS_g ?_); refine siQ ?_; (try simp (disch := omega) only [w64, wu8]))
    | (with_reducible refine hCheck_g (by kernel_rfl) ?_)
    | ((first | (refine AW.cond rfl (fun h => ?_) (fun h => ?_)) | (refine AW.cond_ub rfl (fun h => ?_) ?_) | (refine AW.cond_nb rfl ?_ (fun h => ?_))) <;> (try replace h := boolH h) <;> (try (exfalso; first | omega | exact absurd h (by decide))))
    | (with_reducible first | refine AW.skip ?_ | refine AW.exit ?_ | refine AW.ret ?_ | refine thenS_r ?_ | refine thenS_e ?_ | refine inBlockS_r ?_ | refine inBlockS_e ?_ | refine inBlockS_e2 rfl ?_ | refine exitQ_r ?_ | refine exitQ_n ?_)
    | (refine sub_auto ?_; refine subQ ?_)
    | (with_reducible refine And.intro ?_ ?_)
    | (subst hK)
    | exact trivial
  all_goals (try (intros; assumption))
  all_goals (try refine boolG ?_)
  all_goals (try replace hp := boolH hp)
  all_goals (try replace hi := boolH hi)
  all_goals (try replace hj := boolH hj)
  all_goals (try replace hk := boolH hk)
  all_goals (try (intros; trivial))
  all_goals (try (intros; omega))
  all_goals (try (rw [w64 (by omega) (by omega)]; first | done | omega))
  all_goals clear hC
  all_goals first
    | omega
    | (intro d hd; first | (subst hd; exact ⟨rfl, by simp [D.cells, D.one]⟩) | (rcases hd with rfl | rfl <;> exact ⟨rfl, by simp [D.cells, D.one]⟩) | (rcases hd with rfl | rfl | rfl <;> exact ⟨rfl, by simp [D.cells, D.one]⟩) | (rcases hd with rfl | rfl | rfl | rfl <;> exact ⟨rfl, by simp [D.cells, D.one]⟩))
    | (unfold placeErr goneAt recAt; simp_all; done)
end
noncomputable def cfg93 : Cfg := ⟨Tryz.prog, 87, tab122, (fun _ _ => []), [], (fun _ => none)⟩
theorem cfg93_l : cfg93.pins = [] ∧ cfg93.P = Tryz.prog ∧ cfg93.N = 87 ∧ cfg93.ti 117 = none ∧ cfg93.T 117 = e117 ∧ cfg93.mv 117 = (fun _ => []) ∧ cfg93.ti 119 = none ∧ cfg93.T 119 = e119 ∧ cfg93.mv 119 = (fun _ => []) ∧ cfg93.ti 120 = none ∧ cfg93.T 120 = e120 ∧ cfg93.mv 120 = (fun _ => []) ∧ cfg93.ti 121 = none ∧ cfg93.T 121 = e121 ∧ cfg93.mv 121 = (fun _ => []) ∧ cfg93.ti 122 = none ∧ cfg93.T 122 = e122 ∧ cfg93.mv 122 = (fun _ => []) := ⟨rfl, rfl, rfl, rfl, rfl, rfl, rfl, rfl, rfl, rfl, rfl, rfl, rfl, rfl, rfl, rfl, rfl, rfl⟩
section
attribute [local go_sem] cfg93_l e117 e119 e120 e121 e122
attribute [local go_sem] encTable decTable etaTable zfTable encChange decChange etaChange zfChange dL_Change dM_Change List.length_set Nat.le_refl
theorem con93 (hC : COk cfg93) (t : Table) (c : Change) (hp : (t.file.format.fields.length ≤ 1000000 ∧ t.file.keys.length ≤ 1000000 ∧ t.records.length ≤ 1000000)) : Sem Tryz.prog 93 [.d (encTable t), .d (encChange c)] (.d (.i .i64 (chgErr t c))) := by
  refine sem_of_awR (C := cfg93) (rs := [.tmp 4]) (fun _ => []) Tryz.func93 rfl rfl rfl rfl rfl rfl ?_
  refine inQ ?_
  repeat' first
    | (with_reducible first | refine thenS_n ?_ | refine inBlockS_n ?_ | refine AW.seq ?_ | refine AW.block ?_)
    | (with_reducible first | (refine AW.runK hC ?_; intro K hK) | (refine AW.drawK hC (by kernel_rfl) ?_; intro K hK))
    | ((with_reducible first | refine erun_g ?_ | refine edraw_g ?_ | refine exitS_g ?_); refine siQ ?_; (try simp (disch := omega) only [w64, wu8]))
    | (with_reducible refine hCheck_g (by kernel_rfl) ?_)
    | ((first | (refine AW.cond rfl (fun h => ?_) (fun h => ?_)) | (refine AW.cond_ub rfl (fun h => ?_) ?_) | (refine AW.cond_nb rfl ?_ (fun h => ?_))) <;> (try replace h := boolH h) <;> (try (exfalso; first | omega | exact absurd h (by decide))))
    | (with_reducible first | refine AW.skip ?_ | refine AW.exit ?_ | refine AW.ret ?_ | refine thenS_r ?_ | refine thenS_e ?_ | refine inBlockS_r ?_ | refine inBlockS_e ?_ | refine inBlockS_e2 rfl ?_ | refine exitQ_r ?_ | refine exitQ_n ?_)
    | (refine sub_auto ?_; refine subQ ?_)
    | (with_reducible refine And.intro ?_ ?_)
    | (subst hK)
    | exact trivial
  all_goals (try (intros; assumption))
  all_goals (try refine boolG ?_)
  all_goals (try replace hp := boolH hp)
  all_goals (try replace hi := boolH hi)
  all_goals (try replace hj := boolH hj)
  all_goals (try replace hk := boolH hk)
  all_goals (try (intros; trivial))
  all_goals (try (intros; omega))
  all_goals (try (rw [w64 (by omega) (by omega)]; first | done | omega))
  all_goals clear hC
  all_goals (try simp only [chead_in t c (by assumption)] at *)
  all_goals (try simp only [chead_at t c (by assumption)] at *)
  all_goals first
    | omega
    | (intro d hd; rcases hd with rfl | rfl | rfl | rfl | rfl <;> exact ⟨rfl, by simp [D.cells, D.one]⟩)
    | exact chgErr_head (by assumption)
    | exact (chHead_pos (by assumption)).1
    | exact (chHead_pos (by assumption)).2
    | exact chgErr_place (by assumption) (by assumption)
    | exact chgErr_bytes (by assumption) (by assumption)
end
noncomputable def cfg94 : Cfg := ⟨Tryz.prog, 29, tab93, (fun _ _ => []), [], (fun _ => none)⟩
theorem cfg94_l : cfg94.pins = [] ∧ cfg94.P = Tryz.prog ∧ cfg94.N = 29 ∧ cfg94.ti 68 = none ∧ cfg94.T 68 = e68 ∧ cfg94.mv 68 = (fun _ => []) := ⟨rfl, rfl, rfl, rfl, rfl, rfl⟩
section
attribute [local go_sem] cfg94_l e68
attribute [local go_sem] encTable decTable etaTable zfTable encChange decChange etaChange zfChange dL_Change dM_Change List.length_set Nat.le_refl
theorem con94 (hC : COk cfg94) (t : Table) (n : Int) (r : Rec) (hp : 1 ≤ n ∧ n ≤ (t.records.length : Int) + 1 ∧ t.records.length ≤ 1000000) : Sem Tryz.prog 94 [.d (encTable t), .d (.i .i64 n), .d (encRec r)] (.d (encTable (withT t n r))) := by
  refine sem_of_awR (C := cfg94) (rs := [.cell 6 80]) (fun _ => []) Tryz.func94 rfl rfl rfl rfl rfl rfl ?_
  refine inQ ?_
  repeat' first
    | (with_reducible first | refine thenS_n ?_ | refine inBlockS_n ?_ | refine AW.seq ?_ | refine AW.block ?_)
    | (with_reducible first | (refine AW.runK hC ?_; intro K hK) | (refine AW.drawK hC (by kernel_rfl) ?_; intro K hK))
    | ((with_reducible first | refine erun_g ?_ | refine edraw_g ?_ | refine exitS_g ?_); refine siQ ?_; (try simp (disch := omega) only [w64, wu8]))
    | (with_reducible refine hCheck_g (by kernel_rfl) ?_)
    | ((first | (refine AW.cond rfl (fun h => ?_) (fun h => ?_)) | (refine AW.cond_ub rfl (fun h => ?_) ?_) | (refine AW.cond_nb rfl ?_ (fun h => ?_))) <;> (try replace h := boolH h) <;> (try (exfalso; first | omega | exact absurd h (by decide))))
    | (with_reducible first | refine AW.skip ?_ | refine AW.exit ?_ | refine AW.ret ?_ | refine thenS_r ?_ | refine thenS_e ?_ | refine inBlockS_r ?_ | refine inBlockS_e ?_ | refine inBlockS_e2 rfl ?_ | refine exitQ_r ?_ | refine exitQ_n ?_)
    | (refine sub_auto ?_; refine subQ ?_)
    | (with_reducible refine And.intro ?_ ?_)
    | (subst hK)
    | exact trivial
  all_goals (try (intros; assumption))
  all_goals (try refine boolG ?_)
  all_goals (try replace hp := boolH hp)
  all_goals (try replace hi := boolH hi)
  all_goals (try replace hj := boolH hj)
  all_goals (try replace hk := boolH hk)
  all_goals (try (intros; trivial))
  all_goals (try (intros; omega))
  all_goals (try (rw [w64 (by omega) (by omega)]; first | done | omega))
  all_goals clear hC
  all_goals first
    | omega
    | rfl
    | exact dles_refl _
    | exact dles_of_eq (withT_app (by assumption))
    | exact dles_of_eq (withT_set (by assumption))
    | (intro d hd; first | (subst hd; exact ⟨rfl, by simp [D.cells, D.one]⟩) | (rcases hd with rfl | rfl <;> exact ⟨rfl, by simp [D.cells, D.one]⟩) | (rcases hd with rfl | rfl | rfl <;> exact ⟨rfl, by simp [D.cells, D.one]⟩) | (rcases hd with rfl | rfl | rfl | rfl <;> exact ⟨rfl, by simp [D.cells, D.one]⟩))
end
noncomputable def cfg70 : Cfg := ⟨Tryz.prog, 24, tab94, (fun _ _ => []), [], (fun _ => none)⟩
theorem cfg70_l : cfg70.pins = [] ∧ cfg70.P = Tryz.prog ∧ cfg70.N = 24 ∧ cfg70.ti 93 = none ∧ cfg70.T 93 = e93 ∧ cfg70.mv 93 = (fun _ => []) ∧ cfg70.ti 94 = none ∧ cfg70.T 94 = e94 ∧ cfg70.mv 94 = (fun _ => []) := ⟨rfl, rfl, rfl, rfl, rfl, rfl, rfl, rfl, rfl⟩
section
attribute [local go_sem] cfg70_l e93 e94
attribute [local go_sem] encTable decTable etaTable zfTable encChange decChange etaChange zfChange dL_Change dM_Change List.length_set Nat.le_refl
theorem con70 (hC : COk cfg70) (t : Table) (c : Change) (hp : (t.file.format.fields.length ≤ 1000000 ∧ t.file.keys.length ≤ 1000000 ∧ t.records.length ≤ 1000000)) : Sem Tryz.prog 70 [.d (encTable t), .d (encChange c)] (.tup [.d (encTable (changedT t c).1), .d (.i .i64 (changedT t c).2)]) := by
  refine sem_of_awR (C := cfg70) (rs := [.cell 4 80, .tmp 5]) (fun _ => []) Tryz.func70 rfl rfl rfl rfl rfl rfl ?_
  refine inQ ?_
  repeat' first
    | (with_reducible first | refine thenS_n ?_ | refine inBlockS_n ?_ | refine AW.seq ?_ | refine AW.block ?_)
    | (with_reducible first | (refine AW.runK hC ?_; intro K hK) | (refine AW.drawK hC (by kernel_rfl) ?_; intro K hK))
    | ((with_reducible first | refine erun_g ?_ | refine edraw_g ?_ | refine exitS_g ?_); refine siQ ?_; (try simp (disch := omega) only [w64, wu8]))
    | (with_reducible refine hCheck_g (by kernel_rfl) ?_)
    | ((first | (refine AW.cond rfl (fun h => ?_) (fun h => ?_)) | (refine AW.cond_ub rfl (fun h => ?_) ?_) | (refine AW.cond_nb rfl ?_ (fun h => ?_))) <;> (try replace h := boolH h) <;> (try (exfalso; first | omega | exact absurd h (by decide))))
    | (with_reducible first | refine AW.skip ?_ | refine AW.exit ?_ | refine AW.ret ?_ | refine thenS_r ?_ | refine thenS_e ?_ | refine inBlockS_r ?_ | refine inBlockS_e ?_ | refine inBlockS_e2 rfl ?_ | refine exitQ_r ?_ | refine exitQ_n ?_)
    | (refine sub_auto ?_; refine subQ ?_)
    | (with_reducible refine And.intro ?_ ?_)
    | (subst hK)
    | exact trivial
  all_goals (try (intros; assumption))
  all_goals (try refine boolG ?_)
  all_goals (try replace hp := boolH hp)
  all_goals (try replace hi := boolH hi)
  all_goals (try replace hj := boolH hj)
  all_goals (try replace hk := boolH hk)
  all_goals (try (intros; trivial))
  all_goals (try (intros; omega))
  all_goals (try (rw [w64 (by omega) (by omega)]; first | done | omega))
  all_goals clear hC
  all_goals first
    | omega
    | exact (chgErr_pos (by assumption)).1
    | exact (chgErr_pos (by assumption)).2
    | (rw [changed_err (by assumption)]; done)
    | (rw [changed_err (by assumption)]; rfl)
    | (rw [changed_ok (by assumption)]; done)
    | (rw [changed_ok (by assumption)]; rfl)
    | (rw [changed_ok (by assumption)]; exact dles_refl _)
end
end Go.Ev
