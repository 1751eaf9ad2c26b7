/- Tools and contracts under the laws of this seat: Dyc177 to Dyc139. -/
import Derived.Test.YtkgkgcojfocomaaGreatE09
set_option linter.unusedVariables false
set_option linter.unusedSimpArgs false
namespace Go.Ev
open Go.Proofs Ty
set_option maxRecDepth 10000
set_option maxHeartbeats 4000000
set_option linter.unusedSimpArgs false
set_option linter.unusedVariables false
attribute [local go_sem] erun_nil erun_cons edraw_eq edrun_nil edrun_cons e1_n e1_g guardSlot_eq lkAll_tmp lkAll_nil lkAll_const lkAll_func val_tmp val_const val_func aget getBox_mk getRow_mk liveRow_mk hp_mk eU_move_n eU_assign_n eU_move eU_assign eU_pick eU_alloc eU_box eU_load eU_store eU_nilCheck eU_binOp eU_unOp eU_fieldAddr eU_field eU_indexAddr eU_index eU_build eU_buildSlice eU_slice eU_extract eU_makeFunc eU_builtin eU_call eU_callv V.cells V.one D.one D.cells newObj nm HS.isFree HS.isLive andOk_some andOk_none List.map_cons List.map_nil Option.bind_some Option.bind_none putL List.cons_append List.nil_append thenS_normal thenS_ret thenS_exit inBlockS_normal inBlockS_ret inBlockS_exit true_and and_true justV justO cval Option.map_some Option.map_none loadAt storeAt ldV ldD mkAgg V.asD spliceL List.take_succ_cons List.take_zero List.drop_succ_cons List.drop_zero List.getElem?_cons_zero List.getElem?_cons_succ List.getElem?_nil List.all_cons List.all_nil Bool.and_true Bool.true_and Bool.and_self List.length_cons List.length_nil vals aopCall argsO argO toD3 toD2 toD1 toDs O.ok O.ok2 O.ok1 O.flat O.flat1 D.flat D.flatA inO inO2 inO1 inOs List.filterMap_nil List.filterMap_cons List.filter_nil List.filter_cons List.nodup_nil decide_true decide_false Bool.not_true Bool.not_false not_true_eq_false not_false_eq_true or_false false_or and_false false_and ne_eq List.append_nil optB guardQ guardRes beq_self_eq_true List.mapM_cons List.mapM_nil Option.pure_def Option.bind_eq_bind true_or or_true or_self callHp ite_self not_true not_false_iff ite_true ite_false if_true if_false Bool.false_eq_true Bool.true_eq_false List.any_nil List.any_cons List.contains_nil List.contains_cons eq_self aopAppend builtinV elems aopBin nilEqS nilEqP aopSlice bound natOf lenOf binD intBin unD bindEq eU_makeMap eU_convert eU_makeSlice aopConv aopMake isShift shiftD eU_lookup eU_mapUpdate getMp_mk List.range_zero Nat.zero_le Nat.zero_mul Nat.zero_add Nat.add_zero List.length_append List.take_length List.isEmpty_nil List.isEmpty_cons V.neg List.flatMap_nil and_self List.range_succ forall_const implies_true Nat.not_lt_zero exitQ_normal exitQ_ret exitS_eq exitO resVs resV_tmp resV_cell takeRow argCells mvAt dle_same dles_same ole_same ole oles dle dles List.nodup_cons List.mem_cons List.not_mem_nil List.drop_length Nat.le_refl Nat.lt_irrefl id_eq Option.some.injEq Bool.or_false Bool.false_or Bool.or_self Bool.or_true Bool.true_or false_implies Bool.and_false Bool.false_and List.reverse_cons List.reverse_nil sh1 mget1 mget aopLookup aopMapUpdate mapOf msetK msetV Option.isSome_some Option.isSome_none Bool.cond_true_left Bool.cond_false_right Bool.cond_true_right Bool.cond_false_left beq_true beq_false Bool.not_not imp_self guardVal notB strBin aopSliceS buildV argOk D.splice kEq Option.toList_some Option.toList_none adel List.getD_cons_zero List.getD_cons_succ bxIds bxId backHp hget one1 aopCall0 aopTurn
attribute [local go_sem] sz3 ag3 zr3 zo3 zd3 by3 sl3 st3 bo3 pt3 ck3 sz9 ag9 zr9 zo9 zd9 by9 sl9 un9 st9 bo9 pt9 ck9 sz72 ag72 zr72 zo72 zd72 by72 el72 sl72 un72 st72 bo72 pt72 sz74 ag74 zr74 zd74 by74 sl74 st74 bo74 pt74 of74_0 fa74_0 of74_1 fa74_1 pl74 sz108 ag108 zr108 zd108 by108 sl108 st108 bo108 pt108 of108_0 fa108_0 of108_1 fa108_1 of108_2 fa108_2 pl108 ek108 sz110 ag110 zr110 zd110 by110 sl110 st110 bo110 pt110 of110_0 fa110_0 of110_1 fa110_1 pl110 ek110 encDType decDType etaDType zfDType encVal decVal etaVal zfVal Int.toNat_natCast chr_eq dL_int dM_int getDz_int decL_sl decM_cons decM_nil decI List.length_map nc0 bytesD_len bytesD_get encField decField etaField zfField encFmt decFmt etaFmt zfFmt encKField decKField etaKField zfKField encFile decFile etaFile zfFile encRec decRec etaRec zfRec getDz_Field getDz_KField getDz_Rec dL_Field dL_KField dL_Rec dM_Field dM_KField dM_Rec ceqField ceqKField ceqRec List.length_take decL_nil Int.toNat_zero Nat.sub_zero List.drop_zero sz4 ag4 zr4 zo4 zd4 by4 sl4 st4 bo4 pt4 sz75 ag75 zr75 zo75 zd75 by75 el75 sl75 un75 st75 bo75 pt75 sz77 ag77 zr77 zd77 by77 sl77 st77 bo77 pt77 of77_0 fa77_0 of77_1 fa77_1 of77_2 fa77_2 of77_3 fa77_3 pl77 sz113 ag113 zr113 zd113 by113 sl113 st113 bo113 pt113 of113_0 fa113_0 of113_1 fa113_1 pl113 ek113 sz212 ag212 zr212 zd212 by212 sl212 st212 bo212 pt212 of212_0 fa212_0 of212_1 fa212_1 pl212 ek212
attribute [local go_sem ←] List.map_take List.map_drop
noncomputable def cfg177 : Cfg := ⟨Tryz.prog, 22, tab193, (fun _ _ => []), [], (fun _ => none)⟩
theorem cfg177_l : cfg177.pins = [] ∧ cfg177.P = Tryz.prog ∧ cfg177.N = 22 ∧ cfg177.ti 179 = none ∧ cfg177.T 179 = e179 ∧ cfg177.mv 179 = (fun _ => []) := ⟨rfl, rfl, rfl, rfl, rfl, rfl⟩
section
attribute [local go_sem] cfg177_l e179
theorem con177 (hC : COk cfg177) (f : Fmt) (hp : f.fields.length ≤ 1000000 ∧ (∀ j, j < f.fields.length → typeErr (f.fields.getD j zField).type_ = 0)) : Sem Tryz.prog 177 [.d (encFmt f)] (.d (.i .i64 (sizeF f))) := by
  refine sem_of_awR (C := cfg177) (rs := [.tmp 2]) (fun _ => []) Tryz.func177 rfl rfl rfl rfl rfl rfl ?_
  refine inQ ?_
  repeat' first
    | (with_reducible first | refine thenS_n ?_ | refine inBlockS_n ?_ | refine AW.seq ?_ | refine AW.block ?_)
    | (with_reducible first | (refine AW.runK hC ?_; intro K hK) | (refine AW.drawK hC (by kernel_rfl) ?_; intro K hK))
    | ((with_reducible first | refine erun_g ?_ | refine edraw_g ?_ | refine exitS_g ?_); refine siQ ?_; (try simp (disch := omega) only [w64, wu8]))
    | (with_reducible refine hCheck_g (by kernel_rfl) ?_)
    | ((first | (refine AW.cond rfl (fun h => ?_) (fun h => ?_)) | (refine AW.cond_ub rfl (fun h => ?_) ?_) | (refine AW.cond_nb rfl ?_ (fun h => ?_))) <;> (try replace h := boolH h) <;> (try (exfalso; first | omega | exact absurd h (by decide))))
    | (with_reducible first | refine AW.skip ?_ | refine AW.exit ?_ | refine AW.ret ?_ | refine thenS_r ?_ | refine thenS_e ?_ | refine inBlockS_r ?_ | refine inBlockS_e ?_ | refine inBlockS_e2 rfl ?_ | refine exitQ_r ?_ | refine exitQ_n ?_)
    | (refine AW.loopN 3 rfl (ι := Nat) (fun i => mkS [(1, V.ptr 16 0), (3, V.d (.i .i64 (offTo f.fields i))), (4, V.d (.i .i64 (i : Int)))] ([(16, .live (.box 74 [.d (.s f.name), .d (.sl 4 (f.fields.map encField))]))])) (fun i => i ≤ f.fields.length) (fun i => f.fields.length - i) (0) ?_ ?_ (fun i hi => ?_) <;> (try dsimp only) <;> (try dsimp only at hi))
    | (refine LoopNext.mk1 3 (i + 1) ?_ ?_ ?_ <;> (try dsimp only))
    | (refine sub_auto ?_; refine subQ ?_)
    | (with_reducible refine And.intro ?_ ?_)
    | (subst hK)
    | exact trivial
  all_goals (try (intros; assumption))
  all_goals (try refine boolG ?_)
  all_goals (try replace hp := boolH hp)
  all_goals (try replace hi := boolH hi)
  all_goals (try replace hj := boolH hj)
  all_goals (try replace hk := boolH hk)
  all_goals (try (intros; trivial))
  all_goals (try (intros; omega))
  all_goals (try (rw [w64 (by omega) (by omega)]; first | done | omega))
  all_goals (try have O1 := offTo_ok f.fields i)
  all_goals (try have S1 := sizeN_ok (hp.2 i (by omega)))
  all_goals clear hC
  all_goals first
    | omega
    | rfl
    | exact hp.2 i (by omega)
    | (rw [off_step hp.2 (by omega), w64 (by omega) (by omega)]; done)
    | (rw [sizeF, show f.fields.length = i by omega]; done)
end
noncomputable def cfg192 : Cfg := ⟨Tryz.prog, 66, tab177, (fun _ _ => []), [], (fun _ => none)⟩
theorem cfg192_l : cfg192.pins = [] ∧ cfg192.P = Tryz.prog ∧ cfg192.N = 66 ∧ cfg192.ti 51 = none ∧ cfg192.T 51 = e51 ∧ cfg192.mv 51 = (fun _ => []) ∧ cfg192.ti 76 = none ∧ cfg192.T 76 = e76 ∧ cfg192.mv 76 = (fun _ => []) ∧ cfg192.ti 177 = none ∧ cfg192.T 177 = e177 ∧ cfg192.mv 177 = (fun _ => []) ∧ cfg192.ti 178 = none ∧ cfg192.T 178 = e178 ∧ cfg192.mv 178 = (fun _ => []) ∧ cfg192.ti 193 = none ∧ cfg192.T 193 = e193 ∧ cfg192.mv 193 = (fun _ => []) := ⟨rfl, rfl, rfl, rfl, rfl, rfl, rfl, rfl, rfl, rfl, rfl, rfl, rfl, rfl, rfl, rfl, rfl, rfl⟩
section
attribute [local go_sem] cfg192_l e51 e76 e177 e178 e193
theorem con192 (hC : COk cfg192) (f : Fmt) (hp : f.fields.length ≤ 1000000) : Sem Tryz.prog 192 [.d (encFmt f)] (.tup [.d (.i .i64 (fieldsC f.fields).1), .d (.i .i64 (fieldsC f.fields).2)]) := by
  refine sem_of_awR (C := cfg192) (rs := [.tmp 2, .tmp 3]) (fun _ => []) Tryz.func192 rfl rfl rfl rfl rfl rfl ?_
  refine inQ ?_
  repeat' first
    | (with_reducible first | refine thenS_n ?_ | refine inBlockS_n ?_ | refine AW.seq ?_ | refine AW.block ?_)
    | (refine AW.atR 17 rfl ?_; by_cases hs : 200 < sizeF f)
    | (with_reducible first | (refine AWh.runK hC ?_; intro K hK) | (refine AWh.drawK hC (by kernel_rfl) ?_; intro K hK))
    | (with_reducible first | (refine AW.runK hC ?_; intro K hK) | (refine AW.drawK hC (by kernel_rfl) ?_; intro K hK))
    | ((with_reducible first | refine erun_g ?_ | refine edraw_g ?_ | refine exitS_g ?_); (first | (simp (maxSteps := 1000000) only [go_sem, ↓reduceIte, reduceCtorEq, Nat.reduceEqDiff, Nat.reduceLT, Nat.reduceLeDiff, Nat.reduceMul, Nat.reduceAdd, Nat.reduceSub, reduceDIte, Nat.reduceBEq, Nat.reduceBNe, hs]) | (refine siQ ?_)); (try simp (disch := omega) only [w64, wu8]))
    | (with_reducible refine hCheck_g (by kernel_rfl) ?_)
    | ((first | (refine AW.cond rfl (fun h => ?_) (fun h => ?_)) | (refine AW.cond_ub rfl (fun h => ?_) ?_) | (refine AW.cond_nb rfl ?_ (fun h => ?_))) <;> (try replace h := boolH h) <;> (try (exfalso; first | omega | exact absurd h (by decide))))
    | (with_reducible first | refine AW.skip ?_ | refine AW.exit ?_ | refine AW.ret ?_ | refine thenS_r ?_ | refine thenS_e ?_ | refine inBlockS_r ?_ | refine inBlockS_e ?_ | refine inBlockS_e2 rfl ?_ | refine exitQ_r ?_ | refine exitQ_n ?_)
    | (refine AW.loopN 6 rfl (ι := Nat) (fun i => mkS [(1, V.ptr 16 0), (4, V.d (.i .i64 (i : Int)))] ([(16, .live (.box 74 [.d (.s f.name), .d (.sl 4 (f.fields.map encField))]))])) (fun i => i ≤ f.fields.length ∧ (1 ≤ f.fields.length ∧ f.fields.length ≤ 20) ∧ ∀ j, j < i → fieldE f.fields j = 0) (fun i => f.fields.length - i) (0) ?_ ?_ (fun i hi => ?_) <;> (try dsimp only) <;> (try dsimp only at hi))
    | (refine LoopNext.mk1 6 (i + 1) ?_ ?_ ?_ <;> (try dsimp only))
    | (refine sub_auto ?_; refine subQ ?_)
    | (with_reducible refine And.intro ?_ ?_)
    | (subst hK)
    | exact trivial
  all_goals (try (intros; assumption))
  all_goals (try refine boolG ?_)
  all_goals (try replace hp := boolH hp)
  all_goals (try replace hi := boolH hi)
  all_goals (try replace hj := boolH hj)
  all_goals (try replace hk := boolH hk)
  all_goals (try (intros; trivial))
  all_goals (try (intros; omega))
  all_goals (try (rw [w64 (by omega) (by omega)]; first | done | omega))
  all_goals (try have O1 := offTo_ok f.fields f.fields.length)
  all_goals clear hC
  all_goals (try have N0 : ¬isName (f.fields.getD i zField).name = false := by rw [show isName (f.fields.getD i zField).name = true by assumption]; decide)
  all_goals first
    | omega
    | rfl
    | (rw [fields_0 (by omega)]; done)
    | (rw [fields_20 (by omega)]; done)
    | exact types_of hi.2.2 (by omega)
    | (rw [fields_bad hi.2.1 hi.2.2 (by omega) (by rw [fe_name (by assumption)]; decide)]; first | done | exact fe_name (by assumption))
    | (rw [fields_bad hi.2.1 hi.2.2 (by omega) (by rw [fe_dup (by omega) N0 (by assumption)]; decide)]; first | done | exact fe_dup (by omega) N0 (by assumption))
    | (rw [fields_bad hi.2.1 hi.2.2 (by omega) (by rw [fe_type (by omega) N0 (by assumption) (by assumption)]; assumption)]; first | done | exact fe_type (by omega) N0 (by assumption) (by assumption))
    | (rw [fields_bad hi.2.1 hi.2.2 (by omega) (by rw [fe_ptr (by omega) N0 (by assumption) (by assumption) (by assumption)]; decide)]; first | done | exact fe_ptr (by omega) N0 (by assumption) (by assumption) (by assumption))
    | exact all_step hi.2.2 (fe_ok (by omega) N0 (by assumption) (by assumption) (by assumption))
    | (rw [fields_end hi.2.1 hi.2.2 (by omega)]; done)
    | (rw [fields_end hi.2.1 hi.2.2 (by omega)]; unfold sizeF; by_cases q : 200 < offTo f.fields f.fields.length <;> simp [q]; done)
    | (rw [fields_end hi.2.1 hi.2.2 (by omega), if_pos (by assumption)]; rfl)
    | (rw [fields_end hi.2.1 hi.2.2 (by omega), if_neg (by unfold sizeF at hs; omega)]; rfl)
end
noncomputable def cfg175 : Cfg := ⟨Tryz.prog, 12, tab192, (fun _ _ => []), [], (fun _ => none)⟩
theorem cfg175_l : cfg175.pins = [] ∧ cfg175.P = Tryz.prog ∧ cfg175.N = 12 ∧ cfg175.ti 51 = none ∧ cfg175.T 51 = e51 ∧ cfg175.mv 51 = (fun _ => []) ∧ cfg175.ti 192 = none ∧ cfg175.T 192 = e192 ∧ cfg175.mv 192 = (fun _ => []) := ⟨rfl, rfl, rfl, rfl, rfl, rfl, rfl, rfl, rfl⟩
section
attribute [local go_sem] cfg175_l e51 e192
theorem con175 (hC : COk cfg175) (f : Fmt) (hp : f.fields.length ≤ 1000000) : Sem Tryz.prog 175 [.d (encFmt f)] (.tup [.d (.i .i64 (fmtErr f).1), .d (.i .i64 (fmtErr f).2)]) := by
  refine sem_of_awR (C := cfg175) (rs := [.tmp 2, .tmp 3]) (fun _ => []) Tryz.func175 rfl rfl rfl rfl rfl rfl ?_
  refine inQ ?_
  repeat' first
    | (with_reducible first | refine thenS_n ?_ | refine inBlockS_n ?_ | refine AW.seq ?_ | refine AW.block ?_)
    | (with_reducible first | (refine AW.runK hC ?_; intro K hK) | (refine AW.drawK hC (by kernel_rfl) ?_; intro K hK))
    | ((with_reducible first | refine erun_g ?_ | refine edraw_g ?_ | refine exitS_g ?_); refine siQ ?_; (try simp (disch := omega) only [w64, wu8]))
    | (with_reducible refine hCheck_g (by kernel_rfl) ?_)
    | ((first | (refine AW.cond rfl (fun h => ?_) (fun h => ?_)) | (refine AW.cond_ub rfl (fun h => ?_) ?_) | (refine AW.cond_nb rfl ?_ (fun h => ?_))) <;> (try replace h := boolH h) <;> (try (exfalso; first | omega | exact absurd h (by decide))))
    | (with_reducible first | refine AW.skip ?_ | refine AW.exit ?_ | refine AW.ret ?_ | refine thenS_r ?_ | refine thenS_e ?_ | refine inBlockS_r ?_ | refine inBlockS_e ?_ | refine inBlockS_e2 rfl ?_ | refine exitQ_r ?_ | refine exitQ_n ?_)
    | (refine sub_auto ?_; refine subQ ?_)
    | (with_reducible refine And.intro ?_ ?_)
    | (subst hK)
    | exact trivial
  all_goals (try (intros; assumption))
  all_goals (try refine boolG ?_)
  all_goals (try replace hp := boolH hp)
  all_goals (try replace hi := boolH hi)
  all_goals (try replace hj := boolH hj)
  all_goals (try replace hk := boolH hk)
  all_goals (try (intros; trivial))
  all_goals (try (intros; omega))
  all_goals (try (rw [w64 (by omega) (by omega)]; first | done | omega))
  all_goals clear hC
  all_goals first
    | omega
    | rfl
    | (rw [fmt_name (by assumption)]; done)
    | (rw [fmt_fields (by simp_all)]; done)
end
noncomputable def cfg176 : Cfg := ⟨Tryz.prog, 47, tab175, (fun _ _ => []), [], (fun _ => none)⟩
theorem cfg176_l : cfg176.pins = [] ∧ cfg176.P = Tryz.prog ∧ cfg176.N = 47 ∧ cfg176.ti 193 = none ∧ cfg176.T 193 = e193 ∧ cfg176.mv 193 = (fun _ => []) := ⟨rfl, rfl, rfl, rfl, rfl, rfl⟩
section
attribute [local go_sem] cfg176_l e193
theorem con176 (hC : COk cfg176) (f : File) (hp : f.format.fields.length ≤ 1000000 ∧ f.keys.length ≤ 1000000) : Sem Tryz.prog 176 [.d (encFile f)] (.tup [.d (.i .i64 (keysC f).1), .d (.i .i64 (keysC f).2)]) := by
  refine sem_of_awR (C := cfg176) (rs := [.tmp 2, .tmp 3]) (fun _ => []) Tryz.func176 rfl rfl rfl rfl rfl rfl ?_
  refine inQ ?_
  repeat' first
    | (with_reducible first | refine thenS_n ?_ | refine inBlockS_n ?_ | refine AW.seq ?_ | refine AW.block ?_)
    | (with_reducible first | (refine AW.runK hC ?_; intro K hK) | (refine AW.drawK hC (by kernel_rfl) ?_; intro K hK))
    | ((with_reducible first | refine erun_g ?_ | refine edraw_g ?_ | refine exitS_g ?_); refine siQ ?_; (try simp (disch := omega) only [w64, wu8]))
    | (with_reducible refine hCheck_g (by kernel_rfl) ?_)
    | ((first | (refine AW.cond rfl (fun h => ?_) (fun h => ?_)) | (refine AW.cond_ub rfl (fun h => ?_) ?_) | (refine AW.cond_nb rfl ?_ (fun h => ?_))) <;> (try replace h := boolH h) <;> (try (exfalso; first | omega | exact absurd h (by decide))))
    | (with_reducible first | refine AW.skip ?_ | refine AW.exit ?_ | refine AW.ret ?_ | refine thenS_r ?_ | refine thenS_e ?_ | refine inBlockS_r ?_ | refine inBlockS_e ?_ | refine inBlockS_e2 rfl ?_ | refine exitQ_r ?_ | refine exitQ_n ?_)
    | (refine AW.loopN 4 rfl (ι := Nat) (fun i => mkS [(1, V.ptr 16 0), (4, V.d (.i .i64 (i : Int)))] ([(16, .live (.box 77 [.d (.s f.name), .d (.s f.format.name), .d (.sl 4 (f.format.fields.map encField)), .d (.sl 2 (f.keys.map encKField)), .d (.b f.unique)]))])) (fun i => i ≤ f.keys.length ∧ f.keys.length ≤ 4 ∧ ∀ j, j < i → keyE f j = 0) (fun i => f.keys.length - i) (0) ?_ ?_ (fun i hi => ?_) <;> (try dsimp only) <;> (try dsimp only at hi))
    | (refine LoopNext.mk1 4 (i + 1) ?_ ?_ ?_ <;> (try dsimp only))
    | (refine AW.loopN 9 rfl (ι := Nat) (fun k => mkS [(1, V.ptr 16 0), (4, V.d (.i .i64 (i : Int))), (5, V.d (.i .i64 (k : Int)))] ([(16, .live (.box 77 [.d (.s f.name), .d (.s f.format.name), .d (.sl 4 (f.format.fields.map encField)), .d (.sl 2 (f.keys.map encKField)), .d (.b f.unique)]))])) (fun k => k ≤ i ∧ ∀ j, j < k → keySame f i j = 0) (fun k => i - k) (0) ?_ ?_ (fun k hk => ?_) <;> (try dsimp only) <;> (try dsimp only at hk))
    | (refine LoopNext.mk1 9 (k + 1) ?_ ?_ ?_ <;> (try dsimp only))
    | (refine sub_auto ?_; refine subQ ?_)
    | (with_reducible refine And.intro ?_ ?_)
    | (subst hK)
    | exact trivial
  all_goals (try (intros; assumption))
  all_goals (try refine boolG ?_)
  all_goals (try replace hp := boolH hp)
  all_goals (try replace hi := boolH hi)
  all_goals (try replace hj := boolH hj)
  all_goals (try replace hk := boolH hk)
  all_goals (try (intros; trivial))
  all_goals (try (intros; omega))
  all_goals (try (rw [w64 (by omega) (by omega)]; first | done | omega))
  all_goals clear hC
  all_goals first
    | omega
    | rfl
    | (rw [keys_4 (by omega)]; done)
    | (rw [keys_bad hi.2.1 hi.2.2 (by omega) (by rw [ke_miss (by assumption)]; decide)]; first | done | exact ke_miss (by assumption))
    | (rw [keys_bad hi.2.1 hi.2.2 (by omega) (by rw [ke_dup (by assumption) (k := k) (by omega) (by omega) (by assumption)]; decide)]; first | done | exact ke_dup (by assumption) (k := k) (by omega) (by omega) (by assumption))
    | exact all_step hk.2 (ks_no (by assumption))
    | exact all_step hi.2.2 (ke_ok (by assumption) hk.2 (by omega))
    | (rw [keys_end hi.2.1 hi.2.2 (by omega)]; done)
end
noncomputable def cfg166 : Cfg := ⟨Tryz.prog, 23, tab176, (fun _ _ => []), [], (fun _ => none)⟩
theorem cfg166_l : cfg166.pins = [] ∧ cfg166.P = Tryz.prog ∧ cfg166.N = 23 ∧ cfg166.ti 51 = none ∧ cfg166.T 51 = e51 ∧ cfg166.mv 51 = (fun _ => []) ∧ cfg166.ti 175 = none ∧ cfg166.T 175 = e175 ∧ cfg166.mv 175 = (fun _ => []) ∧ cfg166.ti 176 = none ∧ cfg166.T 176 = e176 ∧ cfg166.mv 176 = (fun _ => []) := ⟨rfl, rfl, rfl, rfl, rfl, rfl, rfl, rfl, rfl, rfl, rfl, rfl⟩
section
attribute [local go_sem] cfg166_l e51 e175 e176
theorem con166 (hC : COk cfg166) (f : File) (hp : f.format.fields.length ≤ 1000000 ∧ f.keys.length ≤ 1000000) : Sem Tryz.prog 166 [.d (encFile f)] (.tup [.d (.i .i64 (fileErr f).1), .d (.i .i64 (fileErr f).2)]) := by
  refine sem_of_awR (C := cfg166) (rs := [.tmp 2, .tmp 3]) (fun _ => []) Tryz.func166 rfl rfl rfl rfl rfl rfl ?_
  refine inQ ?_
  repeat' first
    | (with_reducible first | refine thenS_n ?_ | refine inBlockS_n ?_ | refine AW.seq ?_ | refine AW.block ?_)
    | (with_reducible first | (refine AW.runK hC ?_; intro K hK) | (refine AW.drawK hC (by kernel_rfl) ?_; intro K hK))
    | ((with_reducible first | refine erun_g ?_ | refine edraw_g ?_ | refine exitS_g ?_); refine siQ ?_; (try simp (disch := omega) only [w64, wu8]))
    | (with_reducible refine hCheck_g (by kernel_rfl) ?_)
    | ((first | (refine AW.cond rfl (fun h => ?_) (fun h => ?_)) | (refine AW.cond_ub rfl (fun h => ?_) ?_) | (refine AW.cond_nb rfl ?_ (fun h => ?_))) <;> (try replace h := boolH h) <;> (try (exfalso; first | omega | exact absurd h (by decide))))
    | (with_reducible first | refine AW.skip ?_ | refine AW.exit ?_ | refine AW.ret ?_ | refine thenS_r ?_ | refine thenS_e ?_ | refine inBlockS_r ?_ | refine inBlockS_e ?_ | refine inBlockS_e2 rfl ?_ | refine exitQ_r ?_ | refine exitQ_n ?_)
    | (refine sub_auto ?_; refine subQ ?_)
    | (with_reducible refine And.intro ?_ ?_)
    | (subst hK)
    | exact trivial
  all_goals (try (intros; assumption))
  all_goals (try refine boolG ?_)
  all_goals (try replace hp := boolH hp)
  all_goals (try replace hi := boolH hi)
  all_goals (try replace hj := boolH hj)
  all_goals (try replace hk := boolH hk)
  all_goals (try (intros; trivial))
  all_goals (try (intros; omega))
  all_goals (try (rw [w64 (by omega) (by omega)]; first | done | omega))
  all_goals clear hC
  all_goals first
    | omega
    | rfl
    | (rw [file_name (by assumption)]; done)
    | (have h0 : isName f.name = true := by assumption
       rw [file_fmt (by rw [h0]; decide) (by assumption)]; done)
    | (have h0 : isName f.name = true := by assumption
       rw [file_keys (by rw [h0]; decide) (by assumption)]; done)
end
noncomputable def cfg156 : Cfg := ⟨Tryz.prog, 11, tab166, (fun _ _ => []), [], (fun _ => none)⟩
theorem cfg156_l : cfg156.pins = [] ∧ cfg156.P = Tryz.prog ∧ cfg156.N = 11 ∧ cfg156.ti 166 = none ∧ cfg156.T 166 = e166 ∧ cfg156.mv 166 = (fun _ => []) := ⟨rfl, rfl, rfl, rfl, rfl, rfl⟩
section
attribute [local go_sem] cfg156_l e166
theorem con156 (hC : COk cfg156) (f : File) (hp : f.format.fields.length ≤ 1000000 ∧ f.keys.length ≤ 1000000) : Sem Tryz.prog 156 [.d (encFile f)] (.d (.i .i64 (fileErr f).2)) := by
  refine sem_of_awR (C := cfg156) (rs := [.tmp 2]) (fun _ => []) Tryz.func156 rfl rfl rfl rfl rfl rfl ?_
  refine inQ ?_
  repeat' first
    | (with_reducible first | refine thenS_n ?_ | refine inBlockS_n ?_ | refine AW.seq ?_ | refine AW.block ?_)
    | (with_reducible first | (refine AW.runK hC ?_; intro K hK) | (refine AW.drawK hC (by kernel_rfl) ?_; intro K hK))
    | ((with_reducible first | refine erun_g ?_ | refine edraw_g ?_ | refine exitS_g ?_); refine siQ ?_; (try simp (disch := omega) only [w64, wu8]))
    | (with_reducible refine hCheck_g (by kernel_rfl) ?_)
    | ((first | (refine AW.cond rfl (fun h => ?_) (fun h => ?_)) | (refine AW.cond_ub rfl (fun h => ?_) ?_) | (refine AW.cond_nb rfl ?_ (fun h => ?_))) <;> (try replace h := boolH h) <;> (try (exfalso; first | omega | exact absurd h (by decide))))
    | (with_reducible first | refine AW.skip ?_ | refine AW.exit ?_ | refine AW.ret ?_ | refine thenS_r ?_ | refine thenS_e ?_ | refine inBlockS_r ?_ | refine inBlockS_e ?_ | refine inBlockS_e2 rfl ?_ | refine exitQ_r ?_ | refine exitQ_n ?_)
    | (refine sub_auto ?_; refine subQ ?_)
    | (with_reducible refine And.intro ?_ ?_)
    | (subst hK)
    | exact trivial
  all_goals (try (intros; assumption))
  all_goals (try refine boolG ?_)
  all_goals (try replace hp := boolH hp)
  all_goals (try replace hi := boolH hi)
  all_goals (try replace hj := boolH hj)
  all_goals (try replace hk := boolH hk)
  all_goals (try (intros; trivial))
  all_goals (try (intros; omega))
  all_goals (try (rw [w64 (by omega) (by omega)]; first | done | omega))
end
noncomputable def cfg138 : Cfg := ⟨Tryz.prog, 5, tab156, (fun _ _ => []), [], (fun _ => none)⟩
theorem cfg138_l : cfg138.pins = [] ∧ cfg138.P = Tryz.prog ∧ cfg138.N = 5 ∧ cfg138.ti 156 = none ∧ cfg138.T 156 = e156 ∧ cfg138.mv 156 = (fun _ => []) := ⟨rfl, rfl, rfl, rfl, rfl, rfl⟩
section
attribute [local go_sem] cfg138_l e156
theorem con138 (hC : COk cfg138) (f : File) (hp : f.format.fields.length ≤ 1000000 ∧ f.keys.length ≤ 1000000) : Sem Tryz.prog 138 [.d (encFile f)] (.d (.i .i64 (fileErr f).2)) := by
  refine sem_of_awR (C := cfg138) (rs := [.tmp 2]) (fun _ => []) Tryz.func138 rfl rfl rfl rfl rfl rfl ?_
  refine inQ ?_
  repeat' first
    | (with_reducible first | refine thenS_n ?_ | refine inBlockS_n ?_ | refine AW.seq ?_ | refine AW.block ?_)
    | (with_reducible first | (refine AW.runK hC ?_; intro K hK) | (refine AW.drawK hC (by kernel_rfl) ?_; intro K hK))
    | ((with_reducible first | refine erun_g ?_ | refine edraw_g ?_ | refine exitS_g ?_); refine siQ ?_; (try simp (disch := omega) only [w64, wu8]))
    | (with_reducible refine hCheck_g (by kernel_rfl) ?_)
    | ((first | (refine AW.cond rfl (fun h => ?_) (fun h => ?_)) | (refine AW.cond_ub rfl (fun h => ?_) ?_) | (refine AW.cond_nb rfl ?_ (fun h => ?_))) <;> (try replace h := boolH h) <;> (try (exfalso; first | omega | exact absurd h (by decide))))
    | (with_reducible first | refine AW.skip ?_ | refine AW.exit ?_ | refine AW.ret ?_ | refine thenS_r ?_ | refine thenS_e ?_ | refine inBlockS_r ?_ | refine inBlockS_e ?_ | refine inBlockS_e2 rfl ?_ | refine exitQ_r ?_ | refine exitQ_n ?_)
    | (refine sub_auto ?_; refine subQ ?_)
    | (with_reducible refine And.intro ?_ ?_)
    | (subst hK)
    | exact trivial
  all_goals (try (intros; assumption))
  all_goals (try refine boolG ?_)
  all_goals (try replace hp := boolH hp)
  all_goals (try replace hi := boolH hi)
  all_goals (try replace hj := boolH hj)
  all_goals (try replace hk := boolH hk)
  all_goals (try (intros; trivial))
  all_goals (try (intros; omega))
  all_goals (try (rw [w64 (by omega) (by omega)]; first | done | omega))
end
noncomputable def cfg167 : Cfg := ⟨Tryz.prog, 11, tab138, (fun _ _ => []), [], (fun _ => none)⟩
theorem cfg167_l : cfg167.pins = [] ∧ cfg167.P = Tryz.prog ∧ cfg167.N = 11 ∧ cfg167.ti 175 = none ∧ cfg167.T 175 = e175 ∧ cfg167.mv 175 = (fun _ => []) := ⟨rfl, rfl, rfl, rfl, rfl, rfl⟩
section
attribute [local go_sem] cfg167_l e175
theorem con167 (hC : COk cfg167) (f : Fmt) (hp : f.fields.length ≤ 1000000) : Sem Tryz.prog 167 [.d (encFmt f)] (.d (.i .i64 (fmtErr f).2)) := by
  refine sem_of_awR (C := cfg167) (rs := [.tmp 2]) (fun _ => []) Tryz.func167 rfl rfl rfl rfl rfl rfl ?_
  refine inQ ?_
  repeat' first
    | (with_reducible first | refine thenS_n ?_ | refine inBlockS_n ?_ | refine AW.seq ?_ | refine AW.block ?_)
    | (with_reducible first | (refine AW.runK hC ?_; intro K hK) | (refine AW.drawK hC (by kernel_rfl) ?_; intro K hK))
    | ((with_reducible first | refine erun_g ?_ | refine edraw_g ?_ | refine exitS_g ?_); refine siQ ?_; (try simp (disch := omega) only [w64, wu8]))
    | (with_reducible refine hCheck_g (by kernel_rfl) ?_)
    | ((first | (refine AW.cond rfl (fun h => ?_) (fun h => ?_)) | (refine AW.cond_ub rfl (fun h => ?_) ?_) | (refine AW.cond_nb rfl ?_ (fun h => ?_))) <;> (try replace h := boolH h) <;> (try (exfalso; first | omega | exact absurd h (by decide))))
    | (with_reducible first | refine AW.skip ?_ | refine AW.exit ?_ | refine AW.ret ?_ | refine thenS_r ?_ | refine thenS_e ?_ | refine inBlockS_r ?_ | refine inBlockS_e ?_ | refine inBlockS_e2 rfl ?_ | refine exitQ_r ?_ | refine exitQ_n ?_)
    | (refine sub_auto ?_; refine subQ ?_)
    | (with_reducible refine And.intro ?_ ?_)
    | (subst hK)
    | exact trivial
  all_goals (try (intros; assumption))
  all_goals (try refine boolG ?_)
  all_goals (try replace hp := boolH hp)
  all_goals (try replace hi := boolH hi)
  all_goals (try replace hj := boolH hj)
  all_goals (try replace hk := boolH hk)
  all_goals (try (intros; trivial))
  all_goals (try (intros; omega))
  all_goals (try (rw [w64 (by omega) (by omega)]; first | done | omega))
end
noncomputable def cfg168 : Cfg := ⟨Tryz.prog, 5, tab167, (fun _ _ => []), [], (fun _ => none)⟩
theorem cfg168_l : cfg168.pins = [] ∧ cfg168.P = Tryz.prog ∧ cfg168.N = 5 ∧ cfg168.ti 177 = none ∧ cfg168.T 177 = e177 ∧ cfg168.mv 177 = (fun _ => []) := ⟨rfl, rfl, rfl, rfl, rfl, rfl⟩
section
attribute [local go_sem] cfg168_l e177
theorem con168 (hC : COk cfg168) (f : Fmt) (hp : f.fields.length ≤ 1000000 ∧ (∀ j, j < f.fields.length → typeErr (f.fields.getD j zField).type_ = 0)) : Sem Tryz.prog 168 [.d (encFmt f)] (.d (.i .i64 (sizeF f))) := by
  refine sem_of_awR (C := cfg168) (rs := [.tmp 2]) (fun _ => []) Tryz.func168 rfl rfl rfl rfl rfl rfl ?_
  refine inQ ?_
  repeat' first
    | (with_reducible first | refine thenS_n ?_ | refine inBlockS_n ?_ | refine AW.seq ?_ | refine AW.block ?_)
    | (with_reducible first | (refine AW.runK hC ?_; intro K hK) | (refine AW.drawK hC (by kernel_rfl) ?_; intro K hK))
    | ((with_reducible first | refine erun_g ?_ | refine edraw_g ?_ | refine exitS_g ?_); refine siQ ?_; (try simp (disch := omega) only [w64, wu8]))
    | (with_reducible refine hCheck_g (by kernel_rfl) ?_)
    | ((first | (refine AW.cond rfl (fun h => ?_) (fun h => ?_)) | (refine AW.cond_ub rfl (fun h => ?_) ?_) | (refine AW.cond_nb rfl ?_ (fun h => ?_))) <;> (try replace h := boolH h) <;> (try (exfalso; first | omega | exact absurd h (by decide))))
    | (with_reducible first | refine AW.skip ?_ | refine AW.exit ?_ | refine AW.ret ?_ | refine thenS_r ?_ | refine thenS_e ?_ | refine inBlockS_r ?_ | refine inBlockS_e ?_ | refine inBlockS_e2 rfl ?_ | refine exitQ_r ?_ | refine exitQ_n ?_)
    | (refine sub_auto ?_; refine subQ ?_)
    | (with_reducible refine And.intro ?_ ?_)
    | (subst hK)
    | exact trivial
  all_goals (try (intros; assumption))
  all_goals (try refine boolG ?_)
  all_goals (try replace hp := boolH hp)
  all_goals (try replace hi := boolH hi)
  all_goals (try replace hj := boolH hj)
  all_goals (try replace hk := boolH hk)
  all_goals (try (intros; trivial))
  all_goals (try (intros; omega))
  all_goals (try (rw [w64 (by omega) (by omega)]; first | done | omega))
  all_goals first | exact hp.2 | omega
end
noncomputable def cfg184 : Cfg := ⟨Tryz.prog, 22, tab168, (fun _ _ => []), [], (fun _ => none)⟩
theorem cfg184_l : cfg184.pins = [] ∧ cfg184.P = Tryz.prog ∧ cfg184.N = 22 ∧ cfg184.ti 179 = none ∧ cfg184.T 179 = e179 ∧ cfg184.mv 179 = (fun _ => []) := ⟨rfl, rfl, rfl, rfl, rfl, rfl⟩
section
attribute [local go_sem] cfg184_l e179
theorem con184 (hC : COk cfg184) (f : Fmt) (a : Int) (hp : f.fields.length ≤ 1000000 ∧ (∀ j, j < f.fields.length → typeErr (f.fields.getD j zField).type_ = 0) ∧ 0 ≤ a ∧ a ≤ (f.fields.length : Int)) : Sem Tryz.prog 184 [.d (encFmt f), .d (.i .i64 a)] (.d (.i .i64 (offTo f.fields a.toNat))) := by
  refine sem_of_awR (C := cfg184) (rs := [.tmp 4]) (fun _ => []) Tryz.func184 rfl rfl rfl rfl rfl rfl ?_
  refine inQ ?_
  repeat' first
    | (with_reducible first | refine thenS_n ?_ | refine inBlockS_n ?_ | refine AW.seq ?_ | refine AW.block ?_)
    | (with_reducible first | (refine AW.runK hC ?_; intro K hK) | (refine AW.drawK hC (by kernel_rfl) ?_; intro K hK))
    | ((with_reducible first | refine erun_g ?_ | refine edraw_g ?_ | refine exitS_g ?_); refine siQ ?_; (try simp (disch := omega) only [w64, wu8]))
    | (with_reducible refine hCheck_g (by kernel_rfl) ?_)
    | ((first | (refine AW.cond rfl (fun h => ?_) (fun h => ?_)) | (refine AW.cond_ub rfl (fun h => ?_) ?_) | (refine AW.cond_nb rfl ?_ (fun h => ?_))) <;> (try replace h := boolH h) <;> (try (exfalso; first | omega | exact absurd h (by decide))))
    | (with_reducible first | refine AW.skip ?_ | refine AW.exit ?_ | refine AW.ret ?_ | refine thenS_r ?_ | refine thenS_e ?_ | refine inBlockS_r ?_ | refine inBlockS_e ?_ | refine inBlockS_e2 rfl ?_ | refine exitQ_r ?_ | refine exitQ_n ?_)
    | (refine AW.loopN 3 rfl (ι := Nat) (fun i => mkS [(1, V.d (.i .i64 a)), (2, V.ptr 32 0), (5, V.d (.i .i64 (offTo f.fields i))), (6, V.d (.i .i64 (i : Int)))] ([(32, .live (.box 74 [.d (.s f.name), .d (.sl 4 (f.fields.map encField))]))])) (fun i => (i : Int) ≤ a) (fun i => a.toNat - i) (0) ?_ ?_ (fun i hi => ?_) <;> (try dsimp only) <;> (try dsimp only at hi))
    | (refine LoopNext.mk1 3 (i + 1) ?_ ?_ ?_ <;> (try dsimp only))
    | (refine sub_auto ?_; refine subQ ?_)
    | (with_reducible refine And.intro ?_ ?_)
    | (subst hK)
    | exact trivial
  all_goals (try (intros; assumption))
  all_goals (try refine boolG ?_)
  all_goals (try replace hp := boolH hp)
  all_goals (try replace hi := boolH hi)
  all_goals (try replace hj := boolH hj)
  all_goals (try replace hk := boolH hk)
  all_goals (try (intros; trivial))
  all_goals (try (intros; omega))
  all_goals (try (rw [w64 (by omega) (by omega)]; first | done | omega))
  all_goals (try have O1 := offTo_ok f.fields i)
  all_goals (try have S1 := sizeN_ok (hp.2.1 i (by omega)))
  all_goals clear hC
  all_goals first
    | omega
    | rfl
    | exact hp.2.1 i (by omega)
    | (rw [off_step hp.2.1 (by omega), w64 (by omega) (by omega)]; done)
    | (rw [show a.toNat = i by omega]; done)
end
noncomputable def cfg170 : Cfg := ⟨Tryz.prog, 23, tab184, (fun _ _ => []), [], (fun _ => none)⟩
theorem cfg170_l : cfg170.pins = [] ∧ cfg170.P = Tryz.prog ∧ cfg170.N = 23 ∧ cfg170.ti 179 = none ∧ cfg170.T 179 = e179 ∧ cfg170.mv 179 = (fun _ => []) ∧ cfg170.ti 184 = none ∧ cfg170.T 184 = e184 ∧ cfg170.mv 184 = (fun _ => []) := ⟨rfl, rfl, rfl, rfl, rfl, rfl, rfl, rfl, rfl⟩
section
attribute [local go_sem] cfg170_l e179 e184
theorem con170 (hC : COk cfg170) (f : Fmt) (s : ByteArray) (a : Int) (hp : f.fields.length ≤ 1000000 ∧ (∀ j, j < f.fields.length → typeErr (f.fields.getD j zField).type_ = 0) ∧ 0 ≤ a ∧ a < (f.fields.length : Int) ∧ (s.size : Int) = sizeF f) : Sem Tryz.prog 170 [.d (encFmt f), .d (.s s), .d (.i .i64 a)] (.d (.s (partB f s a.toNat))) := by
  refine sem_of_awR (C := cfg170) (rs := [.tmp 6]) (fun _ => []) Tryz.func170 rfl rfl rfl rfl rfl rfl ?_
  refine inQ ?_
  repeat' first
    | (with_reducible first | refine thenS_n ?_ | refine inBlockS_n ?_ | refine AW.seq ?_ | refine AW.block ?_)
    | (refine AW.atR 2 rfl ?_; have ht := hp.2.1 a.toNat (by omega); have hf := part_fit hp.2.2.2.2 (show a.toNat < f.fields.length by omega) ht; have ho := offTo_ok f.fields a.toNat; have hz := sizeN_ok ht; have hw : IntKind.i64.wrap (offTo f.fields a.toNat + sizeN (f.fields.getD a.toNat zField).type_) = offTo f.fields a.toNat + sizeN (f.fields.getD a.toNat zField).type_ := (w64 (by omega) (by omega)); have he := part_ext (b := s) ht)
    | (with_reducible first | (refine AWh.runK hC ?_; intro K hK) | (refine AWh.drawK hC (by kernel_rfl) ?_; intro K hK))
    | (with_reducible first | (refine AW.runK hC ?_; intro K hK) | (refine AW.drawK hC (by kernel_rfl) ?_; intro K hK))
    | ((with_reducible first | refine erun_g ?_ | refine edraw_g ?_ | refine exitS_g ?_); (first | (simp (maxSteps := 1000000) only [go_sem, ↓reduceIte, reduceCtorEq, Nat.reduceEqDiff, Nat.reduceLT, Nat.reduceLeDiff, Nat.reduceMul, Nat.reduceAdd, Nat.reduceSub, reduceDIte, Nat.reduceBEq, Nat.reduceBNe, hw, he]) | (refine siQ ?_)); (try simp (disch := omega) only [w64, wu8]))
    | (with_reducible refine hCheck_g (by kernel_rfl) ?_)
    | ((first | (refine AW.cond rfl (fun h => ?_) (fun h => ?_)) | (refine AW.cond_ub rfl (fun h => ?_) ?_) | (refine AW.cond_nb rfl ?_ (fun h => ?_))) <;> (try replace h := boolH h) <;> (try (exfalso; first | omega | exact absurd h (by decide))))
    | (with_reducible first | refine AW.skip ?_ | refine AW.exit ?_ | refine AW.ret ?_ | refine thenS_r ?_ | refine thenS_e ?_ | refine inBlockS_r ?_ | refine inBlockS_e ?_ | refine inBlockS_e2 rfl ?_ | refine exitQ_r ?_ | refine exitQ_n ?_)
    | (refine sub_auto ?_; refine subQ ?_)
    | (with_reducible refine And.intro ?_ ?_)
    | (subst hK)
    | exact trivial
  all_goals (try (intros; assumption))
  all_goals (try refine boolG ?_)
  all_goals (try replace hp := boolH hp)
  all_goals (try replace hi := boolH hi)
  all_goals (try replace hj := boolH hj)
  all_goals (try replace hk := boolH hk)
  all_goals (try (intros; trivial))
  all_goals (try (intros; omega))
  all_goals (try (rw [w64 (by omega) (by omega)]; first | done | omega))
  all_goals clear hC
  all_goals first
    | omega
    | rfl
    | assumption
    | exact hp.2.1
end
noncomputable def cfg157 : Cfg := ⟨Tryz.prog, 47, tab170, (fun _ _ => []), [], (fun _ => none)⟩
theorem cfg157_l : cfg157.pins = [] ∧ cfg157.P = Tryz.prog ∧ cfg157.N = 47 ∧ cfg157.ti 167 = none ∧ cfg157.T 167 = e167 ∧ cfg157.mv 167 = (fun _ => []) ∧ cfg157.ti 168 = none ∧ cfg157.T 168 = e168 ∧ cfg157.mv 168 = (fun _ => []) ∧ cfg157.ti 169 = none ∧ cfg157.T 169 = e169 ∧ cfg157.mv 169 = (fun _ => []) ∧ cfg157.ti 170 = none ∧ cfg157.T 170 = e170 ∧ cfg157.mv 170 = (fun _ => []) := ⟨rfl, rfl, rfl, rfl, rfl, rfl, rfl, rfl, rfl, rfl, rfl, rfl, rfl, rfl, rfl⟩
section
attribute [local go_sem] cfg157_l e167 e168 e169 e170
theorem con157 (hC : COk cfg157) (f : Fmt) (s : ByteArray) (hp : f.fields.length ≤ 1000000) : Sem Tryz.prog 157 [.d (encFmt f), .d (.s s)] (.tup [.d (.i .i64 (valuesC f s).2.1), .d (.i .i64 (valuesC f s).2.2)]) := by
  refine sem_of_awR (C := cfg157) (rs := [.tmp 4, .tmp 5]) (fun _ => []) Tryz.func157 rfl rfl rfl rfl rfl rfl ?_
  refine inQ ?_
  repeat' first
    | (with_reducible first | refine thenS_n ?_ | refine inBlockS_n ?_ | refine AW.seq ?_ | refine AW.block ?_)
    | (with_reducible first | (refine AW.runK hC ?_; intro K hK) | (refine AW.drawK hC (by kernel_rfl) ?_; intro K hK))
    | ((with_reducible first | refine erun_g ?_ | refine edraw_g ?_ | refine exitS_g ?_); refine siQ ?_; (try simp (disch := omega) only [w64, wu8]))
    | (with_reducible refine hCheck_g (by kernel_rfl) ?_)
    | ((first | (refine AW.cond rfl (fun h => ?_) (fun h => ?_)) | (refine AW.cond_ub rfl (fun h => ?_) ?_) | (refine AW.cond_nb rfl ?_ (fun h => ?_))) <;> (try replace h := boolH h) <;> (try (exfalso; first | omega | exact absurd h (by decide))))
    | (with_reducible first | refine AW.skip ?_ | refine AW.exit ?_ | refine AW.ret ?_ | refine thenS_r ?_ | refine thenS_e ?_ | refine inBlockS_r ?_ | refine inBlockS_e ?_ | refine inBlockS_e2 rfl ?_ | refine exitQ_r ?_ | refine exitQ_n ?_)
    | (refine AW.loopN 7 rfl (ι := Nat) (fun i => mkS [(1, V.d (.s s)), (2, V.ptr 32 0), (7, V.d (.i .i64 (i : Int)))] ([(32, .live (.box 74 [.d (.s f.name), .d (.sl 4 (f.fields.map encField))]))])) (fun i => i ≤ f.fields.length ∧ ((fmtErr f).2 = 0 ∧ (s.size : Int) = sizeF f) ∧ ∀ j, j < i → partE f s j = 0) (fun i => f.fields.length - i) (0) ?_ ?_ (fun i hi => ?_) <;> (try dsimp only) <;> (try dsimp only at hi))
    | (refine LoopNext.mk1 7 (i + 1) ?_ ?_ ?_ <;> (try dsimp only))
    | (refine sub_auto ?_; refine subQ ?_)
    | (with_reducible refine And.intro ?_ ?_)
    | (subst hK)
    | exact trivial
  all_goals (try (intros; assumption))
  all_goals (try refine boolG ?_)
  all_goals (try replace hp := boolH hp)
  all_goals (try replace hi := boolH hi)
  all_goals (try replace hj := boolH hj)
  all_goals (try replace hk := boolH hk)
  all_goals (try (intros; trivial))
  all_goals (try (intros; omega))
  all_goals (try (rw [w64 (by omega) (by omega)]; first | done | omega))
  all_goals clear hC
  all_goals first
    | omega
    | rfl
    | exact types_fmt (by assumption)
    | exact types_fmt hi.2.1.1
    | exact hi.2.1.2
    | (rw [val_fmt (by assumption)]; done)
    | (rw [val_len (by assumption) (by assumption)]; done)
    | (rw [dec_badE hi.2.1.1 hi.2.1.2 hi.2.2 (by omega) (by assumption)]; first | done | rfl)
    | exact all_step hi.2.2 (by assumption)
    | (rw [dec_endE hi.2.1.1 hi.2.1.2 hi.2.2 (by omega)]; done)
end
noncomputable def cfg139 : Cfg := ⟨Tryz.prog, 14, tab157, (fun _ _ => []), [], (fun _ => none)⟩
theorem cfg139_l : cfg139.pins = [] ∧ cfg139.P = Tryz.prog ∧ cfg139.N = 14 ∧ cfg139.ti 157 = none ∧ cfg139.T 157 = e157 ∧ cfg139.mv 157 = (fun _ => []) := ⟨rfl, rfl, rfl, rfl, rfl, rfl⟩
section
attribute [local go_sem] cfg139_l e157
theorem con139 (hC : COk cfg139) (f : Fmt) (s : ByteArray) (hp : f.fields.length ≤ 1000000) : Sem Tryz.prog 139 [.d (encFmt f), .d (.s s)] (.d (.i .i64 (valuesC f s).2.2)) := by
  refine sem_of_awR (C := cfg139) (rs := [.tmp 4]) (fun _ => []) Tryz.func139 rfl rfl rfl rfl rfl rfl ?_
  refine inQ ?_
  repeat' first
    | (with_reducible first | refine thenS_n ?_ | refine inBlockS_n ?_ | refine AW.seq ?_ | refine AW.block ?_)
    | (with_reducible first | (refine AW.runK hC ?_; intro K hK) | (refine AW.drawK hC (by kernel_rfl) ?_; intro K hK))
    | ((with_reducible first | refine erun_g ?_ | refine edraw_g ?_ | refine exitS_g ?_); refine siQ ?_; (try simp (disch := omega) only [w64, wu8]))
    | (with_reducible refine hCheck_g (by kernel_rfl) ?_)
    | ((first | (refine AW.cond rfl (fun h => ?_) (fun h => ?_)) | (refine AW.cond_ub rfl (fun h => ?_) ?_) | (refine AW.cond_nb rfl ?_ (fun h => ?_))) <;> (try replace h := boolH h) <;> (try (exfalso; first | omega | exact absurd h (by decide))))
    | (with_reducible first | refine AW.skip ?_ | refine AW.exit ?_ | refine AW.ret ?_ | refine thenS_r ?_ | refine thenS_e ?_ | refine inBlockS_r ?_ | refine inBlockS_e ?_ | refine inBlockS_e2 rfl ?_ | refine exitQ_r ?_ | refine exitQ_n ?_)
    | (refine sub_auto ?_; refine subQ ?_)
    | (with_reducible refine And.intro ?_ ?_)
    | (subst hK)
    | exact trivial
  all_goals (try (intros; assumption))
  all_goals (try refine boolG ?_)
  all_goals (try replace hp := boolH hp)
  all_goals (try replace hi := boolH hi)
  all_goals (try replace hj := boolH hj)
  all_goals (try replace hk := boolH hk)
  all_goals (try (intros; trivial))
  all_goals (try (intros; omega))
  all_goals (try (rw [w64 (by omega) (by omega)]; first | done | omega))
end
end Go.Ev
