/- Tools and contracts under the laws of this seat: Dxc112 to Dxc110. -/
import Derived.Test.YtkgkgcojfocomaaE05
set_option linter.unusedVariables false
set_option linter.unusedSimpArgs false
namespace Go.Ev
open Go.Proofs Ty
set_option maxRecDepth 10000
set_option maxHeartbeats 4000000
set_option linter.unusedSimpArgs false
set_option linter.unusedVariables false
attribute [local go_sem] erun_nil erun_cons edraw_eq edrun_nil edrun_cons e1_n e1_g guardSlot_eq lkAll_tmp lkAll_nil lkAll_const lkAll_func val_tmp val_const val_func aget getBox_mk getRow_mk liveRow_mk hp_mk eU_move_n eU_assign_n eU_move eU_assign eU_pick eU_alloc eU_box eU_load eU_store eU_nilCheck eU_binOp eU_unOp eU_fieldAddr eU_field eU_indexAddr eU_index eU_build eU_buildSlice eU_slice eU_extract eU_makeFunc eU_builtin eU_call eU_callv V.cells V.one D.one D.cells newObj nm HS.isFree HS.isLive andOk_some andOk_none List.map_cons List.map_nil Option.bind_some Option.bind_none putL List.cons_append List.nil_append thenS_normal thenS_ret thenS_exit inBlockS_normal inBlockS_ret inBlockS_exit true_and and_true justV justO cval Option.map_some Option.map_none loadAt storeAt ldV ldD mkAgg V.asD spliceL List.take_succ_cons List.take_zero List.drop_succ_cons List.drop_zero List.getElem?_cons_zero List.getElem?_cons_succ List.getElem?_nil List.all_cons List.all_nil Bool.and_true Bool.true_and Bool.and_self List.length_cons List.length_nil vals aopCall argsO argO toD3 toD2 toD1 toDs O.ok O.ok2 O.ok1 O.flat O.flat1 D.flat D.flatA inO inO2 inO1 inOs List.filterMap_nil List.filterMap_cons List.filter_nil List.filter_cons List.nodup_nil decide_true decide_false Bool.not_true Bool.not_false not_true_eq_false not_false_eq_true or_false false_or and_false false_and ne_eq List.append_nil optB guardQ guardRes beq_self_eq_true List.mapM_cons List.mapM_nil Option.pure_def Option.bind_eq_bind true_or or_true or_self callHp ite_self not_true not_false_iff ite_true ite_false if_true if_false Bool.false_eq_true Bool.true_eq_false List.any_nil List.any_cons List.contains_nil List.contains_cons eq_self aopAppend builtinV elems aopBin nilEqS nilEqP aopSlice bound natOf lenOf binD intBin unD bindEq eU_makeMap eU_convert eU_makeSlice aopConv aopMake isShift shiftD eU_lookup eU_mapUpdate getMp_mk List.range_zero Nat.zero_le Nat.zero_mul Nat.zero_add Nat.add_zero List.length_append List.take_length List.isEmpty_nil List.isEmpty_cons V.neg List.flatMap_nil and_self List.range_succ forall_const implies_true Nat.not_lt_zero exitQ_normal exitQ_ret exitS_eq exitO resVs resV_tmp resV_cell takeRow argCells mvAt dle_same dles_same ole_same ole oles dle dles List.nodup_cons List.mem_cons List.not_mem_nil List.drop_length Nat.le_refl Nat.lt_irrefl id_eq Option.some.injEq Bool.or_false Bool.false_or Bool.or_self Bool.or_true Bool.true_or false_implies Bool.and_false Bool.false_and List.reverse_cons List.reverse_nil sh1 mget1 mget aopLookup aopMapUpdate mapOf msetK msetV Option.isSome_some Option.isSome_none Bool.cond_true_left Bool.cond_false_right Bool.cond_true_right Bool.cond_false_left beq_true beq_false Bool.not_not imp_self guardVal notB strBin aopSliceS buildV argOk D.splice kEq Option.toList_some Option.toList_none adel List.getD_cons_zero List.getD_cons_succ bxIds bxId backHp hget one1 aopCall0 aopTurn
noncomputable def cfg112 : Cfg := ⟨Try.prog, 15, tab113, (fun _ _ => []), [], (fun _ => none)⟩
theorem cfg112_pins : cfg112.pins = [] := rfl
theorem cfg112_P : cfg112.P = Try.prog := rfl
theorem cfg112_N : cfg112.N = 15 := rfl
section
attribute [local go_sem] cfg112_P cfg112_N cfg112_pins sz3 ag3 zr3 zo3 zd3 by3 sl3 st3 bo3 pt3 ck3 sz25 ag25 zr25 zo25 zd25 by25 sl25 st25 bo25 pt25 ck25 sz152 ag152 zr152 zo152 zd152 by152 el152 sl152 un152 st152 bo152 pt152
attribute [local go_sem] getDz_int List.length_map Int.toNat_natCast
theorem con112 (hC : COk cfg112) (l : List Int) (hp : l.length ≤ 1000000) : Sem Try.prog 112 [.d (.sl 1 (l.map (D.i .i64)))] (.d (.i .i64 (firstE l))) := by
  refine sem_of_awR (C := cfg112) (rs := [.tmp 2]) (fun _ => []) Try.func112 rfl rfl rfl rfl rfl rfl ?_
  simp only [enterSl, enterHp, inO, inO2, inO1, inOs, List.append_nil, List.nil_append, Nat.mul_zero, List.cons_append, Nat.zero_add, Nat.reduceAdd, Nat.reduceMul, List.length_map]
  repeat' first
    | (with_reducible first | refine thenS_n ?_ | refine inBlockS_n ?_ | refine AW.seq ?_ | refine AW.block ?_)
    | (with_reducible first | (refine AW.runK hC ?_; intro K hK) | (refine AW.drawK hC (by kernel_rfl) ?_; intro K hK))
    | ((with_reducible first | refine erun_g ?_ | refine edraw_g ?_ | refine exitS_g ?_); refine siQ ?_; (try simp (disch := omega) only [w64, wu8]))
    | (with_reducible refine hCheck_g (by kernel_rfl) ?_)
    | ((first | (refine AW.cond rfl (fun h => ?_) (fun h => ?_)) | (refine AW.cond_ub rfl (fun h => ?_) ?_) | (refine AW.cond_nb rfl ?_ (fun h => ?_))) <;> (try replace h := boolH h) <;> (try (exfalso; first | omega | exact absurd h (by decide))))
    | (with_reducible first | refine AW.skip ?_ | refine AW.exit ?_ | refine AW.ret ?_ | refine thenS_r ?_ | refine thenS_e ?_ | refine inBlockS_r ?_ | refine inBlockS_e ?_ | refine inBlockS_e2 rfl ?_ | refine exitQ_r ?_ | refine exitQ_n ?_)
    | (refine AW.loopN 2 rfl (ι := Nat) (fun i => mkS [(5, V.d (.sl 1 (l.map (D.i .i64)))), (6, V.d (.i .i64 (l.length : Int))), (7, V.d (.i .i64 (i : Int)))] ([])) (fun i => i ≤ l.length ∧ firstE (l.drop i) = firstE l) (fun i => l.length - i) (0) ?_ ?_ (fun i hi => ?_) <;> (try dsimp only) <;> (try dsimp only at hi))
    | (refine LoopNext.mk1 2 (i + 1) ?_ ?_ ?_ <;> (try dsimp only))
    | (refine sub_auto ?_; refine subQ ?_)
    | (with_reducible refine And.intro ?_ ?_)
    | (subst hK)
    | exact trivial
  all_goals (try (intros; assumption))
  all_goals (try simp only [Bool.or_eq_true, Bool.and_eq_true, Bool.or_eq_false_iff, Bool.and_eq_false_iff, Bool.not_eq_true', Bool.not_eq_false', Bool.not_eq_true, Bool.not_eq_false, decide_eq_true_eq, decide_eq_false_iff_not, beq_iff_eq, bne_iff_ne, beq_eq_false_iff_ne, bne_eq_false_iff_eq, ne_eq, Int.not_lt, Int.not_le, D.b.injEq, D.i.injEq, D.s.injEq, D.agg.injEq, D.sl.injEq, true_and, and_true, List.cons.injEq, gt_iff_lt, ge_iff_le,  Bool.cond_true_left, Bool.cond_false_right, Bool.cond_true_right, Bool.cond_false_left, seq_iff, seq_dec, dec_f, dec_t, eqB_t, eqB_f] at *)
  all_goals (try (intros; trivial))
  all_goals (try (intros; omega))
  all_goals (try (rw [w64 (by omega) (by omega)]; first | done | omega))
  all_goals first
    | rfl
    | (rw [firstE_yes hi.2 (by omega) (by assumption)]; done)
    | exact firstE_no hi.2 (by omega) (by assumption)
    | (rw [firstE_end hi.2 (by omega)]; done)
end
noncomputable def cfg92 : Cfg := ⟨Try.prog, 7, tab112, (fun _ _ => []), [], (fun _ => none)⟩
theorem cfg92_pins : cfg92.pins = [] := rfl
theorem cfg92_P : cfg92.P = Try.prog := rfl
theorem cfg92_N : cfg92.N = 7 := rfl
section
attribute [local go_sem] cfg92_P cfg92_N cfg92_pins
theorem con92 (hC : COk cfg92) (b : Bool) (e : Int) : Sem Try.prog 92 [.d (.b b), .d (.i .i64 e)] (.d (.i .i64 (if b = true then e else 0))) := by
  refine sem_of_awR (C := cfg92) (rs := [.tmp 4]) (fun _ => []) Try.func92 rfl rfl rfl rfl rfl rfl ?_
  simp only [enterSl, enterHp, inO, inO2, inO1, inOs, List.append_nil, List.nil_append, Nat.mul_zero, List.cons_append, Nat.zero_add, Nat.reduceAdd, Nat.reduceMul]
  repeat' first
    | (with_reducible first | refine thenS_n ?_ | refine inBlockS_n ?_ | refine AW.seq ?_ | refine AW.block ?_)
    | (with_reducible first | (refine AW.runK hC ?_; intro K hK) | (refine AW.drawK hC (by kernel_rfl) ?_; intro K hK))
    | ((with_reducible first | refine erun_g ?_ | refine edraw_g ?_ | refine exitS_g ?_); refine siQ ?_; (try simp (disch := omega) only [w64, wu8]))
    | (with_reducible refine hCheck_g (by kernel_rfl) ?_)
    | ((first | (refine AW.cond rfl (fun h => ?_) (fun h => ?_)) | (refine AW.cond_ub rfl (fun h => ?_) ?_) | (refine AW.cond_nb rfl ?_ (fun h => ?_))) <;> (try replace h := boolH h) <;> (try (exfalso; first | omega | exact absurd h (by decide))))
    | (with_reducible first | refine AW.skip ?_ | refine AW.exit ?_ | refine AW.ret ?_ | refine thenS_r ?_ | refine thenS_e ?_ | refine inBlockS_r ?_ | refine inBlockS_e ?_ | refine inBlockS_e2 rfl ?_ | refine exitQ_r ?_ | refine exitQ_n ?_)
    | (refine sub_auto ?_; refine subQ ?_)
    | (with_reducible refine And.intro ?_ ?_)
    | (subst hK)
    | exact trivial
  all_goals (try (intros; assumption))
  all_goals (try simp only [Bool.or_eq_true, Bool.and_eq_true, Bool.or_eq_false_iff, Bool.and_eq_false_iff, Bool.not_eq_true', Bool.not_eq_false', Bool.not_eq_true, Bool.not_eq_false, decide_eq_true_eq, decide_eq_false_iff_not, beq_iff_eq, bne_iff_ne, beq_eq_false_iff_ne, bne_eq_false_iff_eq, ne_eq, Int.not_lt, Int.not_le, D.b.injEq, D.i.injEq, D.s.injEq, D.agg.injEq, D.sl.injEq, true_and, and_true, List.cons.injEq, gt_iff_lt, ge_iff_le,  Bool.cond_true_left, Bool.cond_false_right, Bool.cond_true_right, Bool.cond_false_left, seq_iff, seq_dec, dec_f, dec_t, eqB_t, eqB_f] at *)
  all_goals (try (intros; trivial))
  all_goals (try (intros; omega))
  all_goals (try (rw [w64 (by omega) (by omega)]; first | done | omega))
  all_goals simp [*]
end
noncomputable def cfg90 : Cfg := ⟨Try.prog, 15, tab92, (fun _ _ => []), [], (fun _ => none)⟩
theorem cfg90_pins : cfg90.pins = [] := rfl
theorem cfg90_P : cfg90.P = Try.prog := rfl
theorem cfg90_N : cfg90.N = 15 := rfl
section
attribute [local go_sem] cfg90_P cfg90_N cfg90_pins sz3 ag3 zr3 zo3 zd3 by3 sl3 st3 bo3 pt3 ck3 sz25 ag25 zr25 zo25 zd25 by25 sl25 st25 bo25 pt25 ck25 sz152 ag152 zr152 zo152 zd152 by152 el152 sl152 un152 st152 bo152 pt152
attribute [local go_sem] getDz_int List.length_map Int.toNat_natCast
theorem con90 (hC : COk cfg90) (l : List Int) (hp : l.length ≤ 1000000) : Sem Try.prog 90 [.d (.sl 1 (l.map (D.i .i64)))] (.d (.i .i64 (firstE l))) := by
  refine sem_of_awR (C := cfg90) (rs := [.tmp 2]) (fun _ => []) Try.func90 rfl rfl rfl rfl rfl rfl ?_
  simp only [enterSl, enterHp, inO, inO2, inO1, inOs, List.append_nil, List.nil_append, Nat.mul_zero, List.cons_append, Nat.zero_add, Nat.reduceAdd, Nat.reduceMul, List.length_map]
  repeat' first
    | (with_reducible first | refine thenS_n ?_ | refine inBlockS_n ?_ | refine AW.seq ?_ | refine AW.block ?_)
    | (with_reducible first | (refine AW.runK hC ?_; intro K hK) | (refine AW.drawK hC (by kernel_rfl) ?_; intro K hK))
    | ((with_reducible first | refine erun_g ?_ | refine edraw_g ?_ | refine exitS_g ?_); refine siQ ?_; (try simp (disch := omega) only [w64, wu8]))
    | (with_reducible refine hCheck_g (by kernel_rfl) ?_)
    | ((first | (refine AW.cond rfl (fun h => ?_) (fun h => ?_)) | (refine AW.cond_ub rfl (fun h => ?_) ?_) | (refine AW.cond_nb rfl ?_ (fun h => ?_))) <;> (try replace h := boolH h) <;> (try (exfalso; first | omega | exact absurd h (by decide))))
    | (with_reducible first | refine AW.skip ?_ | refine AW.exit ?_ | refine AW.ret ?_ | refine thenS_r ?_ | refine thenS_e ?_ | refine inBlockS_r ?_ | refine inBlockS_e ?_ | refine inBlockS_e2 rfl ?_ | refine exitQ_r ?_ | refine exitQ_n ?_)
    | (refine AW.loopN 2 rfl (ι := Nat) (fun i => mkS [(5, V.d (.sl 1 (l.map (D.i .i64)))), (6, V.d (.i .i64 (l.length : Int))), (7, V.d (.i .i64 (i : Int)))] ([])) (fun i => i ≤ l.length ∧ firstE (l.drop i) = firstE l) (fun i => l.length - i) (0) ?_ ?_ (fun i hi => ?_) <;> (try dsimp only) <;> (try dsimp only at hi))
    | (refine LoopNext.mk1 2 (i + 1) ?_ ?_ ?_ <;> (try dsimp only))
    | (refine sub_auto ?_; refine subQ ?_)
    | (with_reducible refine And.intro ?_ ?_)
    | (subst hK)
    | exact trivial
  all_goals (try (intros; assumption))
  all_goals (try simp only [Bool.or_eq_true, Bool.and_eq_true, Bool.or_eq_false_iff, Bool.and_eq_false_iff, Bool.not_eq_true', Bool.not_eq_false', Bool.not_eq_true, Bool.not_eq_false, decide_eq_true_eq, decide_eq_false_iff_not, beq_iff_eq, bne_iff_ne, beq_eq_false_iff_ne, bne_eq_false_iff_eq, ne_eq, Int.not_lt, Int.not_le, D.b.injEq, D.i.injEq, D.s.injEq, D.agg.injEq, D.sl.injEq, true_and, and_true, List.cons.injEq, gt_iff_lt, ge_iff_le,  Bool.cond_true_left, Bool.cond_false_right, Bool.cond_true_right, Bool.cond_false_left, seq_iff, seq_dec, dec_f, dec_t, eqB_t, eqB_f] at *)
  all_goals (try (intros; trivial))
  all_goals (try (intros; omega))
  all_goals (try (rw [w64 (by omega) (by omega)]; first | done | omega))
  all_goals first
    | rfl
    | (rw [firstE_yes hi.2 (by omega) (by assumption)]; done)
    | exact firstE_no hi.2 (by omega) (by assumption)
    | (rw [firstE_end hi.2 (by omega)]; done)
end
noncomputable def cfg100 : Cfg := ⟨Try.prog, 65, tab90, (fun _ _ => []), [], (fun _ => none)⟩
theorem cfg100_pins : cfg100.pins = [] := rfl
theorem cfg100_P : cfg100.P = Try.prog := rfl
theorem cfg100_N : cfg100.N = 65 := rfl
section
attribute [local go_sem] cfg100_P cfg100_N cfg100_pins sz3 ag3 zr3 zo3 zd3 by3 sl3 st3 bo3 pt3 ck3 sz4 ag4 zr4 zo4 zd4 by4 sl4 st4 bo4 pt4 sz5 ag5 zr5 zo5 zd5 by5 sl5 st5 bo5 pt5 ck5 sz9 ag9 zr9 zo9 zd9 by9 sl9 un9 st9 bo9 pt9 ck9 sz162 ag162 zr162 zo162 zd162 by162 el162 sl162 un162 st162 bo162 pt162 ck162
attribute [local go_sem] Int.toNat_natCast chr_eq bytesD_len bytesD_get
theorem con100 (hC : COk cfg100) (s : ByteArray) : Sem Try.prog 100 [.d (.s s)] (.d (.b (isName s))) := by
  refine sem_of_awR (C := cfg100) (rs := [.tmp 2]) (fun _ => []) Try.func100 rfl rfl rfl rfl rfl rfl ?_
  simp only [enterSl, enterHp, inO, inO2, inO1, inOs, List.append_nil, List.nil_append, Nat.mul_zero, List.cons_append, Nat.zero_add, Nat.reduceAdd, Nat.reduceMul]
  repeat' first
    | (with_reducible first | refine thenS_n ?_ | refine inBlockS_n ?_ | refine AW.seq ?_ | refine AW.block ?_)
    | (with_reducible first | (refine AW.runK hC ?_; intro K hK) | (refine AW.drawK hC (by kernel_rfl) ?_; intro K hK))
    | ((with_reducible first | refine erun_g ?_ | refine edraw_g ?_ | refine exitS_g ?_); refine siQ ?_; (try simp (disch := omega) only [w64, wu8]))
    | (with_reducible refine hCheck_g (by kernel_rfl) ?_)
    | ((first | (refine AW.cond rfl (fun h => ?_) (fun h => ?_)) | (refine AW.cond_ub rfl (fun h => ?_) ?_) | (refine AW.cond_nb rfl ?_ (fun h => ?_))) <;> (try replace h := boolH h) <;> (try (exfalso; first | omega | exact absurd h (by decide))))
    | (with_reducible first | refine AW.skip ?_ | refine AW.exit ?_ | refine AW.ret ?_ | refine thenS_r ?_ | refine thenS_e ?_ | refine inBlockS_r ?_ | refine inBlockS_e ?_ | refine inBlockS_e2 rfl ?_ | refine exitQ_r ?_ | refine exitQ_n ?_)
    | (refine AW.loopN 4 rfl (ι := Nat) (fun i => mkS [(15, V.d (.sl 1 (bytesD s))), (16, V.d (.i .i64 (s.size : Int))), (17, V.d (.i .i64 (i : Int)))] ([])) (fun i => i ≤ s.size ∧ 1 ≤ s.size ∧ s.size ≤ 10 ∧ ∀ j, j < i → nameC (j == 0) (chr s j) = true) (fun i => s.size - i) (0) ?_ ?_ (fun i hi => ?_) <;> (try dsimp only) <;> (try dsimp only at hi))
    | (refine LoopNext.mk1 4 (i + 1) ?_ ?_ ?_ <;> (try dsimp only))
    | (refine sub_auto ?_; refine subQ ?_)
    | (with_reducible refine And.intro ?_ ?_)
    | (subst hK)
    | exact trivial
  all_goals (try (intros; assumption))
  all_goals (try simp only [Bool.or_eq_true, Bool.and_eq_true, Bool.or_eq_false_iff, Bool.and_eq_false_iff, Bool.not_eq_true', Bool.not_eq_false', Bool.not_eq_true, Bool.not_eq_false, decide_eq_true_eq, decide_eq_false_iff_not, beq_iff_eq, bne_iff_ne, beq_eq_false_iff_ne, bne_eq_false_iff_eq, ne_eq, Int.not_lt, Int.not_le, D.b.injEq, D.i.injEq, D.s.injEq, D.agg.injEq, D.sl.injEq, true_and, and_true, List.cons.injEq, gt_iff_lt, ge_iff_le,  Bool.cond_true_left, Bool.cond_false_right, Bool.cond_true_right, Bool.cond_false_left, seq_iff, seq_dec, dec_f, dec_t, eqB_t, eqB_f] at *)
  all_goals (try (intros; trivial))
  all_goals (try (intros; omega))
  all_goals (try (rw [w64 (by omega) (by omega)]; first | done | omega))
  all_goals (try simp only [ba_empty] at *)
  all_goals first
    | omega
    | exact isName_len (by omega)
    | exact isName_no (i := i) (by omega) (by rw [← Bool.not_eq_true, nameC_iff]; omega)
    | exact fun j hj => if e : j < i then hi.2.2.2 j e else by
        have : j = i := by omega
        subst this
        rw [nameC_iff]
        omega
    | exact isName_yes (by omega) (by omega) fun j hj => hi.2.2.2 j (by omega)
end
noncomputable def cfg108 : Cfg := ⟨Try.prog, 54, tab100, (fun _ _ => []), [], (fun _ => none)⟩
theorem cfg108_ti111 : cfg108.ti 111 = none := rfl
theorem cfg108_ti112 : cfg108.ti 112 = none := rfl
theorem cfg108_ti113 : cfg108.ti 113 = none := rfl
theorem cfg108_pins : cfg108.pins = [] := rfl
theorem cfg108_P : cfg108.P = Try.prog := rfl
theorem cfg108_N : cfg108.N = 54 := rfl
theorem cfg108_T111 : cfg108.T 111 = e111 := rfl
theorem cfg108_mv111 : cfg108.mv 111 = (fun _ => []) := rfl
theorem cfg108_T112 : cfg108.T 112 = e112 := rfl
theorem cfg108_mv112 : cfg108.mv 112 = (fun _ => []) := rfl
theorem cfg108_T113 : cfg108.T 113 = e113 := rfl
theorem cfg108_mv113 : cfg108.mv 113 = (fun _ => []) := rfl
section
attribute [local go_sem] cfg108_P cfg108_N cfg108_pins cfg108_ti111 cfg108_ti112 cfg108_ti113 cfg108_T111 e111 cfg108_mv111 cfg108_T112 e112 cfg108_mv112 cfg108_T113 e113 cfg108_mv113 sz3 ag3 zr3 zo3 zd3 by3 sl3 st3 bo3 pt3 ck3 sz4 ag4 zr4 zo4 zd4 by4 sl4 st4 bo4 pt4 sz25 ag25 zr25 zo25 zd25 by25 sl25 st25 bo25 pt25 ck25 sz103 ag103 zr103 zd103 by103 sl103 st103 bo103 pt103 of103_0 fa103_0 of103_1 fa103_1 of103_2 fa103_2 pl103 ek103 sz152 ag152 zr152 zo152 zd152 by152 el152 sl152 un152 st152 bo152 pt152
attribute [local go_sem] encDType decDType etaDType zfDType encVal decVal etaVal zfVal firstE Int.toNat_natCast chr_eq dL_int dM_int getDz_int decL_sl decM_cons decM_nil decI List.length_map nc0 bytesD_len bytesD_get
theorem con108 (hC : COk cfg108) (t : DType) : Sem Try.prog 108 [.d (encDType t)] (.d (.i .i64 (typeErr t))) := by
  refine sem_of_awR (C := cfg108) (rs := [.tmp 2]) (fun _ => []) Try.func108 rfl rfl rfl rfl rfl rfl ?_
  simp only [enterSl, enterHp, inO, inO2, inO1, inOs, List.append_nil, List.nil_append, Nat.mul_zero, List.cons_append, Nat.zero_add, Nat.reduceAdd, Nat.reduceMul, encDType, encVal, List.length_map]
  repeat' first
    | (with_reducible first | refine thenS_n ?_ | refine inBlockS_n ?_ | refine AW.seq ?_ | refine AW.block ?_)
    | (with_reducible first | (refine AW.runK hC ?_; intro K hK) | (refine AW.drawK hC (by kernel_rfl) ?_; intro K hK))
    | ((with_reducible first | refine erun_g ?_ | refine edraw_g ?_ | refine exitS_g ?_); refine siQ ?_; (try simp (disch := omega) only [w64, wu8]))
    | (with_reducible refine hCheck_g (by kernel_rfl) ?_)
    | ((first | (refine AW.cond rfl (fun h => ?_) (fun h => ?_)) | (refine AW.cond_ub rfl (fun h => ?_) ?_) | (refine AW.cond_nb rfl ?_ (fun h => ?_))) <;> (try replace h := boolH h) <;> (try (exfalso; first | omega | exact absurd h (by decide))))
    | (with_reducible first | refine AW.skip ?_ | refine AW.exit ?_ | refine AW.ret ?_ | refine thenS_r ?_ | refine thenS_e ?_ | refine inBlockS_r ?_ | refine inBlockS_e ?_ | refine inBlockS_e2 rfl ?_ | refine exitQ_r ?_ | refine exitQ_n ?_)
    | (refine sub_auto ?_; refine subQ ?_)
    | (with_reducible refine And.intro ?_ ?_)
    | (subst hK)
    | exact trivial
  all_goals (try (intros; assumption))
  all_goals (try simp only [Bool.or_eq_true, Bool.and_eq_true, Bool.or_eq_false_iff, Bool.and_eq_false_iff, Bool.not_eq_true', Bool.not_eq_false', Bool.not_eq_true, Bool.not_eq_false, decide_eq_true_eq, decide_eq_false_iff_not, beq_iff_eq, bne_iff_ne, beq_eq_false_iff_ne, bne_eq_false_iff_eq, ne_eq, Int.not_lt, Int.not_le, D.b.injEq, D.i.injEq, D.s.injEq, D.agg.injEq, D.sl.injEq, true_and, and_true, List.cons.injEq, gt_iff_lt, ge_iff_le,  Bool.cond_true_left, Bool.cond_false_right, Bool.cond_true_right, Bool.cond_false_left, seq_iff, seq_dec, dec_f, dec_t, eqB_t, eqB_f] at *)
  all_goals (try (intros; trivial))
  all_goals (try (intros; omega))
  all_goals (try (rw [w64 (by omega) (by omega)]; first | done | omega))
  all_goals clear hC
  all_goals (try simp only [typeErr])
  all_goals first
    | grind
    | ((repeat' split) <;> first | rfl | omega | (exfalso; omega) | (simp_all; done) | grind)
    | (intro d hd; first | (subst hd; exact ⟨rfl, by simp [D.cells, D.one]⟩) | (rcases hd with rfl | rfl <;> exact ⟨rfl, by simp [D.cells, D.one]⟩) | (rcases hd with rfl | rfl | rfl <;> exact ⟨rfl, by simp [D.cells, D.one]⟩) | (rcases hd with rfl | rfl | rfl | rfl <;> exact ⟨rfl, by simp [D.cells, D.one]⟩))
end
noncomputable def cfg114 : Cfg := ⟨Try.prog, 22, tab108, (fun _ _ => []), [], (fun _ => none)⟩
theorem cfg114_pins : cfg114.pins = [] := rfl
theorem cfg114_P : cfg114.P = Try.prog := rfl
theorem cfg114_N : cfg114.N = 22 := rfl
section
attribute [local go_sem] cfg114_P cfg114_N cfg114_pins sz3 ag3 zr3 zo3 zd3 by3 sl3 st3 bo3 pt3 ck3 sz103 ag103 zr103 zd103 by103 sl103 st103 bo103 pt103 of103_0 fa103_0 of103_1 fa103_1 of103_2 fa103_2 pl103 ek103
attribute [local go_sem] encDType decDType etaDType zfDType encVal decVal etaVal zfVal firstE Int.toNat_natCast chr_eq dL_int dM_int getDz_int decL_sl decM_cons decM_nil decI List.length_map nc0 bytesD_len bytesD_get
theorem con114 (hC : COk cfg114) (t : DType) (hp : typeErr t = 0) : Sem Try.prog 114 [.d (encDType t)] (.d (.i .i64 (sizeN t))) := by
  have ht := typeErr_ok hp
  refine sem_of_awR (C := cfg114) (rs := [.tmp 2]) (fun _ => []) Try.func114 rfl rfl rfl rfl rfl rfl ?_
  simp only [enterSl, enterHp, inO, inO2, inO1, inOs, List.append_nil, List.nil_append, Nat.mul_zero, List.cons_append, Nat.zero_add, Nat.reduceAdd, Nat.reduceMul, encDType, encVal, List.length_map]
  repeat' first
    | (with_reducible first | refine thenS_n ?_ | refine inBlockS_n ?_ | refine AW.seq ?_ | refine AW.block ?_)
    | (with_reducible first | (refine AW.runK hC ?_; intro K hK) | (refine AW.drawK hC (by kernel_rfl) ?_; intro K hK))
    | ((with_reducible first | refine erun_g ?_ | refine edraw_g ?_ | refine exitS_g ?_); refine siQ ?_; (try simp (disch := omega) only [w64, wu8]))
    | (with_reducible refine hCheck_g (by kernel_rfl) ?_)
    | ((first | (refine AW.cond rfl (fun h => ?_) (fun h => ?_)) | (refine AW.cond_ub rfl (fun h => ?_) ?_) | (refine AW.cond_nb rfl ?_ (fun h => ?_))) <;> (try replace h := boolH h) <;> (try (exfalso; first | omega | exact absurd h (by decide))))
    | (with_reducible first | refine AW.skip ?_ | refine AW.exit ?_ | refine AW.ret ?_ | refine thenS_r ?_ | refine thenS_e ?_ | refine inBlockS_r ?_ | refine inBlockS_e ?_ | refine inBlockS_e2 rfl ?_ | refine exitQ_r ?_ | refine exitQ_n ?_)
    | (refine sub_auto ?_; refine subQ ?_)
    | (with_reducible refine And.intro ?_ ?_)
    | (subst hK)
    | exact trivial
  all_goals (try (intros; assumption))
  all_goals (try simp only [Bool.or_eq_true, Bool.and_eq_true, Bool.or_eq_false_iff, Bool.and_eq_false_iff, Bool.not_eq_true', Bool.not_eq_false', Bool.not_eq_true, Bool.not_eq_false, decide_eq_true_eq, decide_eq_false_iff_not, beq_iff_eq, bne_iff_ne, beq_eq_false_iff_ne, bne_eq_false_iff_eq, ne_eq, Int.not_lt, Int.not_le, D.b.injEq, D.i.injEq, D.s.injEq, D.agg.injEq, D.sl.injEq, true_and, and_true, List.cons.injEq, gt_iff_lt, ge_iff_le,  Bool.cond_true_left, Bool.cond_false_right, Bool.cond_true_right, Bool.cond_false_left, seq_iff, seq_dec, dec_f, dec_t, eqB_t, eqB_f] at *)
  all_goals (try (intros; trivial))
  all_goals (try (intros; omega))
  all_goals (try (rw [w64 (by omega) (by omega)]; first | done | omega))
  all_goals clear hC
  all_goals (try simp only [sizeN])
  all_goals first
    | omega
    | (rw [size_packed (by omega) (by omega), if_pos (by omega)]; done)
    | (rw [size_binary (by omega) (by omega), if_neg (by omega), if_pos (by omega)]; done)
    | grind
    | (intro d hd; first | (subst hd; exact ⟨rfl, by simp [D.cells, D.one]⟩) | (rcases hd with rfl | rfl <;> exact ⟨rfl, by simp [D.cells, D.one]⟩) | (rcases hd with rfl | rfl | rfl <;> exact ⟨rfl, by simp [D.cells, D.one]⟩) | (rcases hd with rfl | rfl | rfl | rfl <;> exact ⟨rfl, by simp [D.cells, D.one]⟩))
end
noncomputable def cfg109 : Cfg := ⟨Try.prog, 12, tab114, (fun _ _ => []), [], (fun _ => none)⟩
theorem cfg109_ti108 : cfg109.ti 108 = none := rfl
theorem cfg109_ti114 : cfg109.ti 114 = none := rfl
theorem cfg109_pins : cfg109.pins = [] := rfl
theorem cfg109_P : cfg109.P = Try.prog := rfl
theorem cfg109_N : cfg109.N = 12 := rfl
theorem cfg109_T108 : cfg109.T 108 = e108 := rfl
theorem cfg109_mv108 : cfg109.mv 108 = (fun _ => []) := rfl
theorem cfg109_T114 : cfg109.T 114 = e114 := rfl
theorem cfg109_mv114 : cfg109.mv 114 = (fun _ => []) := rfl
section
attribute [local go_sem] cfg109_P cfg109_N cfg109_pins cfg109_ti108 cfg109_ti114 cfg109_T108 e108 cfg109_mv108 cfg109_T114 e114 cfg109_mv114 sz3 ag3 zr3 zo3 zd3 by3 sl3 st3 bo3 pt3 ck3 sz25 ag25 zr25 zo25 zd25 by25 sl25 st25 bo25 pt25 ck25 sz103 ag103 zr103 zd103 by103 sl103 st103 bo103 pt103 of103_0 fa103_0 of103_1 fa103_1 of103_2 fa103_2 pl103 ek103
attribute [local go_sem] encDType decDType etaDType zfDType encVal decVal etaVal zfVal firstE Int.toNat_natCast chr_eq dL_int dM_int getDz_int decL_sl decM_cons decM_nil decI List.length_map nc0 bytesD_len bytesD_get
theorem con109 (hC : COk cfg109) (t : DType) : Sem Try.prog 109 [.d (encDType t)] (.tup [.d (.i .i64 (if typeErr t = 0 then sizeN t else 0)), .d (.i .i64 (typeErr t))]) := by
  refine sem_of_awR (C := cfg109) (rs := [.tmp 2, .tmp 3]) (fun _ => []) Try.func109 rfl rfl rfl rfl rfl rfl ?_
  simp only [enterSl, enterHp, inO, inO2, inO1, inOs, List.append_nil, List.nil_append, Nat.mul_zero, List.cons_append, Nat.zero_add, Nat.reduceAdd, Nat.reduceMul, encDType, encVal, List.length_map]
  repeat' first
    | (with_reducible first | refine thenS_n ?_ | refine inBlockS_n ?_ | refine AW.seq ?_ | refine AW.block ?_)
    | (with_reducible first | (refine AW.runK hC ?_; intro K hK) | (refine AW.drawK hC (by kernel_rfl) ?_; intro K hK))
    | ((with_reducible first | refine erun_g ?_ | refine edraw_g ?_ | refine exitS_g ?_); refine siQ ?_; (try simp (disch := omega) only [w64, wu8]))
    | (with_reducible refine hCheck_g (by kernel_rfl) ?_)
    | ((first | (refine AW.cond rfl (fun h => ?_) (fun h => ?_)) | (refine AW.cond_ub rfl (fun h => ?_) ?_) | (refine AW.cond_nb rfl ?_ (fun h => ?_))) <;> (try replace h := boolH h) <;> (try (exfalso; first | omega | exact absurd h (by decide))))
    | (with_reducible first | refine AW.skip ?_ | refine AW.exit ?_ | refine AW.ret ?_ | refine thenS_r ?_ | refine thenS_e ?_ | refine inBlockS_r ?_ | refine inBlockS_e ?_ | refine inBlockS_e2 rfl ?_ | refine exitQ_r ?_ | refine exitQ_n ?_)
    | (refine sub_auto ?_; refine subQ ?_)
    | (with_reducible refine And.intro ?_ ?_)
    | (subst hK)
    | exact trivial
  all_goals (try (intros; assumption))
  all_goals (try simp only [Bool.or_eq_true, Bool.and_eq_true, Bool.or_eq_false_iff, Bool.and_eq_false_iff, Bool.not_eq_true', Bool.not_eq_false', Bool.not_eq_true, Bool.not_eq_false, decide_eq_true_eq, decide_eq_false_iff_not, beq_iff_eq, bne_iff_ne, beq_eq_false_iff_ne, bne_eq_false_iff_eq, ne_eq, Int.not_lt, Int.not_le, D.b.injEq, D.i.injEq, D.s.injEq, D.agg.injEq, D.sl.injEq, true_and, and_true, List.cons.injEq, gt_iff_lt, ge_iff_le,  Bool.cond_true_left, Bool.cond_false_right, Bool.cond_true_right, Bool.cond_false_left, seq_iff, seq_dec, dec_f, dec_t, eqB_t, eqB_f] at *)
  all_goals (try (intros; trivial))
  all_goals (try (intros; omega))
  all_goals (try (rw [w64 (by omega) (by omega)]; first | done | omega))
  all_goals clear hC
  all_goals first
    | omega
    | grind
    | (intro d hd; first | (subst hd; exact ⟨rfl, by simp [D.cells, D.one]⟩) | (rcases hd with rfl | rfl <;> exact ⟨rfl, by simp [D.cells, D.one]⟩) | (rcases hd with rfl | rfl | rfl <;> exact ⟨rfl, by simp [D.cells, D.one]⟩) | (rcases hd with rfl | rfl | rfl | rfl <;> exact ⟨rfl, by simp [D.cells, D.one]⟩))
end
noncomputable def cfg118 : Cfg := ⟨Try.prog, 12, tab109, (fun _ _ => []), [], (fun _ => none)⟩
theorem cfg118_pins : cfg118.pins = [] := rfl
theorem cfg118_P : cfg118.P = Try.prog := rfl
theorem cfg118_N : cfg118.N = 12 := rfl
section
attribute [local go_sem] cfg118_P cfg118_N cfg118_pins sz3 ag3 zr3 zo3 zd3 by3 sl3 st3 bo3 pt3 ck3
attribute [local go_sem] encDType decDType etaDType zfDType encVal decVal etaVal zfVal firstE Int.toNat_natCast chr_eq dL_int dM_int getDz_int decL_sl decM_cons decM_nil decI List.length_map nc0 bytesD_len bytesD_get
theorem con118 (hC : COk cfg118) (n : Int) : Sem Try.prog 118 [.d (.i .i64 n)] (.d (.i .i64 (p10 n))) := by
  refine sem_of_awR (C := cfg118) (rs := [.tmp 2]) (fun _ => []) Try.func118 rfl rfl rfl rfl rfl rfl ?_
  simp only [enterSl, enterHp, inO, inO2, inO1, inOs, List.append_nil, List.nil_append, Nat.mul_zero, List.cons_append, Nat.zero_add, Nat.reduceAdd, Nat.reduceMul, encDType, encVal, List.length_map]
  repeat' first
    | (with_reducible first | refine thenS_n ?_ | refine inBlockS_n ?_ | refine AW.seq ?_ | refine AW.block ?_)
    | (with_reducible first | (refine AW.runK hC ?_; intro K hK) | (refine AW.drawK hC (by kernel_rfl) ?_; intro K hK))
    | ((with_reducible first | refine erun_g ?_ | refine edraw_g ?_ | refine exitS_g ?_); refine siQ ?_; (try simp (disch := omega) only [w64, wu8]))
    | (with_reducible refine hCheck_g (by kernel_rfl) ?_)
    | ((first | (refine AW.cond rfl (fun h => ?_) (fun h => ?_)) | (refine AW.cond_ub rfl (fun h => ?_) ?_) | (refine AW.cond_nb rfl ?_ (fun h => ?_))) <;> (try replace h := boolH h) <;> (try (exfalso; first | omega | exact absurd h (by decide))))
    | (with_reducible first | refine AW.skip ?_ | refine AW.exit ?_ | refine AW.ret ?_ | refine thenS_r ?_ | refine thenS_e ?_ | refine inBlockS_r ?_ | refine inBlockS_e ?_ | refine inBlockS_e2 rfl ?_ | refine exitQ_r ?_ | refine exitQ_n ?_)
    | (refine AW.loopN 3 rfl (ι := Nat) (fun i => mkS [(3, V.d (.i .i64 (10 ^ i : Int))), (5, V.d (.i .i64 (min n 18))), (6, V.d (.i .i64 (i : Int)))] ([])) (fun i => (i : Int) ≤ max 0 (min n 18)) (fun i => (min n 18).toNat - i) (0) ?_ ?_ (fun i hi => ?_) <;> (try dsimp only) <;> (try dsimp only at hi))
    | (refine LoopNext.mk1 3 (i + 1) ?_ ?_ ?_ <;> (try dsimp only))
    | (refine sub_auto ?_; refine subQ ?_)
    | (with_reducible refine And.intro ?_ ?_)
    | (subst hK)
    | exact trivial
  all_goals (try (intros; assumption))
  all_goals (try simp only [Bool.or_eq_true, Bool.and_eq_true, Bool.or_eq_false_iff, Bool.and_eq_false_iff, Bool.not_eq_true', Bool.not_eq_false', Bool.not_eq_true, Bool.not_eq_false, decide_eq_true_eq, decide_eq_false_iff_not, beq_iff_eq, bne_iff_ne, beq_eq_false_iff_ne, bne_eq_false_iff_eq, ne_eq, Int.not_lt, Int.not_le, D.b.injEq, D.i.injEq, D.s.injEq, D.agg.injEq, D.sl.injEq, true_and, and_true, List.cons.injEq, gt_iff_lt, ge_iff_le,  Bool.cond_true_left, Bool.cond_false_right, Bool.cond_true_right, Bool.cond_false_left, seq_iff, seq_dec, dec_f, dec_t, eqB_t, eqB_f] at *)
  all_goals (try (intros; trivial))
  all_goals (try (intros; omega))
  all_goals (try (rw [w64 (by omega) (by omega)]; first | done | omega))
  all_goals clear hC
  all_goals first
    | omega
    | exact p10_step (by omega)
    | exact p10_end hi h
    | (intro d hd; first | (subst hd; exact ⟨rfl, by simp [D.cells, D.one]⟩) | (rcases hd with rfl | rfl <;> exact ⟨rfl, by simp [D.cells, D.one]⟩) | (rcases hd with rfl | rfl | rfl <;> exact ⟨rfl, by simp [D.cells, D.one]⟩) | (rcases hd with rfl | rfl | rfl | rfl <;> exact ⟨rfl, by simp [D.cells, D.one]⟩))
end
noncomputable def cfg116 : Cfg := ⟨Try.prog, 52, tab118, (fun _ _ => []), [], (fun _ => none)⟩
theorem cfg116_ti108 : cfg116.ti 108 = none := rfl
theorem cfg116_ti111 : cfg116.ti 111 = none := rfl
theorem cfg116_ti112 : cfg116.ti 112 = none := rfl
theorem cfg116_ti113 : cfg116.ti 113 = none := rfl
theorem cfg116_ti118 : cfg116.ti 118 = none := rfl
theorem cfg116_pins : cfg116.pins = [] := rfl
theorem cfg116_P : cfg116.P = Try.prog := rfl
theorem cfg116_N : cfg116.N = 52 := rfl
theorem cfg116_T108 : cfg116.T 108 = e108 := rfl
theorem cfg116_mv108 : cfg116.mv 108 = (fun _ => []) := rfl
theorem cfg116_T111 : cfg116.T 111 = e111 := rfl
theorem cfg116_mv111 : cfg116.mv 111 = (fun _ => []) := rfl
theorem cfg116_T112 : cfg116.T 112 = e112 := rfl
theorem cfg116_mv112 : cfg116.mv 112 = (fun _ => []) := rfl
theorem cfg116_T113 : cfg116.T 113 = e113 := rfl
theorem cfg116_mv113 : cfg116.mv 113 = (fun _ => []) := rfl
theorem cfg116_T118 : cfg116.T 118 = e118 := rfl
theorem cfg116_mv118 : cfg116.mv 118 = (fun _ => []) := rfl
section
attribute [local go_sem] cfg116_P cfg116_N cfg116_pins cfg116_ti108 cfg116_ti111 cfg116_ti112 cfg116_ti113 cfg116_ti118 cfg116_T108 e108 cfg116_mv108 cfg116_T111 e111 cfg116_mv111 cfg116_T112 e112 cfg116_mv112 cfg116_T113 e113 cfg116_mv113 cfg116_T118 e118 cfg116_mv118 sz3 ag3 zr3 zo3 zd3 by3 sl3 st3 bo3 pt3 ck3 sz4 ag4 zr4 zo4 zd4 by4 sl4 st4 bo4 pt4 sz9 ag9 zr9 zo9 zd9 by9 sl9 un9 st9 bo9 pt9 ck9 sz25 ag25 zr25 zo25 zd25 by25 sl25 st25 bo25 pt25 ck25 sz103 ag103 zr103 zd103 by103 sl103 st103 bo103 pt103 of103_0 fa103_0 of103_1 fa103_1 of103_2 fa103_2 pl103 ek103 sz152 ag152 zr152 zo152 zd152 by152 el152 sl152 un152 st152 bo152 pt152 sz169 ag169 zr169 zd169 by169 sl169 st169 bo169 pt169 of169_0 fa169_0 of169_1 fa169_1 pl169 ek169
attribute [local go_sem] encDType decDType etaDType zfDType encVal decVal etaVal zfVal firstE Int.toNat_natCast chr_eq dL_int dM_int getDz_int decL_sl decM_cons decM_nil decI List.length_map nc0 bytesD_len bytesD_get
theorem con116 (hC : COk cfg116) (t : DType) (v : Val) : Sem Try.prog 116 [.d (encDType t), .d (encVal v)] (.d (.i .i64 (valueErr t v))) := by
  refine sem_of_awR (C := cfg116) (rs := [.tmp 4]) (fun _ => []) Try.func116 rfl rfl rfl rfl rfl rfl ?_
  simp only [enterSl, enterHp, inO, inO2, inO1, inOs, List.append_nil, List.nil_append, Nat.mul_zero, List.cons_append, Nat.zero_add, Nat.reduceAdd, Nat.reduceMul, encDType, encVal, List.length_map]
  repeat' first
    | (with_reducible first | refine thenS_n ?_ | refine inBlockS_n ?_ | refine AW.seq ?_ | refine AW.block ?_)
    | (with_reducible first | (refine AW.runK hC ?_; intro K hK) | (refine AW.drawK hC (by kernel_rfl) ?_; intro K hK))
    | ((with_reducible first | refine erun_g ?_ | refine edraw_g ?_ | refine exitS_g ?_); refine siQ ?_; (try simp (disch := omega) only [w64, wu8]))
    | (with_reducible refine hCheck_g (by kernel_rfl) ?_)
    | ((first | (refine AW.cond rfl (fun h => ?_) (fun h => ?_)) | (refine AW.cond_ub rfl (fun h => ?_) ?_) | (refine AW.cond_nb rfl ?_ (fun h => ?_))) <;> (try replace h := boolH h) <;> (try (exfalso; first | omega | exact absurd h (by decide))))
    | (with_reducible first | refine AW.skip ?_ | refine AW.exit ?_ | refine AW.ret ?_ | refine thenS_r ?_ | refine thenS_e ?_ | refine inBlockS_r ?_ | refine inBlockS_e ?_ | refine inBlockS_e2 rfl ?_ | refine exitQ_r ?_ | refine exitQ_n ?_)
    | (refine sub_auto ?_; refine subQ ?_)
    | (with_reducible refine And.intro ?_ ?_)
    | (subst hK)
    | exact trivial
  all_goals (try (intros; assumption))
  all_goals (try simp only [Bool.or_eq_true, Bool.and_eq_true, Bool.or_eq_false_iff, Bool.and_eq_false_iff, Bool.not_eq_true', Bool.not_eq_false', Bool.not_eq_true, Bool.not_eq_false, decide_eq_true_eq, decide_eq_false_iff_not, beq_iff_eq, bne_iff_ne, beq_eq_false_iff_ne, bne_eq_false_iff_eq, ne_eq, Int.not_lt, Int.not_le, D.b.injEq, D.i.injEq, D.s.injEq, D.agg.injEq, D.sl.injEq, true_and, and_true, List.cons.injEq, gt_iff_lt, ge_iff_le,  Bool.cond_true_left, Bool.cond_false_right, Bool.cond_true_right, Bool.cond_false_left, seq_iff, seq_dec, dec_f, dec_t, eqB_t, eqB_f] at *)
  all_goals (try (intros; trivial))
  all_goals (try (intros; omega))
  all_goals (try (rw [w64 (by omega) (by omega)]; first | done | omega))
  all_goals clear hC
  all_goals have PW := p10_le t.length
  all_goals (try simp only [valueErr])
  all_goals first
    | omega
    | grind
    | (rename_i hq; simp (disch := omega) only [w64]; revert hq; (repeat' split) <;> intros <;> first | rfl | omega | (exfalso; omega) | (simp_all; done))
    | (intro d hd; first | (subst hd; exact ⟨rfl, by simp [D.cells, D.one]⟩) | (rcases hd with rfl | rfl <;> exact ⟨rfl, by simp [D.cells, D.one]⟩) | (rcases hd with rfl | rfl | rfl <;> exact ⟨rfl, by simp [D.cells, D.one]⟩) | (rcases hd with rfl | rfl | rfl | rfl <;> exact ⟨rfl, by simp [D.cells, D.one]⟩))
end
noncomputable def cfg115 : Cfg := ⟨Try.prog, 25, tab116, (fun _ _ => []), [], (fun _ => none)⟩
theorem cfg115_pins : cfg115.pins = [] := rfl
theorem cfg115_P : cfg115.P = Try.prog := rfl
theorem cfg115_N : cfg115.N = 25 := rfl
section
attribute [local go_sem] cfg115_P cfg115_N cfg115_pins sz3 ag3 zr3 zo3 zd3 by3 sl3 st3 bo3 pt3 ck3 sz5 ag5 zr5 zo5 zd5 by5 sl5 st5 bo5 pt5 ck5 sz9 ag9 zr9 zo9 zd9 by9 sl9 un9 st9 bo9 pt9 ck9 sz162 ag162 zr162 zo162 zd162 by162 el162 sl162 un162 st162 bo162 pt162 ck162 sz177 ag177 zr177 zo177 zd177 by177 sl177 st177 bo177 pt177 ck177
attribute [local go_sem] encDType decDType etaDType zfDType encVal decVal etaVal zfVal firstE Int.toNat_natCast chr_eq dL_int dM_int getDz_int decL_sl decM_cons decM_nil decI List.length_map nc0 bytesD_len bytesD_get
theorem con115 (hC : COk cfg115) (b : ByteArray) (hp : 0 < b.size ∧ b.size ≤ 1000) : Sem Try.prog 115 [.d (.s b)] (.d (.i .i64 (binN b))) := by
  refine sem_of_awR (C := cfg115) (rs := [.tmp 2]) (fun _ => []) Try.func115 rfl rfl rfl rfl rfl rfl ?_
  simp only [enterSl, enterHp, inO, inO2, inO1, inOs, List.append_nil, List.nil_append, Nat.mul_zero, List.cons_append, Nat.zero_add, Nat.reduceAdd, Nat.reduceMul, encDType, encVal, List.length_map]
  repeat' first
    | (with_reducible first | refine thenS_n ?_ | refine inBlockS_n ?_ | refine AW.seq ?_ | refine AW.block ?_)
    | (with_reducible first | (refine AW.runK hC ?_; intro K hK) | (refine AW.drawK hC (by kernel_rfl) ?_; intro K hK))
    | ((with_reducible first | refine erun_g ?_ | refine edraw_g ?_ | refine exitS_g ?_); refine siQ ?_; (try simp (disch := omega) only [w64, wu8]))
    | (with_reducible refine hCheck_g (by kernel_rfl) ?_)
    | ((first | (refine AW.cond rfl (fun h => ?_) (fun h => ?_)) | (refine AW.cond_ub rfl (fun h => ?_) ?_) | (refine AW.cond_nb rfl ?_ (fun h => ?_))) <;> (try replace h := boolH h) <;> (try (exfalso; first | omega | exact absurd h (by decide))))
    | (with_reducible first | refine AW.skip ?_ | refine AW.exit ?_ | refine AW.ret ?_ | refine thenS_r ?_ | refine thenS_e ?_ | refine inBlockS_r ?_ | refine inBlockS_e ?_ | refine inBlockS_e2 rfl ?_ | refine exitQ_r ?_ | refine exitQ_n ?_)
    | (refine AW.loopN 3 rfl (ι := Nat) (fun i => mkS [(3, V.d (.i .i64 (binTo b i))), (12, V.d (.sl 1 (bytesD (b.extract 1 b.size)))), (13, V.d (.i .i64 ((b.size - 1 : Nat) : Int))), (14, V.d (.i .i64 (i : Int)))] ([])) (fun i => i ≤ b.size - 1) (fun i => b.size - 1 - i) (0) ?_ ?_ (fun i hi => ?_) <;> (try dsimp only) <;> (try dsimp only at hi))
    | (refine LoopNext.mk1 3 (i + 1) ?_ ?_ ?_ <;> (try dsimp only))
    | (refine sub_auto ?_; refine subQ ?_)
    | (with_reducible refine And.intro ?_ ?_)
    | (subst hK)
    | exact trivial
  all_goals (try (intros; assumption))
  all_goals (try simp only [Bool.or_eq_true, Bool.and_eq_true, Bool.or_eq_false_iff, Bool.and_eq_false_iff, Bool.not_eq_true', Bool.not_eq_false', Bool.not_eq_true, Bool.not_eq_false, decide_eq_true_eq, decide_eq_false_iff_not, beq_iff_eq, bne_iff_ne, beq_eq_false_iff_ne, bne_eq_false_iff_eq, ne_eq, Int.not_lt, Int.not_le, D.b.injEq, D.i.injEq, D.s.injEq, D.agg.injEq, D.sl.injEq, true_and, and_true, List.cons.injEq, gt_iff_lt, ge_iff_le,  Bool.cond_true_left, Bool.cond_false_right, Bool.cond_true_right, Bool.cond_false_left, seq_iff, seq_dec, dec_f, dec_t, eqB_t, eqB_f] at *)
  all_goals (try (intros; trivial))
  all_goals (try (intros; omega))
  all_goals (try (rw [w64 (by omega) (by omega)]; first | done | omega))
  all_goals clear hC
  all_goals first
    | omega
    | exact dles_refl _
    | (rw [ext_size]; omega)
    | (rw [ext_size]; done)
    | (show binTo b 0 = IntKind.i64.wrap (IntKind.i8.wrap (chr b 0)); rw [w64 (by have := wrap_i8 (chr b 0); omega) (by have := wrap_i8 (chr b 0); omega)]; rfl)
    | (show ((b.size - 1 : Nat) : Int) = ((b.extract 1 b.size).size : Int); rw [ext_size])
    | (rw [binTo_succ b i (by omega), ext_chr b i (by omega), w64 (n := chr b (i + 1)) (by have := chr_u8 b (i + 1); omega) (by have := chr_u8 b (i + 1); omega)]; rfl)
    | (rw [binTo_end b i (by omega)]; done)
    | (intro d hd; first | (subst hd; exact ⟨rfl, by simp [D.cells, D.one]⟩) | (rcases hd with rfl | rfl <;> exact ⟨rfl, by simp [D.cells, D.one]⟩) | (rcases hd with rfl | rfl | rfl <;> exact ⟨rfl, by simp [D.cells, D.one]⟩) | (rcases hd with rfl | rfl | rfl | rfl <;> exact ⟨rfl, by simp [D.cells, D.one]⟩))
end
noncomputable def cfg119 : Cfg := ⟨Try.prog, 65, tab115, (fun _ _ => []), [], (fun _ => none)⟩
theorem cfg119_pins : cfg119.pins = [] := rfl
theorem cfg119_P : cfg119.P = Try.prog := rfl
theorem cfg119_N : cfg119.N = 65 := rfl
section
attribute [local go_sem] cfg119_P cfg119_N cfg119_pins sz3 ag3 zr3 zo3 zd3 by3 sl3 st3 bo3 pt3 ck3 sz5 ag5 zr5 zo5 zd5 by5 sl5 st5 bo5 pt5 ck5 sz9 ag9 zr9 zo9 zd9 by9 sl9 un9 st9 bo9 pt9 ck9 sz103 ag103 zr103 zd103 by103 sl103 st103 bo103 pt103 of103_0 fa103_0 of103_1 fa103_1 of103_2 fa103_2 pl103 ek103 sz162 ag162 zr162 zo162 zd162 by162 el162 sl162 un162 st162 bo162 pt162 ck162 sz179 ag179 zr179 zo179 zd179 by179 el179 sl179 un179 st179 bo179 pt179
attribute [local go_sem] encDType decDType etaDType zfDType encVal decVal etaVal zfVal firstE Int.toNat_natCast chr_eq dL_int dM_int getDz_int decL_sl decM_cons decM_nil decI List.length_map nc0 bytesD_len bytesD_get
theorem con119 (hC : COk cfg119) (t : DType) (b : ByteArray) (hp : 0 < b.size ∧ b.size ≤ 1000) : Sem Try.prog 119 [.d (encDType t), .d (.s b)] (.tup [.d (.sl 1 ((halves t b).1.map (D.i .u8))), .d (.sl 1 ((halves t b).2.map (D.i .i64)))]) := by
  refine sem_of_awR (C := cfg119) (rs := [.tmp 4, .tmp 5]) (fun _ => []) Try.func119 rfl rfl rfl rfl rfl rfl ?_
  simp only [enterSl, enterHp, inO, inO2, inO1, inOs, List.append_nil, List.nil_append, Nat.mul_zero, List.cons_append, Nat.zero_add, Nat.reduceAdd, Nat.reduceMul, encDType, encVal, List.length_map]
  repeat' first
    | (with_reducible first | refine thenS_n ?_ | refine inBlockS_n ?_ | refine AW.seq ?_ | refine AW.block ?_)
    | (with_reducible first | (refine AW.runK hC ?_; intro K hK) | (refine AW.drawK hC (by kernel_rfl) ?_; intro K hK))
    | ((with_reducible first | refine erun_g ?_ | refine edraw_g ?_ | refine exitS_g ?_); refine siQ ?_; (try simp (disch := omega) only [w64, wu8]))
    | (with_reducible refine hCheck_g (by kernel_rfl) ?_)
    | ((first | (refine AW.cond rfl (fun h => ?_) (fun h => ?_)) | (refine AW.cond_ub rfl (fun h => ?_) ?_) | (refine AW.cond_nb rfl ?_ (fun h => ?_))) <;> (try replace h := boolH h) <;> (try (exfalso; first | omega | exact absurd h (by decide))))
    | (with_reducible first | refine AW.skip ?_ | refine AW.exit ?_ | refine AW.ret ?_ | refine thenS_r ?_ | refine thenS_e ?_ | refine inBlockS_r ?_ | refine inBlockS_e ?_ | refine inBlockS_e2 rfl ?_ | refine exitQ_r ?_ | refine exitQ_n ?_)
    | (refine AW.loopN 2 rfl (ι := Nat) (fun i => mkS [(1, V.d (.s b)), (2, V.ptr 32 0), (4, V.row 64 1 0 (halvL t b i).length), (5, V.row 80 1 0 (halvA t i).length), (10, V.d (.i .i64 (b.size : Int))), (11, V.d (.i .i64 (i : Int)))] ([(32, .live (.box 103 [.d (.i .i64 t.kind), .d (.i .i64 t.length), .d (.i .i64 t.scale)])), (64, .live (.row 5 1 false ((halvL t b i).map (D.i .u8)))), (80, .live (.row 3 1 false ((halvA t i).map (D.i .i64))))])) (fun i => i ≤ b.size) (fun i => b.size - i) (0) ?_ ?_ (fun i hi => ?_) <;> (try dsimp only) <;> (try dsimp only at hi))
    | (refine LoopNext.mk1 2 (i + 1) ?_ ?_ ?_ <;> (try dsimp only))
    | (refine sub_auto ?_; refine subQ ?_)
    | (with_reducible refine And.intro ?_ ?_)
    | (subst hK)
    | exact trivial
  all_goals (try (intros; assumption))
  all_goals (try simp only [Bool.or_eq_true, Bool.and_eq_true, Bool.or_eq_false_iff, Bool.and_eq_false_iff, Bool.not_eq_true', Bool.not_eq_false', Bool.not_eq_true, Bool.not_eq_false, decide_eq_true_eq, decide_eq_false_iff_not, beq_iff_eq, bne_iff_ne, beq_eq_false_iff_ne, bne_eq_false_iff_eq, ne_eq, Int.not_lt, Int.not_le, D.b.injEq, D.i.injEq, D.s.injEq, D.agg.injEq, D.sl.injEq, true_and, and_true, List.cons.injEq, gt_iff_lt, ge_iff_le,  Bool.cond_true_left, Bool.cond_false_right, Bool.cond_true_right, Bool.cond_false_left, seq_iff, seq_dec, dec_f, dec_t, eqB_t, eqB_f] at *)
  all_goals (try (intros; trivial))
  all_goals (try (intros; omega))
  all_goals (try (rw [w64 (by omega) (by omega)]; first | done | omega))
  all_goals (try have L1 := halvL_len t b i)
  all_goals (try have L2 := halvA_len t i)
  all_goals clear hC
  all_goals first
    | omega
    | (split at L1 <;> split at L2 <;> omega)
    | (rw [halvL_p (by assumption)]; simp; done)
    | (rw [halvL_z (by assumption)]; simp; done)
    | (rw [halvA_p (by assumption)]; simp; done)
    | (rw [halvA_z (by assumption)]; simp; done)
    | (rw [halvL_p (by assumption), List.map_append]; exact dles_refl _)
    | (rw [halvL_z (by assumption), List.map_append]; exact dles_refl _)
    | (rw [halvA_p (by assumption), List.map_append]; exact dles_refl _)
    | (rw [halvA_z (by assumption), List.map_append]; exact dles_refl _)
    | (rw [List.take_of_length_le (by simp), halves_2 (by assumption), show i = b.size by omega, int_pred, List.map_append]; exact dles_refl _)
    | (rw [List.take_of_length_le (by simp), halves_2 (by assumption), show i = b.size by omega, List.map_append]; exact dles_refl _)
    | (rw [List.take_of_length_le (by simp), halves_n (by assumption), show i = b.size by omega]; exact dles_refl _)
    | (intro d hd; first | (subst hd; exact ⟨rfl, by simp [D.cells, D.one]⟩) | (rcases hd with rfl | rfl <;> exact ⟨rfl, by simp [D.cells, D.one]⟩) | (rcases hd with rfl | rfl | rfl <;> exact ⟨rfl, by simp [D.cells, D.one]⟩) | (rcases hd with rfl | rfl | rfl | rfl <;> exact ⟨rfl, by simp [D.cells, D.one]⟩))
end
noncomputable def cfg117 : Cfg := ⟨Try.prog, 81, tab119, (fun _ _ => []), [], (fun _ => none)⟩
theorem cfg117_ti119 : cfg117.ti 119 = none := rfl
theorem cfg117_pins : cfg117.pins = [] := rfl
theorem cfg117_P : cfg117.P = Try.prog := rfl
theorem cfg117_N : cfg117.N = 81 := rfl
theorem cfg117_T119 : cfg117.T 119 = e119 := rfl
theorem cfg117_mv119 : cfg117.mv 119 = (fun _ => []) := rfl
section
attribute [local go_sem] cfg117_P cfg117_N cfg117_pins cfg117_ti119 cfg117_T119 e119 cfg117_mv119 sz3 ag3 zr3 zo3 zd3 by3 sl3 st3 bo3 pt3 ck3 sz5 ag5 zr5 zo5 zd5 by5 sl5 st5 bo5 pt5 ck5 sz9 ag9 zr9 zo9 zd9 by9 sl9 un9 st9 bo9 pt9 ck9 sz103 ag103 zr103 zd103 by103 sl103 st103 bo103 pt103 of103_0 fa103_0 of103_1 fa103_1 of103_2 fa103_2 pl103 ek103 sz162 ag162 zr162 zo162 zd162 by162 el162 sl162 un162 st162 bo162 pt162 ck162 sz179 ag179 zr179 zo179 zd179 by179 el179 sl179 un179 st179 bo179 pt179
attribute [local go_sem] encDType decDType etaDType zfDType encVal decVal etaVal zfVal firstE Int.toNat_natCast chr_eq dL_int dM_int getDz_int decL_sl decM_cons decM_nil decI List.length_map nc0 bytesD_len bytesD_get getDz_u8 List.length_take
attribute [local go_sem ←] List.map_take
theorem con117 (hC : COk cfg117) (t : DType) (b : ByteArray) (hp : 0 < b.size ∧ b.size ≤ 1000 ∧ 0 ≤ t.length ∧ t.length ≤ 1000) : Sem Try.prog 117 [.d (encDType t), .d (.s b)] (.tup [.d (.i .i64 (decN t b).1), .d (.i .i64 (decN t b).2.1), .d (.i .i64 (decN t b).2.2)]) := by
  obtain ⟨q1, q2, q3, q4⟩ := hp
  have HLN := halves_len t b
  have HL1 : 1 ≤ (halves t b).1.length ∧ (halves t b).1.length ≤ 3000 := by rw [HLN.1]; (repeat' split) <;> omega
  refine sem_of_awR (C := cfg117) (rs := [.tmp 4, .tmp 5, .tmp 6]) (fun _ => []) Try.func117 rfl rfl rfl rfl rfl rfl ?_
  simp only [enterSl, enterHp, inO, inO2, inO1, inOs, List.append_nil, List.nil_append, Nat.mul_zero, List.cons_append, Nat.zero_add, Nat.reduceAdd, Nat.reduceMul, encDType, encVal, List.length_map]
  repeat' first
    | (with_reducible first | refine thenS_n ?_ | refine inBlockS_n ?_ | refine AW.seq ?_ | refine AW.block ?_)
    | (with_reducible first | (refine AW.runK hC ?_; intro K hK) | (refine AW.drawK hC (by kernel_rfl) ?_; intro K hK))
    | ((with_reducible first | refine erun_g ?_ | refine edraw_g ?_ | refine exitS_g ?_); refine siQ ?_; (try simp (disch := omega) only [w64, wu8]))
    | (with_reducible refine hCheck_g (by kernel_rfl) ?_)
    | ((first | (refine AW.cond rfl (fun h => ?_) (fun h => ?_)) | (refine AW.cond_ub rfl (fun h => ?_) ?_) | (refine AW.cond_nb rfl ?_ (fun h => ?_))) <;> (try replace h := boolH h) <;> (try (exfalso; first | omega | exact absurd h (by decide))))
    | (with_reducible first | refine AW.skip ?_ | refine AW.exit ?_ | refine AW.ret ?_ | refine thenS_r ?_ | refine thenS_e ?_ | refine inBlockS_r ?_ | refine inBlockS_e ?_ | refine inBlockS_e2 rfl ?_ | refine exitQ_r ?_ | refine exitQ_n ?_)
    | (refine AW.loopN 5 rfl (ι := Nat × Int) (fun p => mkS [(2, V.ptr 32 0), (7, V.d (.sl 1 ((halves t b).1.map (D.i .u8)))), (8, V.d (.sl 1 ((halves t b).2.map (D.i .i64)))), (9, V.d (.i .i64 (((halves t b).1.length : Int) - 1))), (10, V.d (.i .i64 p.2)), (24, V.d (.sl 1 (((halves t b).1.take ((halves t b).1.length - 1)).map (D.i .u8)))), (25, V.d (.i .i64 (((halves t b).1.length - 1 : Nat) : Int))), (26, V.d (.i .i64 (p.1 : Int)))] ([(32, .live (.box 103 [.d (.i .i64 t.kind), .d (.i .i64 t.length), .d (.i .i64 t.scale)]))])) (fun p => p.1 ≤ (halves t b).1.length - 1 ∧ decGo t.length (halves t b).1 (halves t b).2 (((halves t b).1.length : Int) - 1) (((halves t b).1.take ((halves t b).1.length - 1)).drop p.1) p.1 p.2 = decN t b) (fun p => (halves t b).1.length - 1 - p.1) ((0, 0)) ?_ ?_ (fun p hi => ?_) <;> (try dsimp only) <;> (try dsimp only at hi))
    | (refine LoopNext.mk1 5 ((p.1 + 1, IntKind.i64.wrap (IntKind.i64.wrap (p.2 * 10) + IntKind.i64.wrap (((halves t b).1.take ((halves t b).1.length - 1)).getD p.1 0)))) ?_ ?_ ?_ <;> (try dsimp only))
    | (refine sub_auto ?_; refine subQ ?_)
    | (with_reducible refine And.intro ?_ ?_)
    | (subst hK)
    | exact trivial
  all_goals (try (intros; assumption))
  all_goals (try simp only [Bool.or_eq_true, Bool.and_eq_true, Bool.or_eq_false_iff, Bool.and_eq_false_iff, Bool.not_eq_true', Bool.not_eq_false', Bool.not_eq_true, Bool.not_eq_false, decide_eq_true_eq, decide_eq_false_iff_not, beq_iff_eq, bne_iff_ne, beq_eq_false_iff_ne, bne_eq_false_iff_eq, ne_eq, Int.not_lt, Int.not_le, D.b.injEq, D.i.injEq, D.s.injEq, D.agg.injEq, D.sl.injEq, true_and, and_true, List.cons.injEq, gt_iff_lt, ge_iff_le,  Bool.cond_true_left, Bool.cond_false_right, Bool.cond_true_right, Bool.cond_false_left, seq_iff, seq_dec, dec_f, dec_t, eqB_t, eqB_f] at *)
  all_goals (try (intros; trivial))
  all_goals (try (intros; omega))
  all_goals (try (rw [w64 (by omega) (by omega)]; first | done | omega))
  all_goals clear hC
  all_goals have RL : ((halves t b).1.take ((halves t b).1.length - 1)).length = (halves t b).1.length - 1 := by rw [List.length_take]; omega
  all_goals first
    | omega
    | (refine dles_of_eq ?_; simp only [Int.toNat_zero, List.drop_zero, Nat.sub_zero, int_pred, List.map_take])
    | (simp only [Int.toNat_zero, List.drop_zero, Nat.sub_zero, int_pred, List.length_map]; omega)
    | rfl
    | (rw [decGo_bad hi.2 (by omega) (by omega)]; done)
    | exact decGo_next hi.2 (by omega) (by omega)
    | (rw [decGo_end1 hi.2 (by omega) (by omega)]; done)
    | (rw [decGo_end2 hi.2 (by omega) (by omega) (by omega)]; done)
    | (rw [decGo_end3 hi.2 (by omega) (by omega) (by omega)]; done)
    | (intro d hd; first | (subst hd; exact ⟨rfl, by simp [D.cells, D.one]⟩) | (rcases hd with rfl | rfl <;> exact ⟨rfl, by simp [D.cells, D.one]⟩) | (rcases hd with rfl | rfl | rfl <;> exact ⟨rfl, by simp [D.cells, D.one]⟩) | (rcases hd with rfl | rfl | rfl | rfl <;> exact ⟨rfl, by simp [D.cells, D.one]⟩))
end
noncomputable def cfg110 : Cfg := ⟨Try.prog, 63, tab117, (fun _ _ => []), [], (fun _ => none)⟩
theorem cfg110_ti108 : cfg110.ti 108 = none := rfl
theorem cfg110_ti112 : cfg110.ti 112 = none := rfl
theorem cfg110_ti113 : cfg110.ti 113 = none := rfl
theorem cfg110_ti114 : cfg110.ti 114 = none := rfl
theorem cfg110_ti115 : cfg110.ti 115 = none := rfl
theorem cfg110_ti116 : cfg110.ti 116 = none := rfl
theorem cfg110_ti117 : cfg110.ti 117 = none := rfl
theorem cfg110_pins : cfg110.pins = [] := rfl
theorem cfg110_P : cfg110.P = Try.prog := rfl
theorem cfg110_N : cfg110.N = 63 := rfl
theorem cfg110_T108 : cfg110.T 108 = e108 := rfl
theorem cfg110_mv108 : cfg110.mv 108 = (fun _ => []) := rfl
theorem cfg110_T112 : cfg110.T 112 = e112 := rfl
theorem cfg110_mv112 : cfg110.mv 112 = (fun _ => []) := rfl
theorem cfg110_T113 : cfg110.T 113 = e113 := rfl
theorem cfg110_mv113 : cfg110.mv 113 = (fun _ => []) := rfl
theorem cfg110_T114 : cfg110.T 114 = e114 := rfl
theorem cfg110_mv114 : cfg110.mv 114 = (fun _ => []) := rfl
theorem cfg110_T115 : cfg110.T 115 = e115 := rfl
theorem cfg110_mv115 : cfg110.mv 115 = (fun _ => []) := rfl
theorem cfg110_T116 : cfg110.T 116 = e116 := rfl
theorem cfg110_mv116 : cfg110.mv 116 = (fun _ => []) := rfl
theorem cfg110_T117 : cfg110.T 117 = e117 := rfl
theorem cfg110_mv117 : cfg110.mv 117 = (fun _ => []) := rfl
section
attribute [local go_sem] cfg110_P cfg110_N cfg110_pins cfg110_ti108 cfg110_ti112 cfg110_ti113 cfg110_ti114 cfg110_ti115 cfg110_ti116 cfg110_ti117 cfg110_T108 e108 cfg110_mv108 cfg110_T112 e112 cfg110_mv112 cfg110_T113 e113 cfg110_mv113 cfg110_T114 e114 cfg110_mv114 cfg110_T115 e115 cfg110_mv115 cfg110_T116 e116 cfg110_mv116 cfg110_T117 e117 cfg110_mv117 sz3 ag3 zr3 zo3 zd3 by3 sl3 st3 bo3 pt3 ck3 sz4 ag4 zr4 zo4 zd4 by4 sl4 st4 bo4 pt4 sz9 ag9 zr9 zo9 zd9 by9 sl9 un9 st9 bo9 pt9 ck9 sz25 ag25 zr25 zo25 zd25 by25 sl25 st25 bo25 pt25 ck25 sz103 ag103 zr103 zd103 by103 sl103 st103 bo103 pt103 of103_0 fa103_0 of103_1 fa103_1 of103_2 fa103_2 pl103 ek103 sz152 ag152 zr152 zo152 zd152 by152 el152 sl152 un152 st152 bo152 pt152 sz169 ag169 zr169 zd169 by169 sl169 st169 bo169 pt169 of169_0 fa169_0 of169_1 fa169_1 pl169 ek169
attribute [local go_sem] encDType decDType etaDType zfDType encVal decVal etaVal zfVal firstE Int.toNat_natCast chr_eq dL_int dM_int getDz_int decL_sl decM_cons decM_nil decI List.length_map nc0 bytesD_len bytesD_get
theorem con110 (hC : COk cfg110) (t : DType) (b : ByteArray) : Sem Try.prog 110 [.d (encDType t), .d (.s b)] (.tup [.d (encVal (decodeV t b).1), .d (.i .i64 (decodeV t b).2.1), .d (.i .i64 (decodeV t b).2.2)]) := by
  refine sem_of_awR (C := cfg110) (rs := [.cell 4 169, .tmp 5, .tmp 6]) (fun _ => []) Try.func110 rfl rfl rfl rfl rfl rfl ?_
  simp only [enterSl, enterHp, inO, inO2, inO1, inOs, List.append_nil, List.nil_append, Nat.mul_zero, List.cons_append, Nat.zero_add, Nat.reduceAdd, Nat.reduceMul, encDType, encVal, List.length_map]
  repeat' first
    | (with_reducible first | refine thenS_n ?_ | refine inBlockS_n ?_ | refine AW.seq ?_ | refine AW.block ?_)
    | (with_reducible first | (refine AW.runK hC ?_; intro K hK) | (refine AW.drawK hC (by kernel_rfl) ?_; intro K hK))
    | ((with_reducible first | refine erun_g ?_ | refine edraw_g ?_ | refine exitS_g ?_); refine siQ ?_; (try simp (disch := omega) only [w64, wu8]))
    | (with_reducible refine hCheck_g (by kernel_rfl) ?_)
    | ((first | (refine AW.cond rfl (fun h => ?_) (fun h => ?_)) | (refine AW.cond_ub rfl (fun h => ?_) ?_) | (refine AW.cond_nb rfl ?_ (fun h => ?_))) <;> (try replace h := boolH h) <;> (try (exfalso; first | omega | exact absurd h (by decide))))
    | (with_reducible first | refine AW.skip ?_ | refine AW.exit ?_ | refine AW.ret ?_ | refine thenS_r ?_ | refine thenS_e ?_ | refine inBlockS_r ?_ | refine inBlockS_e ?_ | refine inBlockS_e2 rfl ?_ | refine exitQ_r ?_ | refine exitQ_n ?_)
    | (refine sub_auto ?_; refine subQ ?_)
    | (with_reducible refine And.intro ?_ ?_)
    | (subst hK)
    | exact trivial
  all_goals (try (intros; assumption))
  all_goals (try simp only [Bool.or_eq_true, Bool.and_eq_true, Bool.or_eq_false_iff, Bool.and_eq_false_iff, Bool.not_eq_true', Bool.not_eq_false', Bool.not_eq_true, Bool.not_eq_false, decide_eq_true_eq, decide_eq_false_iff_not, beq_iff_eq, bne_iff_ne, beq_eq_false_iff_ne, bne_eq_false_iff_eq, ne_eq, Int.not_lt, Int.not_le, D.b.injEq, D.i.injEq, D.s.injEq, D.agg.injEq, D.sl.injEq, true_and, and_true, List.cons.injEq, gt_iff_lt, ge_iff_le,  Bool.cond_true_left, Bool.cond_false_right, Bool.cond_true_right, Bool.cond_false_left, seq_iff, seq_dec, dec_f, dec_t, eqB_t, eqB_f] at *)
  all_goals (try (intros; trivial))
  all_goals (try (intros; omega))
  all_goals (try (rw [w64 (by omega) (by omega)]; first | done | omega))
  all_goals clear hC
  all_goals (try have T0 : typeErr t = 0 := by grind)
  all_goals (try (have SZ := sizeN_ok T0; have TO := typeErr_ok T0))
  all_goals first
    | omega
    | (simp only [decodeV, zVal]; grind)
    | (exact T0)
    | grind
    | ((try split at h) <;> omega)
    | (intro d hd; first | (subst hd; exact ⟨rfl, by simp [D.cells, D.one]⟩) | (rcases hd with rfl | rfl <;> exact ⟨rfl, by simp [D.cells, D.one]⟩) | (rcases hd with rfl | rfl | rfl <;> exact ⟨rfl, by simp [D.cells, D.one]⟩) | (rcases hd with rfl | rfl | rfl | rfl <;> exact ⟨rfl, by simp [D.cells, D.one]⟩))
end
end Go.Ev
