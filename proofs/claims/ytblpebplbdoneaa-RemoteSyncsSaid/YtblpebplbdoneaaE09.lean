/- Tools and contracts under the laws of this seat: Dvc16, Dvc17, Dvc10, Dvc3, Dvc4, Dvc22, Dvc5, Dvc47. -/
import Derived.Test.YtblpebplbdoneaaE03
set_option linter.unusedVariables false
set_option linter.unusedSimpArgs false
namespace Go.Ev
open Go.Proofs Ty
set_option maxRecDepth 10000
set_option maxHeartbeats 4000000
set_option linter.unusedSimpArgs false
set_option linter.unusedVariables false
attribute [local go_sem] erun_nil erun_cons edraw_eq edrun_nil edrun_cons e1_n e1_g guardSlot_eq lkAll_tmp lkAll_nil lkAll_const lkAll_func val_tmp val_const val_func aget getBox_mk getRow_mk liveRow_mk hp_mk eU_move_n eU_assign_n eU_move eU_assign eU_pick eU_alloc eU_box eU_load eU_store eU_nilCheck eU_binOp eU_unOp eU_fieldAddr eU_field eU_indexAddr eU_index eU_build eU_buildSlice eU_slice eU_extract eU_makeFunc eU_builtin eU_call eU_callv V.cells V.one D.one D.cells newObj nm HS.isFree HS.isLive andOk_some andOk_none List.map_cons List.map_nil Option.bind_some Option.bind_none putL List.cons_append List.nil_append thenS_normal thenS_ret thenS_exit inBlockS_normal inBlockS_ret inBlockS_exit true_and and_true justV justO cval Option.map_some Option.map_none loadAt storeAt ldV ldD mkAgg V.asD spliceL List.take_succ_cons List.take_zero List.drop_succ_cons List.drop_zero List.getElem?_cons_zero List.getElem?_cons_succ List.getElem?_nil List.all_cons List.all_nil Bool.and_true Bool.true_and Bool.and_self List.length_cons List.length_nil vals aopCall argsO argO toD3 toD2 toD1 toDs O.ok O.ok2 O.ok1 O.flat O.flat1 D.flat D.flatA inO inO2 inO1 inOs List.filterMap_nil List.filterMap_cons List.filter_nil List.filter_cons List.nodup_nil decide_true decide_false Bool.not_true Bool.not_false not_true_eq_false not_false_eq_true or_false false_or and_false false_and ne_eq List.append_nil optB guardQ guardRes beq_self_eq_true List.mapM_cons List.mapM_nil Option.pure_def Option.bind_eq_bind true_or or_true or_self callHp ite_self not_true not_false_iff ite_true ite_false if_true if_false Bool.false_eq_true Bool.true_eq_false List.any_nil List.any_cons List.contains_nil List.contains_cons eq_self aopAppend builtinV elems aopBin nilEqS nilEqP aopSlice bound natOf lenOf binD intBin unD bindEq eU_makeMap eU_lookup eU_mapUpdate getMp_mk List.range_zero Nat.zero_le Nat.zero_mul Nat.zero_add Nat.add_zero List.length_append List.take_length List.isEmpty_nil List.isEmpty_cons V.neg List.flatMap_nil and_self List.range_succ forall_const implies_true Nat.not_lt_zero exitQ_normal exitQ_ret exitS_eq exitO resVs resV_tmp resV_cell takeRow argCells mvAt dle_same dles_same ole_same ole oles dle dles List.nodup_cons List.mem_cons List.not_mem_nil List.drop_length Nat.le_refl Nat.lt_irrefl id_eq Option.some.injEq Bool.or_false Bool.false_or Bool.or_self Bool.or_true Bool.true_or false_implies Bool.and_false Bool.false_and List.reverse_cons List.reverse_nil sh1 mget1 mget aopLookup aopMapUpdate mapOf msetK msetV Option.isSome_some Option.isSome_none Bool.cond_true_left Bool.cond_false_right Bool.cond_true_right Bool.cond_false_left beq_true beq_false Bool.not_not imp_self guardVal notB strBin aopSliceS buildV argOk D.splice kEq Option.toList_some Option.toList_none adel List.getD_cons_zero List.getD_cons_succ bxIds bxId backHp hget one1 aopCall0 aopTurn

/- midrange/midrangeref36.Run -/
noncomputable def cfg16 : Cfg := ⟨Try.prog, 48, tab34, mvs, [], (fun _ => none)⟩
theorem cfg16_ti14 : cfg16.ti 14 = none := rfl
theorem cfg16_ti20 : cfg16.ti 20 = none := rfl
theorem cfg16_ti21 : cfg16.ti 21 = none := rfl
theorem cfg16_pins : cfg16.pins = [] := rfl
theorem cfg16_P : cfg16.P = Try.prog := rfl
theorem cfg16_N : cfg16.N = 48 := rfl
theorem cfg16_T14 : cfg16.T 14 = e14d := rfl
theorem cfg16_mv14 : cfg16.mv 14 = (fun _ => []) := rfl
theorem cfg16_T20 : cfg16.T 20 = e20 := rfl
theorem cfg16_mv20 : cfg16.mv 20 = (fun _ => []) := rfl
theorem cfg16_T21 : cfg16.T 21 = e21 := rfl
theorem cfg16_mv21 : cfg16.mv 21 = (fun _ => []) := rfl
section
attribute [local go_sem] cfg16_P cfg16_N cfg16_pins cfg16_ti14 cfg16_ti20 cfg16_ti21 cfg16_T14 e14d cfg16_mv14 cfg16_T20 e20 cfg16_mv20 cfg16_T21 e21 cfg16_mv21 sz3 ag3 zr3 zo3 zd3 by3 sl3 st3 bo3 pt3 sz4 ag4 zr4 zo4 zd4 by4 sl4 st4 bo4 pt4 sz9 ag9 zr9 zo9 zd9 by9 sl9 un9 st9 bo9 pt9 sz22 ag22 zr22 zo22 zd22 by22 el22 sl22 un22 st22 bo22 pt22 sz23 ag23 zr23 zo23 zd23 by23 el23 sl23 un23 st23 bo23 pt23 sz25 ag25 zr25 zd25 by25 sl25 st25 bo25 pt25 of25_0 fa25_0 of25_1 fa25_1 of25_2 fa25_2 of25_3 fa25_3 of25_4 fa25_4 of25_5 fa25_5 pl25 sz26 ag26 zr26 zo26 zd26 by26 el26 sl26 un26 st26 bo26 pt26 sz40 ag40 zr40 zd40 by40 sl40 st40 bo40 pt40 of40_0 fa40_0 of40_1 fa40_1 of40_2 fa40_2 of40_3 fa40_3 of40_4 fa40_4 pl40 ek40 sz42 ag42 zr42 zd42 by42 sl42 st42 bo42 pt42 of42_0 fa42_0 of42_1 fa42_1 of42_2 fa42_2 of42_3 fa42_3 pl42 ek42 sz44 ag44 zr44 zd44 by44 sl44 st44 bo44 pt44 of44_0 fa44_0 of44_1 fa44_1 of44_2 fa44_2 pl44 ek44 sz66 ag66 zr66 zd66 by66 sl66 st66 bo66 pt66 of66_0 fa66_0 of66_1 fa66_1 pl66 ek66 
theorem con16 (hC : COk cfg16) (x : Remote) (l : List RAct) (hp : x.source.length ≤ 1000000 ∧ x.target.length ≤ 1000000 ∧ x.wire.length ≤ 1000000 ∧ l.length ≤ 1000000) : Sem Try.prog 16 [.d (encRemote x), .d (.sl 10 (l.map encRAct))] (.tup [.d (encRemote (runR x l).1), .d (.i .i64 (runR x l).2.1), .d (.i .i64 (runR x l).2.2)]) := by
  refine sem_of_awR (C := cfg16) (rs := [.cell 4 25, .tmp 5, .tmp 6]) (fun _ => []) Try.func16 rfl rfl rfl rfl rfl rfl ?_
  simp only [enterSl, enterHp, inO, inO2, inO1, inOs, List.append_nil, List.nil_append, Nat.mul_zero, List.cons_append, Nat.zero_add, Nat.reduceAdd, Nat.reduceMul, encChange, encEntry, ceqChange, ceqEntry, etaChange, etaEntry, zfChange, zfEntry, decChange, decEntry, seq_dec, encRemote, decRemote, encPacket, decPacket, encRAct, decRAct, etaRemote, zfRemote, etaPacket, zfPacket, ceqPacket, etaRAct, zfRAct, ceqRAct, getDz_Packet, getDz_RAct, dL_Packet, dL_RAct, dM_Entry, dM_Packet, getDz_Entry, dL_Entry, List.length_map, Int.toNat_natCast, Int.toNat_zero, Nat.sub_zero, ← List.map_take, ← List.map_drop, List.length_take, decL_sl, decM_cons, decM_nil, decM_append, take_map_snoc, dM_Entry, dM_Packet, dM_RAct]
  repeat' first
    | (with_reducible refine thenS_n ?_)
    | (with_reducible refine inBlockS_n ?_)
    | (with_reducible refine AW.seq ?_)
    | (with_reducible refine AW.block ?_)
    | (refine AW.atR 10 rfl ?_; have hA := fun a => actC_of hi.2.1 a; have hG := remoteErr_good hi.2.1; have hP : p.2.source.length ≤ 1000000 ∧ p.2.target.length ≤ 1000000 ∧ p.2.wire.length ≤ 1000000 := (by have h1 := hG.s; have h2 := hG.t; have h3 := hG.w; omega); clear hG)
    | (with_reducible refine AWh.runK hC ?_; intro K hK)
    | (with_reducible refine AWh.drawK hC (by kernel_rfl) ?_; intro K hK)
    | (with_reducible refine AW.runK hC ?_; intro K hK)
    | (with_reducible refine AW.drawK hC (by kernel_rfl) ?_; intro K hK)
    | ((first | (with_reducible refine erun_g ?_) | (with_reducible refine edraw_g ?_) | (with_reducible refine exitS_g ?_)); (first | (simp (maxSteps := 1000000) only [go_sem, ↓reduceIte, reduceCtorEq, Nat.reduceEqDiff, Nat.reduceLT, Nat.reduceLeDiff, Nat.reduceMul, Nat.reduceAdd, Nat.reduceSub, reduceDIte, Nat.reduceBEq, Nat.reduceBNe, encChange, encEntry, ceqChange, ceqEntry, etaChange, etaEntry, zfChange, zfEntry, decChange, decEntry, seq_dec, encRemote, decRemote, encPacket, decPacket, encRAct, decRAct, etaRemote, zfRemote, etaPacket, zfPacket, ceqPacket, etaRAct, zfRAct, ceqRAct, getDz_Packet, getDz_RAct, dL_Packet, dL_RAct, dM_Entry, dM_Packet, getDz_Entry, dL_Entry, List.length_map, Int.toNat_natCast, Int.toNat_zero, Nat.sub_zero, ← List.map_take, ← List.map_drop, List.length_take, decL_sl, decM_cons, decM_nil, decM_append, take_map_snoc, dM_Entry, dM_Packet, dM_RAct, hA]) | (simp (maxSteps := 1000000) only [go_sem, ↓reduceIte, reduceCtorEq, Nat.reduceEqDiff, Nat.reduceLT, Nat.reduceLeDiff, Nat.reduceMul, Nat.reduceAdd, Nat.reduceSub, reduceDIte, Nat.reduceBEq, Nat.reduceBNe, encChange, encEntry, ceqChange, ceqEntry, etaChange, etaEntry, zfChange, zfEntry, decChange, decEntry, seq_dec, encRemote, decRemote, encPacket, decPacket, encRAct, decRAct, etaRemote, zfRemote, etaPacket, zfPacket, ceqPacket, etaRAct, zfRAct, ceqRAct, getDz_Packet, getDz_RAct, dL_Packet, dL_RAct, dM_Entry, dM_Packet, getDz_Entry, dL_Entry, List.length_map, Int.toNat_natCast, Int.toNat_zero, Nat.sub_zero, ← List.map_take, ← List.map_drop, List.length_take, decL_sl, decM_cons, decM_nil, decM_append, take_map_snoc, dM_Entry, dM_Packet, dM_RAct])); (try simp (disch := omega) only [w64, wu8]))
    | (with_reducible refine hCheck_g (by kernel_rfl) ?_)
    | ((first | (refine AW.cond rfl (fun h => ?_) (fun h => ?_)) | (refine AW.cond_ub rfl (fun h => ?_) ?_) | (refine AW.cond_nb rfl ?_ (fun h => ?_))) <;> (try simp only [Bool.or_eq_true, Bool.and_eq_true, Bool.or_eq_false_iff, Bool.and_eq_false_iff, Bool.not_eq_true', Bool.not_eq_false', Bool.not_eq_true, Bool.not_eq_false, decide_eq_true_eq, decide_eq_false_iff_not, beq_iff_eq, bne_iff_ne, beq_eq_false_iff_ne, bne_eq_false_iff_eq, ne_eq, Int.not_lt, Int.not_le, D.b.injEq, D.i.injEq, D.s.injEq, D.agg.injEq, D.sl.injEq, true_and, and_true, List.cons.injEq, gt_iff_lt, ge_iff_le,  Bool.cond_true_left, Bool.cond_false_right, Bool.cond_true_right, Bool.cond_false_left, seq_iff, seq_dec, dec_f, dec_t, eqB_t, eqB_f] at h) <;> (try (exfalso; first | omega | exact absurd h (by decide))))
    | (with_reducible refine AW.skip ?_)
    | (with_reducible refine AW.exit ?_)
    | (with_reducible refine AW.ret ?_)
    | (with_reducible refine thenS_r ?_)
    | (with_reducible refine thenS_e ?_)
    | (with_reducible refine inBlockS_r ?_)
    | (with_reducible refine inBlockS_e ?_)
    | (with_reducible refine inBlockS_e2 rfl ?_)
    | (with_reducible refine exitQ_r ?_)
    | (with_reducible refine exitQ_n ?_)
    | (refine AW.loopN 8 rfl (ι := Nat × Remote) (fun p => mkS [(1, V.d (.sl 10 (l.map encRAct))), (4, V.ptr 64 0), (8, V.ptr 128 0), (9, V.d (.i .i64 (p.1 : Int)))] ([(128, .live (.box 25 [.d (.b p.2.sync), .d (.sl 8 (p.2.source.map encEntry)), .d (.sl 8 (p.2.target.map encEntry)), .d (.i .i64 p.2.sent), .d (.i .i64 p.2.acked), .d (.sl 2 (p.2.wire.map encPacket))])), (64, .live (.box 25 [.d (.b false), .d .nil, .d .nil, .d (.i .i64 0), .d (.i .i64 0), .d .nil]))])) (fun p => p.1 ≤ l.length ∧ remoteErr p.2 = 0 ∧ runGo p.2 p.1 (l.drop p.1) = runR x l) (fun p => l.length - p.1) ((0, x)) ?_ ?_ (fun p hi => ?_) <;> (try dsimp only) <;> (try dsimp only at hi))
    | (refine LoopNext.mk1 8 ((p.1 + 1, (actR p.2 (l.getD p.1 zRAct)).1)) ?_ ?_ ?_ <;> (try dsimp only))
    | (refine sub_auto ?_; simp (maxSteps := 1000000) only [forall_eq, V.ptr.injEq, V.row.injEq, V.rp.injEq, V.mref.injEq, exists_eq_left', and_assoc, rhoV, rhoVs, rhoSl, rhoO, rhoHp, rhoDd, rho1, HS.obj?, forall_eq', slSub, hpSub, hpSub1, nfL, vs, vss, vds, vd1, os, aget, go_sem, ↓reduceIte, reduceCtorEq, Nat.reduceEqDiff, Nat.reduceLT, Nat.reduceLeDiff, Nat.reduceMul, Nat.reduceAdd, Nat.reduceSub, reduceDIte, Nat.reduceBEq, Nat.reduceBNe, encChange, encEntry, ceqChange, ceqEntry, etaChange, etaEntry, zfChange, zfEntry, decChange, decEntry, seq_dec, encRemote, decRemote, encPacket, decPacket, encRAct, decRAct, etaRemote, zfRemote, etaPacket, zfPacket, ceqPacket, etaRAct, zfRAct, ceqRAct, getDz_Packet, getDz_RAct, dL_Packet, dL_RAct, dM_Entry, dM_Packet, getDz_Entry, dL_Entry, List.length_map, Int.toNat_natCast, Int.toNat_zero, Nat.sub_zero, ← List.map_take, ← List.map_drop, List.length_take, decL_sl, decM_cons, decM_nil, decM_append, take_map_snoc, dM_Entry, dM_Packet, dM_RAct])
    | (with_reducible refine And.intro ?_ ?_)
    | (subst hK)
  all_goals (try (intros; assumption))
  all_goals (try simp only [Bool.or_eq_true, Bool.and_eq_true, Bool.or_eq_false_iff, Bool.and_eq_false_iff, Bool.not_eq_true', Bool.not_eq_false', Bool.not_eq_true, Bool.not_eq_false, decide_eq_true_eq, decide_eq_false_iff_not, beq_iff_eq, bne_iff_ne, beq_eq_false_iff_ne, bne_eq_false_iff_eq, ne_eq, Int.not_lt, Int.not_le, D.b.injEq, D.i.injEq, D.s.injEq, D.agg.injEq, D.sl.injEq, true_and, and_true, List.cons.injEq, gt_iff_lt, ge_iff_le,  Bool.cond_true_left, Bool.cond_false_right, Bool.cond_true_right, Bool.cond_false_left, seq_iff, seq_dec, dec_f, dec_t, eqB_t, eqB_f] at *)
  all_goals (try (intros; trivial))
  all_goals (try (intros; omega))
  all_goals (try (rw [w64 (by omega) (by omega)]; first | done | omega))
  all_goals first
    | exact err_act hi.2.1 (by assumption)
    | exact hi.2.1
    | assumption
    | (rw [← hi.2.2, drop_getD zRAct (by omega), runGo, if_pos (by omega)]; done)
    | (rw [← hi.2.2, drop_getD zRAct (by omega), runGo, if_pos (by omega)]; rfl)
    | (have := hi.2.2; rw [drop_getD zRAct (by omega), runGo, if_neg (by omega)] at this; exact this)
    | (rw [← hi.2.2, List.drop_of_length_le (by omega)]; done)
    | (rw [← hi.2.2, List.drop_of_length_le (by omega)]; rfl)
    | (rw [← hi.2.2, List.drop_of_length_le (by omega)]; exact dles_refl _)
    | (rw [← hi.2.2, List.drop_of_length_le (by omega)]; show (p.1 : Int) = (l.length : Int); omega)
    | (rw [runR, if_pos (by omega)]; done)
    | (rw [runR, if_pos (by omega)]; rfl)
    | (rw [runR, if_neg (by omega), if_pos (by omega)]; done)
    | (rw [runR, if_neg (by omega), if_pos (by omega)]; rfl)
    | (rw [runR, if_neg (by omega), if_neg (by omega)]; done)
    | (rw [runR, if_neg (by omega), if_neg (by omega)]; rfl)

end
/- midrange/midrangeref36.Same -/
noncomputable def cfg17 : Cfg := ⟨Try.prog, 64, tab16, mvs, [], (fun _ => none)⟩
theorem cfg17_ti27 : cfg17.ti 27 = none := rfl
theorem cfg17_pins : cfg17.pins = [] := rfl
theorem cfg17_P : cfg17.P = Try.prog := rfl
theorem cfg17_N : cfg17.N = 64 := rfl
theorem cfg17_T27 : cfg17.T 27 = e27 := rfl
theorem cfg17_mv27 : cfg17.mv 27 = (fun _ => []) := rfl
section
attribute [local go_sem] cfg17_P cfg17_N cfg17_pins cfg17_ti27 cfg17_T27 e27 cfg17_mv27 sz3 ag3 zr3 zo3 zd3 by3 sl3 st3 bo3 pt3 sz4 ag4 zr4 zo4 zd4 by4 sl4 st4 bo4 pt4 sz9 ag9 zr9 zo9 zd9 by9 sl9 un9 st9 bo9 pt9 sz22 ag22 zr22 zo22 zd22 by22 el22 sl22 un22 st22 bo22 pt22 sz23 ag23 zr23 zo23 zd23 by23 el23 sl23 un23 st23 bo23 pt23 sz25 ag25 zr25 zd25 by25 sl25 st25 bo25 pt25 of25_0 fa25_0 of25_1 fa25_1 of25_2 fa25_2 of25_3 fa25_3 of25_4 fa25_4 of25_5 fa25_5 pl25 sz40 ag40 zr40 zd40 by40 sl40 st40 bo40 pt40 of40_0 fa40_0 of40_1 fa40_1 of40_2 fa40_2 of40_3 fa40_3 of40_4 fa40_4 pl40 ek40 sz42 ag42 zr42 zd42 by42 sl42 st42 bo42 pt42 of42_0 fa42_0 of42_1 fa42_1 of42_2 fa42_2 of42_3 fa42_3 pl42 ek42 sz66 ag66 zr66 zd66 by66 sl66 st66 bo66 pt66 of66_0 fa66_0 of66_1 fa66_1 pl66 ek66 
theorem con17 (hC : COk cfg17) (a : Remote) (b : Remote) (hp : a.source.length ≤ 1000000 ∧ a.target.length ≤ 1000000 ∧ a.wire.length ≤ 1000000) : Sem Try.prog 17 [.d (encRemote a), .d (encRemote b)] (.d (.b (decide (a = b)))) := by
  refine sem_of_awR (C := cfg17) (rs := [.tmp 4]) (fun _ => []) Try.func17 rfl rfl rfl rfl rfl rfl ?_
  simp only [enterSl, enterHp, inO, inO2, inO1, inOs, List.append_nil, List.nil_append, Nat.mul_zero, List.cons_append, Nat.zero_add, Nat.reduceAdd, Nat.reduceMul, encChange, encEntry, ceqChange, ceqEntry, etaChange, etaEntry, zfChange, zfEntry, decChange, decEntry, seq_dec, encRemote, decRemote, encPacket, decPacket, encRAct, decRAct, etaRemote, zfRemote, etaPacket, zfPacket, ceqPacket, etaRAct, zfRAct, ceqRAct, getDz_Packet, getDz_RAct, dL_Packet, dL_RAct, dM_Entry, dM_Packet, getDz_Entry, dL_Entry, List.length_map, Int.toNat_natCast, Int.toNat_zero, Nat.sub_zero, ← List.map_take, ← List.map_drop, List.length_take, decL_sl, decM_cons, decM_nil, decM_append, take_map_snoc, dM_Entry, dM_Packet, dM_RAct]
  repeat' first
    | (with_reducible refine thenS_n ?_)
    | (with_reducible refine inBlockS_n ?_)
    | (with_reducible refine AW.seq ?_)
    | (with_reducible refine AW.block ?_)
    | (with_reducible refine AW.runK hC ?_; intro K hK)
    | (with_reducible refine AW.drawK hC (by kernel_rfl) ?_; intro K hK)
    | ((first | (with_reducible refine erun_g ?_) | (with_reducible refine edraw_g ?_) | (with_reducible refine exitS_g ?_)); simp (maxSteps := 1000000) only [go_sem, ↓reduceIte, reduceCtorEq, Nat.reduceEqDiff, Nat.reduceLT, Nat.reduceLeDiff, Nat.reduceMul, Nat.reduceAdd, Nat.reduceSub, reduceDIte, Nat.reduceBEq, Nat.reduceBNe, encChange, encEntry, ceqChange, ceqEntry, etaChange, etaEntry, zfChange, zfEntry, decChange, decEntry, seq_dec, encRemote, decRemote, encPacket, decPacket, encRAct, decRAct, etaRemote, zfRemote, etaPacket, zfPacket, ceqPacket, etaRAct, zfRAct, ceqRAct, getDz_Packet, getDz_RAct, dL_Packet, dL_RAct, dM_Entry, dM_Packet, getDz_Entry, dL_Entry, List.length_map, Int.toNat_natCast, Int.toNat_zero, Nat.sub_zero, ← List.map_take, ← List.map_drop, List.length_take, decL_sl, decM_cons, decM_nil, decM_append, take_map_snoc, dM_Entry, dM_Packet, dM_RAct]; (try simp (disch := omega) only [w64, wu8]))
    | (with_reducible refine hCheck_g (by kernel_rfl) ?_)
    | ((first | (refine AW.cond rfl (fun h => ?_) (fun h => ?_)) | (refine AW.cond_ub rfl (fun h => ?_) ?_) | (refine AW.cond_nb rfl ?_ (fun h => ?_))) <;> (try simp only [Bool.or_eq_true, Bool.and_eq_true, Bool.or_eq_false_iff, Bool.and_eq_false_iff, Bool.not_eq_true', Bool.not_eq_false', Bool.not_eq_true, Bool.not_eq_false, decide_eq_true_eq, decide_eq_false_iff_not, beq_iff_eq, bne_iff_ne, beq_eq_false_iff_ne, bne_eq_false_iff_eq, ne_eq, Int.not_lt, Int.not_le, D.b.injEq, D.i.injEq, D.s.injEq, D.agg.injEq, D.sl.injEq, true_and, and_true, List.cons.injEq, gt_iff_lt, ge_iff_le,  Bool.cond_true_left, Bool.cond_false_right, Bool.cond_true_right, Bool.cond_false_left, seq_iff, seq_dec, dec_f, dec_t, eqB_t, eqB_f] at h) <;> (try (exfalso; first | omega | exact absurd h (by decide))))
    | (with_reducible refine AW.skip ?_)
    | (with_reducible refine AW.exit ?_)
    | (with_reducible refine AW.ret ?_)
    | (with_reducible refine thenS_r ?_)
    | (with_reducible refine thenS_e ?_)
    | (with_reducible refine inBlockS_r ?_)
    | (with_reducible refine inBlockS_e ?_)
    | (with_reducible refine inBlockS_e2 rfl ?_)
    | (with_reducible refine exitQ_r ?_)
    | (with_reducible refine exitQ_n ?_)
    | (refine AW.loopN 4 rfl (ι := Nat) (fun i => mkS [(2, V.ptr 32 0), (3, V.ptr 48 0), (5, V.d (.i .i64 (i : Int)))] ([(32, .live (.box 25 [.d (.b a.sync), .d (.sl 8 (a.source.map encEntry)), .d (.sl 8 (a.target.map encEntry)), .d (.i .i64 a.sent), .d (.i .i64 a.acked), .d (.sl 2 (a.wire.map encPacket))])), (48, .live (.box 25 [.d (.b b.sync), .d (.sl 8 (b.source.map encEntry)), .d (.sl 8 (b.target.map encEntry)), .d (.i .i64 b.sent), .d (.i .i64 b.acked), .d (.sl 2 (b.wire.map encPacket))]))])) (fun i => (i ≤ a.wire.length ∧ a.wire.length = b.wire.length ∧ a.wire.take i = b.wire.take i) ∧ (a.sync = b.sync ∧ a.sent = b.sent ∧ a.acked = b.acked)) (fun i => a.wire.length - i) (0) ?_ ?_ (fun i hi => ?_) <;> (try dsimp only) <;> (try dsimp only at hi))
    | (refine LoopNext.mk1 4 (i + 1) ?_ ?_ ?_ <;> (try dsimp only))
    | (refine sub_auto ?_; simp (maxSteps := 1000000) only [forall_eq, V.ptr.injEq, V.row.injEq, V.rp.injEq, V.mref.injEq, exists_eq_left', and_assoc, rhoV, rhoVs, rhoSl, rhoO, rhoHp, rhoDd, rho1, HS.obj?, forall_eq', slSub, hpSub, hpSub1, nfL, vs, vss, vds, vd1, os, aget, go_sem, ↓reduceIte, reduceCtorEq, Nat.reduceEqDiff, Nat.reduceLT, Nat.reduceLeDiff, Nat.reduceMul, Nat.reduceAdd, Nat.reduceSub, reduceDIte, Nat.reduceBEq, Nat.reduceBNe, encChange, encEntry, ceqChange, ceqEntry, etaChange, etaEntry, zfChange, zfEntry, decChange, decEntry, seq_dec, encRemote, decRemote, encPacket, decPacket, encRAct, decRAct, etaRemote, zfRemote, etaPacket, zfPacket, ceqPacket, etaRAct, zfRAct, ceqRAct, getDz_Packet, getDz_RAct, dL_Packet, dL_RAct, dM_Entry, dM_Packet, getDz_Entry, dL_Entry, List.length_map, Int.toNat_natCast, Int.toNat_zero, Nat.sub_zero, ← List.map_take, ← List.map_drop, List.length_take, decL_sl, decM_cons, decM_nil, decM_append, take_map_snoc, dM_Entry, dM_Packet, dM_RAct])
    | (with_reducible refine And.intro ?_ ?_)
    | (subst hK)
  all_goals (try (intros; assumption))
  all_goals (try simp only [Bool.or_eq_true, Bool.and_eq_true, Bool.or_eq_false_iff, Bool.and_eq_false_iff, Bool.not_eq_true', Bool.not_eq_false', Bool.not_eq_true, Bool.not_eq_false, decide_eq_true_eq, decide_eq_false_iff_not, beq_iff_eq, bne_iff_ne, beq_eq_false_iff_ne, bne_eq_false_iff_eq, ne_eq, Int.not_lt, Int.not_le, D.b.injEq, D.i.injEq, D.s.injEq, D.agg.injEq, D.sl.injEq, true_and, and_true, List.cons.injEq, gt_iff_lt, ge_iff_le,  Bool.cond_true_left, Bool.cond_false_right, Bool.cond_true_right, Bool.cond_false_left, seq_iff, seq_dec, dec_f, dec_t, eqB_t, eqB_f] at *)
  all_goals (try (intros; trivial))
  all_goals (try (intros; omega))
  all_goals (try (rw [w64 (by omega) (by omega)]; first | done | omega))
  all_goals first
    | rfl
    | (simp only [remote_ext]; (try simp only [decide_eq_true_eq, decide_eq_false_iff_not]); first | omega | (simp_all; done))
    | exact take_eq_step hi.1.2.2 (by omega) (by omega) (by assumption)
    | (intro e; subst e; exact h rfl)
    | (intro e; subst e; simp at h; done)
    | exact h.1.1.1
    | exact hi.2.1
    | (have := take_eq_end hi.1.2.2 (by omega) (by omega); simp only [remote_ext]; simp_all; done)

end
/- midrange/midrangelaw36.awake -/
noncomputable def cfg10 : Cfg := ⟨Try.prog, 59, tab17, mvs, [], (fun _ => none)⟩
theorem cfg10_ti13 : cfg10.ti 13 = none := rfl
theorem cfg10_pins : cfg10.pins = [] := rfl
theorem cfg10_P : cfg10.P = Try.prog := rfl
theorem cfg10_N : cfg10.N = 59 := rfl
theorem cfg10_T13 : cfg10.T 13 = e13 := rfl
theorem cfg10_mv13 : cfg10.mv 13 = (fun _ => []) := rfl
section
attribute [local go_sem] cfg10_P cfg10_N cfg10_pins cfg10_ti13 cfg10_T13 e13 cfg10_mv13 sz3 ag3 zr3 zo3 zd3 by3 sl3 st3 bo3 pt3 sz4 ag4 zr4 zo4 zd4 by4 sl4 st4 bo4 pt4 sz9 ag9 zr9 zo9 zd9 by9 sl9 un9 st9 bo9 pt9 sz22 ag22 zr22 zo22 zd22 by22 el22 sl22 un22 st22 bo22 pt22 sz23 ag23 zr23 zo23 zd23 by23 el23 sl23 un23 st23 bo23 pt23 sz25 ag25 zr25 zd25 by25 sl25 st25 bo25 pt25 of25_0 fa25_0 of25_1 fa25_1 of25_2 fa25_2 of25_3 fa25_3 of25_4 fa25_4 of25_5 fa25_5 pl25 sz26 ag26 zr26 zo26 zd26 by26 el26 sl26 un26 st26 bo26 pt26 sz30 ag30 zr30 zo30 zd30 by30 sl30 st30 bo30 pt30 sz40 ag40 zr40 zd40 by40 sl40 st40 bo40 pt40 of40_0 fa40_0 of40_1 fa40_1 of40_2 fa40_2 of40_3 fa40_3 of40_4 fa40_4 pl40 ek40 sz42 ag42 zr42 zd42 by42 sl42 st42 bo42 pt42 of42_0 fa42_0 of42_1 fa42_1 of42_2 fa42_2 of42_3 fa42_3 pl42 ek42 sz44 ag44 zr44 zd44 by44 sl44 st44 bo44 pt44 of44_0 fa44_0 of44_1 fa44_1 of44_2 fa44_2 pl44 ek44 sz66 ag66 zr66 zd66 by66 sl66 st66 bo66 pt66 of66_0 fa66_0 of66_1 fa66_1 pl66 ek66 
theorem con10 (hC : COk cfg10)  : Sem Try.prog 10 [] (.d (.b true)) := by
  refine sem_of_awR (C := cfg10) (rs := [.tmp 0]) (fun _ => []) Try.func10 rfl rfl rfl rfl rfl rfl ?_
  simp only [enterSl, enterHp, inO, inO2, inO1, inOs, List.append_nil, List.nil_append, Nat.mul_zero, List.cons_append, Nat.zero_add, Nat.reduceAdd, Nat.reduceMul, encChange, encEntry, ceqChange, ceqEntry, etaChange, etaEntry, zfChange, zfEntry, decChange, decEntry, seq_dec, encRemote, decRemote, encPacket, decPacket, encRAct, decRAct, etaRemote, zfRemote, etaPacket, zfPacket, ceqPacket, etaRAct, zfRAct, ceqRAct, getDz_Packet, getDz_RAct, dL_Packet, dL_RAct, dM_Entry, dM_Packet, getDz_Entry, dL_Entry, List.length_map, Int.toNat_natCast, Int.toNat_zero, Nat.sub_zero, ← List.map_take, ← List.map_drop, List.length_take, decL_sl, decM_cons, decM_nil, decM_append, take_map_snoc, dM_Entry, dM_Packet, dM_RAct, awRun, decL_nil, nc0, nc1, nc2, eqB, List.getD_cons_zero]
  repeat' first
    | (with_reducible refine thenS_n ?_)
    | (with_reducible refine inBlockS_n ?_)
    | (with_reducible refine AW.seq ?_)
    | (with_reducible refine AW.block ?_)
    | (with_reducible refine AW.runK hC ?_; intro K hK)
    | (with_reducible refine AW.drawK hC (by kernel_rfl) ?_; intro K hK)
    | ((first | (with_reducible refine erun_g ?_) | (with_reducible refine edraw_g ?_) | (with_reducible refine exitS_g ?_)); simp (maxSteps := 1000000) only [go_sem, ↓reduceIte, reduceCtorEq, Nat.reduceEqDiff, Nat.reduceLT, Nat.reduceLeDiff, Nat.reduceMul, Nat.reduceAdd, Nat.reduceSub, reduceDIte, Nat.reduceBEq, Nat.reduceBNe, encChange, encEntry, ceqChange, ceqEntry, etaChange, etaEntry, zfChange, zfEntry, decChange, decEntry, seq_dec, encRemote, decRemote, encPacket, decPacket, encRAct, decRAct, etaRemote, zfRemote, etaPacket, zfPacket, ceqPacket, etaRAct, zfRAct, ceqRAct, getDz_Packet, getDz_RAct, dL_Packet, dL_RAct, dM_Entry, dM_Packet, getDz_Entry, dL_Entry, List.length_map, Int.toNat_natCast, Int.toNat_zero, Nat.sub_zero, ← List.map_take, ← List.map_drop, List.length_take, decL_sl, decM_cons, decM_nil, decM_append, take_map_snoc, dM_Entry, dM_Packet, dM_RAct, awRun, decL_nil, nc0, nc1, nc2, eqB, List.getD_cons_zero]; (try simp (disch := omega) only [w64, wu8]))
    | (with_reducible refine hCheck_g (by kernel_rfl) ?_)
    | ((first | (refine AW.cond rfl (fun h => ?_) (fun h => ?_)) | (refine AW.cond_ub rfl (fun h => ?_) ?_) | (refine AW.cond_nb rfl ?_ (fun h => ?_))) <;> (try simp only [Bool.or_eq_true, Bool.and_eq_true, Bool.or_eq_false_iff, Bool.and_eq_false_iff, Bool.not_eq_true', Bool.not_eq_false', Bool.not_eq_true, Bool.not_eq_false, decide_eq_true_eq, decide_eq_false_iff_not, beq_iff_eq, bne_iff_ne, beq_eq_false_iff_ne, bne_eq_false_iff_eq, ne_eq, Int.not_lt, Int.not_le, D.b.injEq, D.i.injEq, D.s.injEq, D.agg.injEq, D.sl.injEq, true_and, and_true, List.cons.injEq, gt_iff_lt, ge_iff_le,  Bool.cond_true_left, Bool.cond_false_right, Bool.cond_true_right, Bool.cond_false_left, seq_iff, seq_dec, dec_f, dec_t, eqB_t, eqB_f] at h) <;> (try (exfalso; first | omega | exact absurd h (by decide))))
    | (with_reducible refine AW.skip ?_)
    | (with_reducible refine AW.exit ?_)
    | (with_reducible refine AW.ret ?_)
    | (with_reducible refine thenS_r ?_)
    | (with_reducible refine thenS_e ?_)
    | (with_reducible refine inBlockS_r ?_)
    | (with_reducible refine inBlockS_e ?_)
    | (with_reducible refine inBlockS_e2 rfl ?_)
    | (with_reducible refine exitQ_r ?_)
    | (with_reducible refine exitQ_n ?_)
    | (refine sub_auto ?_; simp (maxSteps := 1000000) only [forall_eq, V.ptr.injEq, V.row.injEq, V.rp.injEq, V.mref.injEq, exists_eq_left', and_assoc, rhoV, rhoVs, rhoSl, rhoO, rhoHp, rhoDd, rho1, HS.obj?, forall_eq', slSub, hpSub, hpSub1, nfL, vs, vss, vds, vd1, os, aget, go_sem, ↓reduceIte, reduceCtorEq, Nat.reduceEqDiff, Nat.reduceLT, Nat.reduceLeDiff, Nat.reduceMul, Nat.reduceAdd, Nat.reduceSub, reduceDIte, Nat.reduceBEq, Nat.reduceBNe, encChange, encEntry, ceqChange, ceqEntry, etaChange, etaEntry, zfChange, zfEntry, decChange, decEntry, seq_dec, encRemote, decRemote, encPacket, decPacket, encRAct, decRAct, etaRemote, zfRemote, etaPacket, zfPacket, ceqPacket, etaRAct, zfRAct, ceqRAct, getDz_Packet, getDz_RAct, dL_Packet, dL_RAct, dM_Entry, dM_Packet, getDz_Entry, dL_Entry, List.length_map, Int.toNat_natCast, Int.toNat_zero, Nat.sub_zero, ← List.map_take, ← List.map_drop, List.length_take, decL_sl, decM_cons, decM_nil, decM_append, take_map_snoc, dM_Entry, dM_Packet, dM_RAct, awRun, decL_nil, nc0, nc1, nc2, eqB, List.getD_cons_zero])
    | (with_reducible refine And.intro ?_ ?_)
    | (subst hK)
  all_goals (try (intros; assumption))
  all_goals (try simp only [Bool.or_eq_true, Bool.and_eq_true, Bool.or_eq_false_iff, Bool.and_eq_false_iff, Bool.not_eq_true', Bool.not_eq_false', Bool.not_eq_true, Bool.not_eq_false, decide_eq_true_eq, decide_eq_false_iff_not, beq_iff_eq, bne_iff_ne, beq_eq_false_iff_ne, bne_eq_false_iff_eq, ne_eq, Int.not_lt, Int.not_le, D.b.injEq, D.i.injEq, D.s.injEq, D.agg.injEq, D.sl.injEq, true_and, and_true, List.cons.injEq, gt_iff_lt, ge_iff_le,  Bool.cond_true_left, Bool.cond_false_right, Bool.cond_true_right, Bool.cond_false_left, seq_iff, seq_dec, dec_f, dec_t, eqB_t, eqB_f] at *)
  all_goals (try (intros; trivial))
  all_goals (try (intros; omega))
  all_goals (try (rw [w64 (by omega) (by omega)]; first | done | omega))
  all_goals first
    | (intro d hd; rcases hd with rfl | rfl | rfl | rfl | rfl | rfl | rfl <;> exact ⟨rfl, by simp [D.cells, D.one]⟩)

end
/- midrange/midrangelaw36.RemoteRuns -/
noncomputable def cfg3 : Cfg := ⟨Try.prog, 50, tab10, mvs, [], (fun _ => none)⟩
theorem cfg3_ti10 : cfg3.ti 10 = none := rfl
theorem cfg3_ti11 : cfg3.ti 11 = none := rfl
theorem cfg3_ti12 : cfg3.ti 12 = none := rfl
theorem cfg3_ti13 : cfg3.ti 13 = none := rfl
theorem cfg3_ti14 : cfg3.ti 14 = none := rfl
theorem cfg3_ti15 : cfg3.ti 15 = none := rfl
theorem cfg3_ti16 : cfg3.ti 16 = none := rfl
theorem cfg3_ti17 : cfg3.ti 17 = none := rfl
theorem cfg3_pins : cfg3.pins = [] := rfl
theorem cfg3_P : cfg3.P = Try.prog := rfl
theorem cfg3_N : cfg3.N = 50 := rfl
theorem cfg3_T10 : cfg3.T 10 = e10 := rfl
theorem cfg3_mv10 : cfg3.mv 10 = (fun _ => []) := rfl
theorem cfg3_T11 : cfg3.T 11 = e11 := rfl
theorem cfg3_mv11 : cfg3.mv 11 = (fun _ => []) := rfl
theorem cfg3_T12 : cfg3.T 12 = e12 := rfl
theorem cfg3_mv12 : cfg3.mv 12 = (fun _ => []) := rfl
theorem cfg3_T13 : cfg3.T 13 = e13 := rfl
theorem cfg3_mv13 : cfg3.mv 13 = (fun _ => []) := rfl
theorem cfg3_T14 : cfg3.T 14 = e14d := rfl
theorem cfg3_mv14 : cfg3.mv 14 = (fun _ => []) := rfl
theorem cfg3_T15 : cfg3.T 15 = e15 := rfl
theorem cfg3_mv15 : cfg3.mv 15 = (fun _ => []) := rfl
theorem cfg3_T16 : cfg3.T 16 = e16 := rfl
theorem cfg3_mv16 : cfg3.mv 16 = (fun _ => []) := rfl
theorem cfg3_T17 : cfg3.T 17 = e17 := rfl
theorem cfg3_mv17 : cfg3.mv 17 = (fun _ => []) := rfl
section
attribute [local go_sem] cfg3_P cfg3_N cfg3_pins cfg3_ti10 cfg3_ti11 cfg3_ti12 cfg3_ti13 cfg3_ti14 cfg3_ti15 cfg3_ti16 cfg3_ti17 cfg3_T10 e10 cfg3_mv10 cfg3_T11 e11 cfg3_mv11 cfg3_T12 e12 cfg3_mv12 cfg3_T13 e13 cfg3_mv13 cfg3_T14 e14d cfg3_mv14 cfg3_T15 e15 cfg3_mv15 cfg3_T16 e16 cfg3_mv16 cfg3_T17 e17 cfg3_mv17 sz3 ag3 zr3 zo3 zd3 by3 sl3 st3 bo3 pt3 sz4 ag4 zr4 zo4 zd4 by4 sl4 st4 bo4 pt4 sz9 ag9 zr9 zo9 zd9 by9 sl9 un9 st9 bo9 pt9 sz22 ag22 zr22 zo22 zd22 by22 el22 sl22 un22 st22 bo22 pt22 sz23 ag23 zr23 zo23 zd23 by23 el23 sl23 un23 st23 bo23 pt23 sz25 ag25 zr25 zd25 by25 sl25 st25 bo25 pt25 of25_0 fa25_0 of25_1 fa25_1 of25_2 fa25_2 of25_3 fa25_3 of25_4 fa25_4 of25_5 fa25_5 pl25 sz26 ag26 zr26 zo26 zd26 by26 el26 sl26 un26 st26 bo26 pt26 sz40 ag40 zr40 zd40 by40 sl40 st40 bo40 pt40 of40_0 fa40_0 of40_1 fa40_1 of40_2 fa40_2 of40_3 fa40_3 of40_4 fa40_4 pl40 ek40 sz42 ag42 zr42 zd42 by42 sl42 st42 bo42 pt42 of42_0 fa42_0 of42_1 fa42_1 of42_2 fa42_2 of42_3 fa42_3 pl42 ek42 sz44 ag44 zr44 zd44 by44 sl44 st44 bo44 pt44 of44_0 fa44_0 of44_1 fa44_1 of44_2 fa44_2 pl44 ek44 sz66 ag66 zr66 zd66 by66 sl66 st66 bo66 pt66 of66_0 fa66_0 of66_1 fa66_1 pl66 ek66 
theorem con3 (hC : COk cfg3) (x : Remote) (l : List RAct) : Sem Try.prog 3 [.d (encRemote x), .d (.sl 10 (l.map encRAct))] (.d (.b true)) := by
  refine sem_of_awR (C := cfg3) (rs := [.tmp 4]) (fun _ => []) Try.func3 rfl rfl rfl rfl rfl rfl ?_
  simp only [enterSl, enterHp, inO, inO2, inO1, inOs, List.append_nil, List.nil_append, Nat.mul_zero, List.cons_append, Nat.zero_add, Nat.reduceAdd, Nat.reduceMul, encChange, encEntry, ceqChange, ceqEntry, etaChange, etaEntry, zfChange, zfEntry, decChange, decEntry, seq_dec, encRemote, decRemote, encPacket, decPacket, encRAct, decRAct, etaRemote, zfRemote, etaPacket, zfPacket, ceqPacket, etaRAct, zfRAct, ceqRAct, getDz_Packet, getDz_RAct, dL_Packet, dL_RAct, dM_Entry, dM_Packet, getDz_Entry, dL_Entry, List.length_map, Int.toNat_natCast, Int.toNat_zero, Nat.sub_zero, ← List.map_take, ← List.map_drop, List.length_take, decL_sl, decM_cons, decM_nil, decM_append, take_map_snoc, dM_Entry, dM_Packet, dM_RAct]
  repeat' first
    | (with_reducible refine thenS_n ?_)
    | (with_reducible refine inBlockS_n ?_)
    | (with_reducible refine AW.seq ?_)
    | (with_reducible refine AW.block ?_)
    | (with_reducible refine AW.runK hC ?_; intro K hK)
    | (with_reducible refine AW.drawK hC (by kernel_rfl) ?_; intro K hK)
    | ((first | (with_reducible refine erun_g ?_) | (with_reducible refine edraw_g ?_) | (with_reducible refine exitS_g ?_)); simp (maxSteps := 1000000) only [go_sem, ↓reduceIte, reduceCtorEq, Nat.reduceEqDiff, Nat.reduceLT, Nat.reduceLeDiff, Nat.reduceMul, Nat.reduceAdd, Nat.reduceSub, reduceDIte, Nat.reduceBEq, Nat.reduceBNe, encChange, encEntry, ceqChange, ceqEntry, etaChange, etaEntry, zfChange, zfEntry, decChange, decEntry, seq_dec, encRemote, decRemote, encPacket, decPacket, encRAct, decRAct, etaRemote, zfRemote, etaPacket, zfPacket, ceqPacket, etaRAct, zfRAct, ceqRAct, getDz_Packet, getDz_RAct, dL_Packet, dL_RAct, dM_Entry, dM_Packet, getDz_Entry, dL_Entry, List.length_map, Int.toNat_natCast, Int.toNat_zero, Nat.sub_zero, ← List.map_take, ← List.map_drop, List.length_take, decL_sl, decM_cons, decM_nil, decM_append, take_map_snoc, dM_Entry, dM_Packet, dM_RAct]; (try simp (disch := omega) only [w64, wu8]))
    | (with_reducible refine hCheck_g (by kernel_rfl) ?_)
    | ((first | (refine AW.cond rfl (fun h => ?_) (fun h => ?_)) | (refine AW.cond_ub rfl (fun h => ?_) ?_) | (refine AW.cond_nb rfl ?_ (fun h => ?_))) <;> (try simp only [Bool.or_eq_true, Bool.and_eq_true, Bool.or_eq_false_iff, Bool.and_eq_false_iff, Bool.not_eq_true', Bool.not_eq_false', Bool.not_eq_true, Bool.not_eq_false, decide_eq_true_eq, decide_eq_false_iff_not, beq_iff_eq, bne_iff_ne, beq_eq_false_iff_ne, bne_eq_false_iff_eq, ne_eq, Int.not_lt, Int.not_le, D.b.injEq, D.i.injEq, D.s.injEq, D.agg.injEq, D.sl.injEq, true_and, and_true, List.cons.injEq, gt_iff_lt, ge_iff_le,  Bool.cond_true_left, Bool.cond_false_right, Bool.cond_true_right, Bool.cond_false_left, seq_iff, seq_dec, dec_f, dec_t, eqB_t, eqB_f] at h) <;> (try (exfalso; first | omega | exact absurd h (by decide))))
    | (with_reducible refine AW.skip ?_)
    | (with_reducible refine AW.exit ?_)
    | (with_reducible refine AW.ret ?_)
    | (with_reducible refine thenS_r ?_)
    | (with_reducible refine thenS_e ?_)
    | (with_reducible refine inBlockS_r ?_)
    | (with_reducible refine inBlockS_e ?_)
    | (with_reducible refine inBlockS_e2 rfl ?_)
    | (with_reducible refine exitQ_r ?_)
    | (with_reducible refine exitQ_n ?_)
    | (refine sub_auto ?_; simp (maxSteps := 1000000) only [forall_eq, V.ptr.injEq, V.row.injEq, V.rp.injEq, V.mref.injEq, exists_eq_left', and_assoc, rhoV, rhoVs, rhoSl, rhoO, rhoHp, rhoDd, rho1, HS.obj?, forall_eq', slSub, hpSub, hpSub1, nfL, vs, vss, vds, vd1, os, aget, go_sem, ↓reduceIte, reduceCtorEq, Nat.reduceEqDiff, Nat.reduceLT, Nat.reduceLeDiff, Nat.reduceMul, Nat.reduceAdd, Nat.reduceSub, reduceDIte, Nat.reduceBEq, Nat.reduceBNe, encChange, encEntry, ceqChange, ceqEntry, etaChange, etaEntry, zfChange, zfEntry, decChange, decEntry, seq_dec, encRemote, decRemote, encPacket, decPacket, encRAct, decRAct, etaRemote, zfRemote, etaPacket, zfPacket, ceqPacket, etaRAct, zfRAct, ceqRAct, getDz_Packet, getDz_RAct, dL_Packet, dL_RAct, dM_Entry, dM_Packet, getDz_Entry, dL_Entry, List.length_map, Int.toNat_natCast, Int.toNat_zero, Nat.sub_zero, ← List.map_take, ← List.map_drop, List.length_take, decL_sl, decM_cons, decM_nil, decM_append, take_map_snoc, dM_Entry, dM_Packet, dM_RAct])
    | (with_reducible refine And.intro ?_ ?_)
    | (subst hK)
  all_goals (try (intros; assumption))
  all_goals (try simp only [Bool.or_eq_true, Bool.and_eq_true, Bool.or_eq_false_iff, Bool.and_eq_false_iff, Bool.not_eq_true', Bool.not_eq_false', Bool.not_eq_true, Bool.not_eq_false, decide_eq_true_eq, decide_eq_false_iff_not, beq_iff_eq, bne_iff_ne, beq_eq_false_iff_ne, bne_eq_false_iff_eq, ne_eq, Int.not_lt, Int.not_le, D.b.injEq, D.i.injEq, D.s.injEq, D.agg.injEq, D.sl.injEq, true_and, and_true, List.cons.injEq, gt_iff_lt, ge_iff_le,  Bool.cond_true_left, Bool.cond_false_right, Bool.cond_true_right, Bool.cond_false_left, seq_iff, seq_dec, dec_f, dec_t, eqB_t, eqB_f] at *)
  all_goals (try (intros; trivial))
  all_goals (try (intros; omega))
  all_goals (try (rw [w64 (by omega) (by omega)]; first | done | omega))
  all_goals first
    | exact (few36_PR h.1).1
    | exact (few36_PR h.1).2.1
    | exact (few36_PR h.1).2.2
    | exact light_len h.2
    | exact (runR_PR x l).1
    | exact (runR_PR x l).2.1
    | exact (runR_PR x l).2.2

end
/- midrange/midrangelaw36.RemoteActs -/
noncomputable def cfg4 : Cfg := ⟨Try.prog, 40, tab3, mvs, [], (fun _ => none)⟩
theorem cfg4_ti10 : cfg4.ti 10 = none := rfl
theorem cfg4_ti11 : cfg4.ti 11 = none := rfl
theorem cfg4_ti14 : cfg4.ti 14 = none := rfl
theorem cfg4_ti17 : cfg4.ti 17 = none := rfl
theorem cfg4_ti18 : cfg4.ti 18 = none := rfl
theorem cfg4_ti19 : cfg4.ti 19 = none := rfl
theorem cfg4_ti20 : cfg4.ti 20 = none := rfl
theorem cfg4_pins : cfg4.pins = [] := rfl
theorem cfg4_P : cfg4.P = Try.prog := rfl
theorem cfg4_N : cfg4.N = 40 := rfl
theorem cfg4_T10 : cfg4.T 10 = e10 := rfl
theorem cfg4_mv10 : cfg4.mv 10 = (fun _ => []) := rfl
theorem cfg4_T11 : cfg4.T 11 = e11 := rfl
theorem cfg4_mv11 : cfg4.mv 11 = (fun _ => []) := rfl
theorem cfg4_T14 : cfg4.T 14 = e14d := rfl
theorem cfg4_mv14 : cfg4.mv 14 = (fun _ => []) := rfl
theorem cfg4_T17 : cfg4.T 17 = e17 := rfl
theorem cfg4_mv17 : cfg4.mv 17 = (fun _ => []) := rfl
theorem cfg4_T18 : cfg4.T 18 = e18 := rfl
theorem cfg4_mv18 : cfg4.mv 18 = (fun _ => []) := rfl
theorem cfg4_T19 : cfg4.T 19 = e19 := rfl
theorem cfg4_mv19 : cfg4.mv 19 = (fun _ => []) := rfl
theorem cfg4_T20 : cfg4.T 20 = e20 := rfl
theorem cfg4_mv20 : cfg4.mv 20 = (fun _ => []) := rfl
section
attribute [local go_sem] cfg4_P cfg4_N cfg4_pins cfg4_ti10 cfg4_ti11 cfg4_ti14 cfg4_ti17 cfg4_ti18 cfg4_ti19 cfg4_ti20 cfg4_T10 e10 cfg4_mv10 cfg4_T11 e11 cfg4_mv11 cfg4_T14 e14d cfg4_mv14 cfg4_T17 e17 cfg4_mv17 cfg4_T18 e18 cfg4_mv18 cfg4_T19 e19 cfg4_mv19 cfg4_T20 e20 cfg4_mv20 sz3 ag3 zr3 zo3 zd3 by3 sl3 st3 bo3 pt3 sz4 ag4 zr4 zo4 zd4 by4 sl4 st4 bo4 pt4 sz9 ag9 zr9 zo9 zd9 by9 sl9 un9 st9 bo9 pt9 sz22 ag22 zr22 zo22 zd22 by22 el22 sl22 un22 st22 bo22 pt22 sz23 ag23 zr23 zo23 zd23 by23 el23 sl23 un23 st23 bo23 pt23 sz25 ag25 zr25 zd25 by25 sl25 st25 bo25 pt25 of25_0 fa25_0 of25_1 fa25_1 of25_2 fa25_2 of25_3 fa25_3 of25_4 fa25_4 of25_5 fa25_5 pl25 sz40 ag40 zr40 zd40 by40 sl40 st40 bo40 pt40 of40_0 fa40_0 of40_1 fa40_1 of40_2 fa40_2 of40_3 fa40_3 of40_4 fa40_4 pl40 ek40 sz42 ag42 zr42 zd42 by42 sl42 st42 bo42 pt42 of42_0 fa42_0 of42_1 fa42_1 of42_2 fa42_2 of42_3 fa42_3 pl42 ek42 sz44 ag44 zr44 zd44 by44 sl44 st44 bo44 pt44 of44_0 fa44_0 of44_1 fa44_1 of44_2 fa44_2 pl44 ek44 sz66 ag66 zr66 zd66 by66 sl66 st66 bo66 pt66 of66_0 fa66_0 of66_1 fa66_1 pl66 ek66 
theorem con4 (hC : COk cfg4) (x : Remote) (a : RAct) : Sem Try.prog 4 [.d (encRemote x), .d (encRAct a)] (.d (.b true)) := by
  refine sem_of_awR (C := cfg4) (rs := [.tmp 4]) (fun _ => []) Try.func4 rfl rfl rfl rfl rfl rfl ?_
  simp only [enterSl, enterHp, inO, inO2, inO1, inOs, List.append_nil, List.nil_append, Nat.mul_zero, List.cons_append, Nat.zero_add, Nat.reduceAdd, Nat.reduceMul, encChange, encEntry, ceqChange, ceqEntry, etaChange, etaEntry, zfChange, zfEntry, decChange, decEntry, seq_dec, encRemote, decRemote, encPacket, decPacket, encRAct, decRAct, etaRemote, zfRemote, etaPacket, zfPacket, ceqPacket, etaRAct, zfRAct, ceqRAct, getDz_Packet, getDz_RAct, dL_Packet, dL_RAct, dM_Entry, dM_Packet, getDz_Entry, dL_Entry, List.length_map, Int.toNat_natCast, Int.toNat_zero, Nat.sub_zero, ← List.map_take, ← List.map_drop, List.length_take, decL_sl, decM_cons, decM_nil, decM_append, take_map_snoc, dM_Entry, dM_Packet, dM_RAct]
  repeat' first
    | (with_reducible refine thenS_n ?_)
    | (with_reducible refine inBlockS_n ?_)
    | (with_reducible refine AW.seq ?_)
    | (with_reducible refine AW.block ?_)
    | (with_reducible refine AW.runK hC ?_; intro K hK)
    | (with_reducible refine AW.drawK hC (by kernel_rfl) ?_; intro K hK)
    | ((first | (with_reducible refine erun_g ?_) | (with_reducible refine edraw_g ?_) | (with_reducible refine exitS_g ?_)); simp (maxSteps := 1000000) only [go_sem, ↓reduceIte, reduceCtorEq, Nat.reduceEqDiff, Nat.reduceLT, Nat.reduceLeDiff, Nat.reduceMul, Nat.reduceAdd, Nat.reduceSub, reduceDIte, Nat.reduceBEq, Nat.reduceBNe, encChange, encEntry, ceqChange, ceqEntry, etaChange, etaEntry, zfChange, zfEntry, decChange, decEntry, seq_dec, encRemote, decRemote, encPacket, decPacket, encRAct, decRAct, etaRemote, zfRemote, etaPacket, zfPacket, ceqPacket, etaRAct, zfRAct, ceqRAct, getDz_Packet, getDz_RAct, dL_Packet, dL_RAct, dM_Entry, dM_Packet, getDz_Entry, dL_Entry, List.length_map, Int.toNat_natCast, Int.toNat_zero, Nat.sub_zero, ← List.map_take, ← List.map_drop, List.length_take, decL_sl, decM_cons, decM_nil, decM_append, take_map_snoc, dM_Entry, dM_Packet, dM_RAct]; (try simp (disch := omega) only [w64, wu8]))
    | (with_reducible refine hCheck_g (by kernel_rfl) ?_)
    | ((first | (refine AW.cond rfl (fun h => ?_) (fun h => ?_)) | (refine AW.cond_ub rfl (fun h => ?_) ?_) | (refine AW.cond_nb rfl ?_ (fun h => ?_))) <;> (try simp only [Bool.or_eq_true, Bool.and_eq_true, Bool.or_eq_false_iff, Bool.and_eq_false_iff, Bool.not_eq_true', Bool.not_eq_false', Bool.not_eq_true, Bool.not_eq_false, decide_eq_true_eq, decide_eq_false_iff_not, beq_iff_eq, bne_iff_ne, beq_eq_false_iff_ne, bne_eq_false_iff_eq, ne_eq, Int.not_lt, Int.not_le, D.b.injEq, D.i.injEq, D.s.injEq, D.agg.injEq, D.sl.injEq, true_and, and_true, List.cons.injEq, gt_iff_lt, ge_iff_le,  Bool.cond_true_left, Bool.cond_false_right, Bool.cond_true_right, Bool.cond_false_left, seq_iff, seq_dec, dec_f, dec_t, eqB_t, eqB_f] at h) <;> (try (exfalso; first | omega | exact absurd h (by decide))))
    | (with_reducible refine AW.skip ?_)
    | (with_reducible refine AW.exit ?_)
    | (with_reducible refine AW.ret ?_)
    | (with_reducible refine thenS_r ?_)
    | (with_reducible refine thenS_e ?_)
    | (with_reducible refine inBlockS_r ?_)
    | (with_reducible refine inBlockS_e ?_)
    | (with_reducible refine inBlockS_e2 rfl ?_)
    | (with_reducible refine exitQ_r ?_)
    | (with_reducible refine exitQ_n ?_)
    | (refine sub_auto ?_; simp (maxSteps := 1000000) only [forall_eq, V.ptr.injEq, V.row.injEq, V.rp.injEq, V.mref.injEq, exists_eq_left', and_assoc, rhoV, rhoVs, rhoSl, rhoO, rhoHp, rhoDd, rho1, HS.obj?, forall_eq', slSub, hpSub, hpSub1, nfL, vs, vss, vds, vd1, os, aget, go_sem, ↓reduceIte, reduceCtorEq, Nat.reduceEqDiff, Nat.reduceLT, Nat.reduceLeDiff, Nat.reduceMul, Nat.reduceAdd, Nat.reduceSub, reduceDIte, Nat.reduceBEq, Nat.reduceBNe, encChange, encEntry, ceqChange, ceqEntry, etaChange, etaEntry, zfChange, zfEntry, decChange, decEntry, seq_dec, encRemote, decRemote, encPacket, decPacket, encRAct, decRAct, etaRemote, zfRemote, etaPacket, zfPacket, ceqPacket, etaRAct, zfRAct, ceqRAct, getDz_Packet, getDz_RAct, dL_Packet, dL_RAct, dM_Entry, dM_Packet, getDz_Entry, dL_Entry, List.length_map, Int.toNat_natCast, Int.toNat_zero, Nat.sub_zero, ← List.map_take, ← List.map_drop, List.length_take, decL_sl, decM_cons, decM_nil, decM_append, take_map_snoc, dM_Entry, dM_Packet, dM_RAct])
    | (with_reducible refine And.intro ?_ ?_)
    | (subst hK)
  all_goals (try (intros; assumption))
  all_goals (try simp only [Bool.or_eq_true, Bool.and_eq_true, Bool.or_eq_false_iff, Bool.and_eq_false_iff, Bool.not_eq_true', Bool.not_eq_false', Bool.not_eq_true, Bool.not_eq_false, decide_eq_true_eq, decide_eq_false_iff_not, beq_iff_eq, bne_iff_ne, beq_eq_false_iff_ne, bne_eq_false_iff_eq, ne_eq, Int.not_lt, Int.not_le, D.b.injEq, D.i.injEq, D.s.injEq, D.agg.injEq, D.sl.injEq, true_and, and_true, List.cons.injEq, gt_iff_lt, ge_iff_le,  Bool.cond_true_left, Bool.cond_false_right, Bool.cond_true_right, Bool.cond_false_left, seq_iff, seq_dec, dec_f, dec_t, eqB_t, eqB_f] at *)
  all_goals (try (intros; trivial))
  all_goals (try (intros; omega))
  all_goals (try (rw [w64 (by omega) (by omega)]; first | done | omega))
  all_goals first
    | exact (few36_PR h.1).1
    | exact (few36_PR h.1).2.1
    | exact (few36_PR h.1).2.2
    | exact (actC_PR x a).1
    | exact (actC_PR x a).2.1
    | exact (actC_PR x a).2.2

end
/- midrange/remote.Delivered -/
noncomputable def cfg22 : Cfg := ⟨Try.prog, 26, tab4, mvs, [], (fun _ => none)⟩
theorem cfg22_ti23 : cfg22.ti 23 = none := rfl
theorem cfg22_ti44 : cfg22.ti 44 = none := rfl
theorem cfg22_pins : cfg22.pins = [] := rfl
theorem cfg22_P : cfg22.P = Try.prog := rfl
theorem cfg22_N : cfg22.N = 26 := rfl
theorem cfg22_T23 : cfg22.T 23 = e23 := rfl
theorem cfg22_mv23 : cfg22.mv 23 = (fun _ => []) := rfl
theorem cfg22_T44 : cfg22.T 44 = e44 := rfl
theorem cfg22_mv44 : cfg22.mv 44 = (fun _ => []) := rfl
section
attribute [local go_sem] cfg22_P cfg22_N cfg22_pins cfg22_ti23 cfg22_ti44 cfg22_T23 e23 cfg22_mv23 cfg22_T44 e44 cfg22_mv44 sz3 ag3 zr3 zo3 zd3 by3 sl3 st3 bo3 pt3 sz4 ag4 zr4 zo4 zd4 by4 sl4 st4 bo4 pt4 sz9 ag9 zr9 zo9 zd9 by9 sl9 un9 st9 bo9 pt9 sz22 ag22 zr22 zo22 zd22 by22 el22 sl22 un22 st22 bo22 pt22 sz23 ag23 zr23 zo23 zd23 by23 el23 sl23 un23 st23 bo23 pt23 sz25 ag25 zr25 zd25 by25 sl25 st25 bo25 pt25 of25_0 fa25_0 of25_1 fa25_1 of25_2 fa25_2 of25_3 fa25_3 of25_4 fa25_4 of25_5 fa25_5 pl25 sz30 ag30 zr30 zo30 zd30 by30 sl30 st30 bo30 pt30 sz40 ag40 zr40 zd40 by40 sl40 st40 bo40 pt40 of40_0 fa40_0 of40_1 fa40_1 of40_2 fa40_2 of40_3 fa40_3 of40_4 fa40_4 pl40 ek40 sz42 ag42 zr42 zd42 by42 sl42 st42 bo42 pt42 of42_0 fa42_0 of42_1 fa42_1 of42_2 fa42_2 of42_3 fa42_3 pl42 ek42 sz66 ag66 zr66 zd66 by66 sl66 st66 bo66 pt66 of66_0 fa66_0 of66_1 fa66_1 pl66 ek66 
theorem con22 (hC : COk cfg22) (x : Remote) (hp : x.source.length ≤ 1000000 ∧ x.target.length ≤ 1000000 ∧ x.wire.length ≤ 1000000) : Sem Try.prog 22 [.d (encRemote x)] (.tup [.d (encRemote (deliveredR x).1), .d (.i .i64 (deliveredR x).2)]) := by
  refine sem_of_awR (C := cfg22) (rs := [.cell 2 25, .tmp 3]) (fun _ => []) Try.func22 rfl rfl rfl rfl rfl rfl ?_
  simp only [enterSl, enterHp, inO, inO2, inO1, inOs, List.append_nil, List.nil_append, Nat.mul_zero, List.cons_append, Nat.zero_add, Nat.reduceAdd, Nat.reduceMul, encChange, encEntry, ceqChange, ceqEntry, etaChange, etaEntry, zfChange, zfEntry, decChange, decEntry, seq_dec, encRemote, decRemote, encPacket, decPacket, encRAct, decRAct, etaRemote, zfRemote, etaPacket, zfPacket, ceqPacket, etaRAct, zfRAct, ceqRAct, getDz_Packet, getDz_RAct, dL_Packet, dL_RAct, dM_Entry, dM_Packet, getDz_Entry, dL_Entry, List.length_map, Int.toNat_natCast, Int.toNat_zero, Nat.sub_zero, ← List.map_take, ← List.map_drop, List.length_take, decL_sl, decM_cons, decM_nil, decM_append, take_map_snoc, dM_Entry, dM_Packet, dM_RAct]
  repeat' first
    | (with_reducible refine thenS_n ?_)
    | (with_reducible refine inBlockS_n ?_)
    | (with_reducible refine AW.seq ?_)
    | (with_reducible refine AW.block ?_)
    | (with_reducible refine AW.runK hC ?_; intro K hK)
    | (with_reducible refine AW.drawK hC (by kernel_rfl) ?_; intro K hK)
    | ((first | (with_reducible refine erun_g ?_) | (with_reducible refine edraw_g ?_) | (with_reducible refine exitS_g ?_)); simp (maxSteps := 1000000) only [go_sem, ↓reduceIte, reduceCtorEq, Nat.reduceEqDiff, Nat.reduceLT, Nat.reduceLeDiff, Nat.reduceMul, Nat.reduceAdd, Nat.reduceSub, reduceDIte, Nat.reduceBEq, Nat.reduceBNe, encChange, encEntry, ceqChange, ceqEntry, etaChange, etaEntry, zfChange, zfEntry, decChange, decEntry, seq_dec, encRemote, decRemote, encPacket, decPacket, encRAct, decRAct, etaRemote, zfRemote, etaPacket, zfPacket, ceqPacket, etaRAct, zfRAct, ceqRAct, getDz_Packet, getDz_RAct, dL_Packet, dL_RAct, dM_Entry, dM_Packet, getDz_Entry, dL_Entry, List.length_map, Int.toNat_natCast, Int.toNat_zero, Nat.sub_zero, ← List.map_take, ← List.map_drop, List.length_take, decL_sl, decM_cons, decM_nil, decM_append, take_map_snoc, dM_Entry, dM_Packet, dM_RAct]; (try simp (disch := omega) only [w64, wu8]))
    | (with_reducible refine hCheck_g (by kernel_rfl) ?_)
    | ((first | (refine AW.cond rfl (fun h => ?_) (fun h => ?_)) | (refine AW.cond_ub rfl (fun h => ?_) ?_) | (refine AW.cond_nb rfl ?_ (fun h => ?_))) <;> (try simp only [Bool.or_eq_true, Bool.and_eq_true, Bool.or_eq_false_iff, Bool.and_eq_false_iff, Bool.not_eq_true', Bool.not_eq_false', Bool.not_eq_true, Bool.not_eq_false, decide_eq_true_eq, decide_eq_false_iff_not, beq_iff_eq, bne_iff_ne, beq_eq_false_iff_ne, bne_eq_false_iff_eq, ne_eq, Int.not_lt, Int.not_le, D.b.injEq, D.i.injEq, D.s.injEq, D.agg.injEq, D.sl.injEq, true_and, and_true, List.cons.injEq, gt_iff_lt, ge_iff_le,  Bool.cond_true_left, Bool.cond_false_right, Bool.cond_true_right, Bool.cond_false_left, seq_iff, seq_dec, dec_f, dec_t, eqB_t, eqB_f] at h) <;> (try (exfalso; first | omega | exact absurd h (by decide))))
    | (with_reducible refine AW.skip ?_)
    | (with_reducible refine AW.exit ?_)
    | (with_reducible refine AW.ret ?_)
    | (with_reducible refine thenS_r ?_)
    | (with_reducible refine thenS_e ?_)
    | (with_reducible refine inBlockS_r ?_)
    | (with_reducible refine inBlockS_e ?_)
    | (with_reducible refine inBlockS_e2 rfl ?_)
    | (with_reducible refine exitQ_r ?_)
    | (with_reducible refine exitQ_n ?_)
    | (refine sub_auto ?_; simp (maxSteps := 1000000) only [forall_eq, V.ptr.injEq, V.row.injEq, V.rp.injEq, V.mref.injEq, exists_eq_left', and_assoc, rhoV, rhoVs, rhoSl, rhoO, rhoHp, rhoDd, rho1, HS.obj?, forall_eq', slSub, hpSub, hpSub1, nfL, vs, vss, vds, vd1, os, aget, go_sem, ↓reduceIte, reduceCtorEq, Nat.reduceEqDiff, Nat.reduceLT, Nat.reduceLeDiff, Nat.reduceMul, Nat.reduceAdd, Nat.reduceSub, reduceDIte, Nat.reduceBEq, Nat.reduceBNe, encChange, encEntry, ceqChange, ceqEntry, etaChange, etaEntry, zfChange, zfEntry, decChange, decEntry, seq_dec, encRemote, decRemote, encPacket, decPacket, encRAct, decRAct, etaRemote, zfRemote, etaPacket, zfPacket, ceqPacket, etaRAct, zfRAct, ceqRAct, getDz_Packet, getDz_RAct, dL_Packet, dL_RAct, dM_Entry, dM_Packet, getDz_Entry, dL_Entry, List.length_map, Int.toNat_natCast, Int.toNat_zero, Nat.sub_zero, ← List.map_take, ← List.map_drop, List.length_take, decL_sl, decM_cons, decM_nil, decM_append, take_map_snoc, dM_Entry, dM_Packet, dM_RAct])
    | (with_reducible refine And.intro ?_ ?_)
    | (subst hK)
  all_goals (try (intros; assumption))
  all_goals (try simp only [Bool.or_eq_true, Bool.and_eq_true, Bool.or_eq_false_iff, Bool.and_eq_false_iff, Bool.not_eq_true', Bool.not_eq_false', Bool.not_eq_true, Bool.not_eq_false, decide_eq_true_eq, decide_eq_false_iff_not, beq_iff_eq, bne_iff_ne, beq_eq_false_iff_ne, bne_eq_false_iff_eq, ne_eq, Int.not_lt, Int.not_le, D.b.injEq, D.i.injEq, D.s.injEq, D.agg.injEq, D.sl.injEq, true_and, and_true, List.cons.injEq, gt_iff_lt, ge_iff_le,  Bool.cond_true_left, Bool.cond_false_right, Bool.cond_true_right, Bool.cond_false_left, seq_iff, seq_dec, dec_f, dec_t, eqB_t, eqB_f] at *)
  all_goals (try (intros; trivial))
  all_goals (try (intros; omega))
  all_goals (try (rw [w64 (by omega) (by omega)]; first | done | omega))
  all_goals first
    | (rw [delivered_err (by assumption)]; done)
    | (rw [delivered_err (by assumption)]; rfl)
    | (rw [delivered_ok (by assumption)]; done)
    | (rw [delivered_ok (by assumption)]; rfl)
    | (rw [delivered_ok (by assumption)]; exact dles_refl _)

end
/- midrange/midrangelaw36.RemoteArrives -/
noncomputable def cfg5 : Cfg := ⟨Try.prog, 108, tab22, mvs, [], (fun _ => none)⟩
theorem cfg5_ti10 : cfg5.ti 10 = none := rfl
theorem cfg5_ti11 : cfg5.ti 11 = none := rfl
theorem cfg5_ti14 : cfg5.ti 14 = none := rfl
theorem cfg5_ti17 : cfg5.ti 17 = none := rfl
theorem cfg5_ti19 : cfg5.ti 19 = none := rfl
theorem cfg5_ti21 : cfg5.ti 21 = none := rfl
theorem cfg5_ti22 : cfg5.ti 22 = none := rfl
theorem cfg5_pins : cfg5.pins = [] := rfl
theorem cfg5_P : cfg5.P = Try.prog := rfl
theorem cfg5_N : cfg5.N = 108 := rfl
theorem cfg5_T10 : cfg5.T 10 = e10 := rfl
theorem cfg5_mv10 : cfg5.mv 10 = (fun _ => []) := rfl
theorem cfg5_T11 : cfg5.T 11 = e11 := rfl
theorem cfg5_mv11 : cfg5.mv 11 = (fun _ => []) := rfl
theorem cfg5_T14 : cfg5.T 14 = e14d := rfl
theorem cfg5_mv14 : cfg5.mv 14 = (fun _ => []) := rfl
theorem cfg5_T17 : cfg5.T 17 = e17 := rfl
theorem cfg5_mv17 : cfg5.mv 17 = (fun _ => []) := rfl
theorem cfg5_T19 : cfg5.T 19 = e19 := rfl
theorem cfg5_mv19 : cfg5.mv 19 = (fun _ => []) := rfl
theorem cfg5_T21 : cfg5.T 21 = e21 := rfl
theorem cfg5_mv21 : cfg5.mv 21 = (fun _ => []) := rfl
theorem cfg5_T22 : cfg5.T 22 = e22 := rfl
theorem cfg5_mv22 : cfg5.mv 22 = (fun _ => []) := rfl
section
attribute [local go_sem] cfg5_P cfg5_N cfg5_pins cfg5_ti10 cfg5_ti11 cfg5_ti14 cfg5_ti17 cfg5_ti19 cfg5_ti21 cfg5_ti22 cfg5_T10 e10 cfg5_mv10 cfg5_T11 e11 cfg5_mv11 cfg5_T14 e14d cfg5_mv14 cfg5_T17 e17 cfg5_mv17 cfg5_T19 e19 cfg5_mv19 cfg5_T21 e21 cfg5_mv21 cfg5_T22 e22 cfg5_mv22 sz3 ag3 zr3 zo3 zd3 by3 sl3 st3 bo3 pt3 sz4 ag4 zr4 zo4 zd4 by4 sl4 st4 bo4 pt4 sz9 ag9 zr9 zo9 zd9 by9 sl9 un9 st9 bo9 pt9 sz22 ag22 zr22 zo22 zd22 by22 el22 sl22 un22 st22 bo22 pt22 sz23 ag23 zr23 zo23 zd23 by23 el23 sl23 un23 st23 bo23 pt23 sz25 ag25 zr25 zd25 by25 sl25 st25 bo25 pt25 of25_0 fa25_0 of25_1 fa25_1 of25_2 fa25_2 of25_3 fa25_3 of25_4 fa25_4 of25_5 fa25_5 pl25 sz26 ag26 zr26 zo26 zd26 by26 el26 sl26 un26 st26 bo26 pt26 sz30 ag30 zr30 zo30 zd30 by30 sl30 st30 bo30 pt30 sz40 ag40 zr40 zd40 by40 sl40 st40 bo40 pt40 of40_0 fa40_0 of40_1 fa40_1 of40_2 fa40_2 of40_3 fa40_3 of40_4 fa40_4 pl40 ek40 sz42 ag42 zr42 zd42 by42 sl42 st42 bo42 pt42 of42_0 fa42_0 of42_1 fa42_1 of42_2 fa42_2 of42_3 fa42_3 pl42 ek42 sz44 ag44 zr44 zd44 by44 sl44 st44 bo44 pt44 of44_0 fa44_0 of44_1 fa44_1 of44_2 fa44_2 pl44 ek44 sz66 ag66 zr66 zd66 by66 sl66 st66 bo66 pt66 of66_0 fa66_0 of66_1 fa66_1 pl66 ek66 
theorem con5 (hC : COk cfg5) (x : Remote) : Sem Try.prog 5 [.d (encRemote x)] (.d (.b true)) := by
  refine sem_of_awR (C := cfg5) (rs := [.tmp 2]) (fun _ => []) Try.func5 rfl rfl rfl rfl rfl rfl ?_
  simp only [enterSl, enterHp, inO, inO2, inO1, inOs, List.append_nil, List.nil_append, Nat.mul_zero, List.cons_append, Nat.zero_add, Nat.reduceAdd, Nat.reduceMul, encChange, encEntry, ceqChange, ceqEntry, etaChange, etaEntry, zfChange, zfEntry, decChange, decEntry, seq_dec, encRemote, decRemote, encPacket, decPacket, encRAct, decRAct, etaRemote, zfRemote, etaPacket, zfPacket, ceqPacket, etaRAct, zfRAct, ceqRAct, getDz_Packet, getDz_RAct, dL_Packet, dL_RAct, dM_Entry, dM_Packet, getDz_Entry, dL_Entry, List.length_map, Int.toNat_natCast, Int.toNat_zero, Nat.sub_zero, ← List.map_take, ← List.map_drop, List.length_take, decL_sl, decM_cons, decM_nil, decM_append, take_map_snoc, dM_Entry, dM_Packet, dM_RAct, len_vanN]
  repeat' first
    | (with_reducible refine thenS_n ?_)
    | (with_reducible refine inBlockS_n ?_)
    | (with_reducible refine AW.seq ?_)
    | (with_reducible refine AW.block ?_)
    | (refine AW.atR 24 rfl ?_; have hA := fun a => actC_of hi.2.1 a; have hG := remoteErr_good hi.2.1; have hP : p.2.source.length ≤ 1000000 ∧ p.2.target.length ≤ 1000000 ∧ p.2.wire.length ≤ 1000000 := (by have h1 := hG.s; have h2 := hG.t; have h3 := hG.w; omega); clear hG)
    | (with_reducible refine AWh.runK hC ?_; intro K hK)
    | (with_reducible refine AWh.drawK hC (by kernel_rfl) ?_; intro K hK)
    | (with_reducible refine AW.runK hC ?_; intro K hK)
    | (with_reducible refine AW.drawK hC (by kernel_rfl) ?_; intro K hK)
    | ((first | (with_reducible refine erun_g ?_) | (with_reducible refine edraw_g ?_) | (with_reducible refine exitS_g ?_)); (first | (simp (maxSteps := 1000000) only [go_sem, ↓reduceIte, reduceCtorEq, Nat.reduceEqDiff, Nat.reduceLT, Nat.reduceLeDiff, Nat.reduceMul, Nat.reduceAdd, Nat.reduceSub, reduceDIte, Nat.reduceBEq, Nat.reduceBNe, encChange, encEntry, ceqChange, ceqEntry, etaChange, etaEntry, zfChange, zfEntry, decChange, decEntry, seq_dec, encRemote, decRemote, encPacket, decPacket, encRAct, decRAct, etaRemote, zfRemote, etaPacket, zfPacket, ceqPacket, etaRAct, zfRAct, ceqRAct, getDz_Packet, getDz_RAct, dL_Packet, dL_RAct, dM_Entry, dM_Packet, getDz_Entry, dL_Entry, List.length_map, Int.toNat_natCast, Int.toNat_zero, Nat.sub_zero, ← List.map_take, ← List.map_drop, List.length_take, decL_sl, decM_cons, decM_nil, decM_append, take_map_snoc, dM_Entry, dM_Packet, dM_RAct, len_vanN, hA]) | (simp (maxSteps := 1000000) only [go_sem, ↓reduceIte, reduceCtorEq, Nat.reduceEqDiff, Nat.reduceLT, Nat.reduceLeDiff, Nat.reduceMul, Nat.reduceAdd, Nat.reduceSub, reduceDIte, Nat.reduceBEq, Nat.reduceBNe, encChange, encEntry, ceqChange, ceqEntry, etaChange, etaEntry, zfChange, zfEntry, decChange, decEntry, seq_dec, encRemote, decRemote, encPacket, decPacket, encRAct, decRAct, etaRemote, zfRemote, etaPacket, zfPacket, ceqPacket, etaRAct, zfRAct, ceqRAct, getDz_Packet, getDz_RAct, dL_Packet, dL_RAct, dM_Entry, dM_Packet, getDz_Entry, dL_Entry, List.length_map, Int.toNat_natCast, Int.toNat_zero, Nat.sub_zero, ← List.map_take, ← List.map_drop, List.length_take, decL_sl, decM_cons, decM_nil, decM_append, take_map_snoc, dM_Entry, dM_Packet, dM_RAct, len_vanN])); (try simp (disch := omega) only [w64, wu8]))
    | (with_reducible refine hCheck_g (by kernel_rfl) ?_)
    | ((first | (refine AW.cond rfl (fun h => ?_) (fun h => ?_)) | (refine AW.cond_ub rfl (fun h => ?_) ?_) | (refine AW.cond_nb rfl ?_ (fun h => ?_))) <;> (try simp only [Bool.or_eq_true, Bool.and_eq_true, Bool.or_eq_false_iff, Bool.and_eq_false_iff, Bool.not_eq_true', Bool.not_eq_false', Bool.not_eq_true, Bool.not_eq_false, decide_eq_true_eq, decide_eq_false_iff_not, beq_iff_eq, bne_iff_ne, beq_eq_false_iff_ne, bne_eq_false_iff_eq, ne_eq, Int.not_lt, Int.not_le, D.b.injEq, D.i.injEq, D.s.injEq, D.agg.injEq, D.sl.injEq, true_and, and_true, List.cons.injEq, gt_iff_lt, ge_iff_le,  Bool.cond_true_left, Bool.cond_false_right, Bool.cond_true_right, Bool.cond_false_left, seq_iff, seq_dec, dec_f, dec_t, eqB_t, eqB_f] at h) <;> (try (exfalso; first | omega | exact absurd h (by decide))))
    | (with_reducible refine AW.skip ?_)
    | (with_reducible refine AW.exit ?_)
    | (with_reducible refine AW.ret ?_)
    | (with_reducible refine thenS_r ?_)
    | (with_reducible refine thenS_e ?_)
    | (with_reducible refine inBlockS_r ?_)
    | (with_reducible refine inBlockS_e ?_)
    | (with_reducible refine inBlockS_e2 rfl ?_)
    | (with_reducible refine exitQ_r ?_)
    | (with_reducible refine exitQ_n ?_)
    | (refine AW.loopN 11 rfl (ι := Nat) (fun i => mkS [(1, V.ptr 16 0), (3, V.ptr 48 0), (5, V.ptr 80 0), (6, V.row 96 10 0 i), (7, V.d (.i .i64 (i : Int)))] ([(16, .live (.box 25 [.d (.b x.sync), .d (.sl 8 (x.source.map encEntry)), .d (.sl 8 (x.target.map encEntry)), .d (.i .i64 x.sent), .d (.i .i64 x.acked), .d (.sl 2 (x.wire.map encPacket))])), (48, .live (.box 25 [.d (.b (deliveredR x).1.sync), .d (.sl 8 ((deliveredR x).1.source.map encEntry)), .d (.sl 8 ((deliveredR x).1.target.map encEntry)), .d (.i .i64 (deliveredR x).1.sent), .d (.i .i64 (deliveredR x).1.acked), .d (.sl 2 ((deliveredR x).1.wire.map encPacket))])), (80, .live (.box 25 [.d (.b x.sync), .d (.sl 8 (x.source.map encEntry)), .d (.sl 8 (x.target.map encEntry)), .d (.i .i64 x.sent), .d (.i .i64 x.acked), .d (.sl 2 (x.wire.map encPacket))])), (96, .live (.row 44 10 false ((vanN i).map encRAct)))])) (fun i => i ≤ x.wire.length ∧ (few36 x = true ∧ remoteErr x = 0)) (fun i => x.wire.length - i) (0) ?_ ?_ (fun i hi => ?_) <;> (try dsimp only) <;> (try dsimp only at hi))
    | (refine LoopNext.mk1 11 (i + 1) ?_ ?_ ?_ <;> (try dsimp only))
    | (refine AW.loopN 17 rfl (ι := Nat) (fun i => mkS [(1, V.ptr 16 0), (3, V.ptr 48 0), (5, V.ptr 80 0), (6, V.row 96 10 0 (arrL x i).length), (8, V.d (.i .i64 (x.acked + (i : Int))))] ([(16, .live (.box 25 [.d (.b x.sync), .d (.sl 8 (x.source.map encEntry)), .d (.sl 8 (x.target.map encEntry)), .d (.i .i64 x.sent), .d (.i .i64 x.acked), .d (.sl 2 (x.wire.map encPacket))])), (48, .live (.box 25 [.d (.b (deliveredR x).1.sync), .d (.sl 8 ((deliveredR x).1.source.map encEntry)), .d (.sl 8 ((deliveredR x).1.target.map encEntry)), .d (.i .i64 (deliveredR x).1.sent), .d (.i .i64 (deliveredR x).1.acked), .d (.sl 2 ((deliveredR x).1.wire.map encPacket))])), (80, .live (.box 25 [.d (.b x.sync), .d (.sl 8 (x.source.map encEntry)), .d (.sl 8 (x.target.map encEntry)), .d (.i .i64 x.sent), .d (.i .i64 x.acked), .d (.sl 2 (x.wire.map encPacket))])), (96, .live (.row 44 10 false ((arrL x i).map encRAct)))])) (fun i => x.acked + (i : Int) ≤ x.source.length ∧ (few36 x = true ∧ remoteErr x = 0) ∧ (arrL x i).length ≤ 13 + 3 * i) (fun i => x.source.length + 1 - i) (0) ?_ ?_ (fun i hi => ?_) <;> (try dsimp only) <;> (try dsimp only at hi))
    | (refine LoopNext.mk1 17 (i + 1) ?_ ?_ ?_ <;> (try dsimp only))
    | (refine AW.loopN 21 rfl (ι := Nat × Remote) (fun p => mkS [(1, V.ptr 16 0), (3, V.ptr 48 0), (5, V.ptr 80 0), (6, V.row 96 10 0 (arrL x (x.source.length - x.acked).toNat).length), (9, V.d (.i .i64 (p.1 : Int)))] ([(16, .live (.box 25 [.d (.b x.sync), .d (.sl 8 (x.source.map encEntry)), .d (.sl 8 (x.target.map encEntry)), .d (.i .i64 x.sent), .d (.i .i64 x.acked), .d (.sl 2 (x.wire.map encPacket))])), (48, .live (.box 25 [.d (.b (deliveredR x).1.sync), .d (.sl 8 ((deliveredR x).1.source.map encEntry)), .d (.sl 8 ((deliveredR x).1.target.map encEntry)), .d (.i .i64 (deliveredR x).1.sent), .d (.i .i64 (deliveredR x).1.acked), .d (.sl 2 ((deliveredR x).1.wire.map encPacket))])), (80, .live (.box 25 [.d (.b p.2.sync), .d (.sl 8 (p.2.source.map encEntry)), .d (.sl 8 (p.2.target.map encEntry)), .d (.i .i64 p.2.sent), .d (.i .i64 p.2.acked), .d (.sl 2 (p.2.wire.map encPacket))])), (96, .live (.row 44 10 false ((arrL x (x.source.length - x.acked).toNat).map encRAct)))])) (fun p => p.1 ≤ (arrL x (x.source.length - x.acked).toNat).length ∧ remoteErr p.2 = 0 ∧ (few36 x = true ∧ remoteErr x = 0) ∧ arrInv x p.1 p.2) (fun p => (arrL x (x.source.length - x.acked).toNat).length - p.1) ((0, x)) ?_ ?_ (fun p hi => ?_) <;> (try dsimp only) <;> (try dsimp only at hi))
    | (refine LoopNext.mk1 21 ((p.1 + 1, (actR p.2 ((arrL x (x.source.length - x.acked).toNat).getD p.1 zRAct)).1)) ?_ ?_ ?_ <;> (try dsimp only))
    | (refine sub_auto ?_; simp (maxSteps := 1000000) only [forall_eq, V.ptr.injEq, V.row.injEq, V.rp.injEq, V.mref.injEq, exists_eq_left', and_assoc, rhoV, rhoVs, rhoSl, rhoO, rhoHp, rhoDd, rho1, HS.obj?, forall_eq', slSub, hpSub, hpSub1, nfL, vs, vss, vds, vd1, os, aget, go_sem, ↓reduceIte, reduceCtorEq, Nat.reduceEqDiff, Nat.reduceLT, Nat.reduceLeDiff, Nat.reduceMul, Nat.reduceAdd, Nat.reduceSub, reduceDIte, Nat.reduceBEq, Nat.reduceBNe, encChange, encEntry, ceqChange, ceqEntry, etaChange, etaEntry, zfChange, zfEntry, decChange, decEntry, seq_dec, encRemote, decRemote, encPacket, decPacket, encRAct, decRAct, etaRemote, zfRemote, etaPacket, zfPacket, ceqPacket, etaRAct, zfRAct, ceqRAct, getDz_Packet, getDz_RAct, dL_Packet, dL_RAct, dM_Entry, dM_Packet, getDz_Entry, dL_Entry, List.length_map, Int.toNat_natCast, Int.toNat_zero, Nat.sub_zero, ← List.map_take, ← List.map_drop, List.length_take, decL_sl, decM_cons, decM_nil, decM_append, take_map_snoc, dM_Entry, dM_Packet, dM_RAct, len_vanN])
    | (with_reducible refine And.intro ?_ ?_)
    | (subst hK)
  all_goals (try (intros; assumption))
  all_goals (try simp only [Bool.or_eq_true, Bool.and_eq_true, Bool.or_eq_false_iff, Bool.and_eq_false_iff, Bool.not_eq_true', Bool.not_eq_false', Bool.not_eq_true, Bool.not_eq_false, decide_eq_true_eq, decide_eq_false_iff_not, beq_iff_eq, bne_iff_ne, beq_eq_false_iff_ne, bne_eq_false_iff_eq, ne_eq, Int.not_lt, Int.not_le, D.b.injEq, D.i.injEq, D.s.injEq, D.agg.injEq, D.sl.injEq, true_and, and_true, List.cons.injEq, gt_iff_lt, ge_iff_le,  Bool.cond_true_left, Bool.cond_false_right, Bool.cond_true_right, Bool.cond_false_left, seq_iff, seq_dec, dec_f, dec_t, eqB_t, eqB_f] at *)
  all_goals (try (intros; trivial))
  all_goals (try (intros; omega))
  all_goals (try (rw [w64 (by omega) (by omega)]; first | done | omega))
  all_goals (try (have F := arr_facts (x := x) (by first | assumption | exact hi.2.1 | exact hi.2.2.1)))
  all_goals (try (have R := arr_right (x := x) (by first | assumption | exact hi.2.1 | exact hi.2.2.1)))
  all_goals (try (have FA : few36 x = true ∧ remoteErr x = 0 := by first | assumption | exact hi.2.1 | exact hi.2.2.1))
  all_goals clear hC
  all_goals first
    | assumption
    | exact FA.1
    | exact (right_PR hi.2.1).1
    | exact (right_PR hi.2.1).2.1
    | exact (right_PR hi.2.1).2.2
    | exact fun h => few36_PR h
    | exact hi.2.1
    | exact hi.2.2.1
    | omega
    | exact arr_start R
    | (rw [w64 (by omega) (by omega)]; omega)
    | (simp only [len_arrL]; (repeat' split) <;> omega)
    | (simp only [show (x.source.length - x.acked).toNat = i by omega]; done)
    | (simp only [show (x.source.length - x.acked).toNat = i by omega]; exact dles_refl _)
    | (rw [encZ0 (by omega), show x.wire.length = i by omega]; exact dles_refl _)
    | (rw [encZ1 (by omega), show x.wire.length = i by omega]; exact dles_refl _)
    | (rw [encV]; exact dles_refl _)
    | (rw [encT]; exact dles_refl _)
    | (intro d hd; subst hd; exact ⟨rfl, by simp [D.cells, D.one]⟩)
    | (intro d hd; rcases hd with rfl | rfl | rfl <;> exact ⟨rfl, by simp [D.cells, D.one]⟩)
    | (exfalso; rename_i hq; rw [delivered_ok R.err] at hq; exact hq rfl)
    | (exfalso; rw [delivered_ok R.err] at h; exact h rfl)
    | exact (arr_round R FA.1 F.2.2.2.2.1 hi.2.1 hi.2.2.2 (by omega) (by omega)).2.2.1
    | exact (arr_round R FA.1 F.2.2.2.2.1 hi.2.1 hi.2.2.2 (by omega) (by omega)).2.2.2
    | (exfalso; have RR := arr_round R FA.1 F.2.2.2.2.1 hi.2.1 hi.2.2.2 (by omega) (by omega); rcases h with h | h; exact h RR.1; rw [RR.2.1] at h; cases h)
    | (symm; rw [decide_eq_true_eq, delivered_ok R.err]; exact arr_end R F.2.2.2.2.1 hi.2.2.2 (by omega))
    | (symm; rw [decide_eq_true_eq, delivered_ok R.err]; exact arr_break R F.2.2.2.2.1 hi.2.2.2 (by omega) (by omega))

end
/- midrange/remote.Acts$1 -/
noncomputable def cfg47 : Cfg := ⟨Try.prog, 18, tab5, mvs, [32], (fun _ => none)⟩
theorem cfg47_ti37 : cfg47.ti 37 = none := rfl
theorem cfg47_pins : cfg47.pins = [32] := rfl
theorem cfg47_P : cfg47.P = Try.prog := rfl
theorem cfg47_N : cfg47.N = 18 := rfl
theorem cfg47_T37 : cfg47.T 37 = e37 := rfl
theorem cfg47_mv37 : cfg47.mv 37 = (fun _ => []) := rfl
section
attribute [local go_sem] cfg47_P cfg47_N cfg47_pins cfg47_ti37 cfg47_T37 e37 cfg47_mv37 sz3 ag3 zr3 zo3 zd3 by3 sl3 st3 bo3 pt3 sz4 ag4 zr4 zo4 zd4 by4 sl4 st4 bo4 pt4 sz9 ag9 zr9 zo9 zd9 by9 sl9 un9 st9 bo9 pt9 sz22 ag22 zr22 zo22 zd22 by22 el22 sl22 un22 st22 bo22 pt22 sz23 ag23 zr23 zo23 zd23 by23 el23 sl23 un23 st23 bo23 pt23 sz25 ag25 zr25 zd25 by25 sl25 st25 bo25 pt25 of25_0 fa25_0 of25_1 fa25_1 of25_2 fa25_2 of25_3 fa25_3 of25_4 fa25_4 of25_5 fa25_5 pl25 sz26 ag26 zr26 zo26 zd26 by26 el26 sl26 un26 st26 bo26 pt26 sz30 ag30 zr30 zo30 zd30 by30 sl30 st30 bo30 pt30 sz40 ag40 zr40 zd40 by40 sl40 st40 bo40 pt40 of40_0 fa40_0 of40_1 fa40_1 of40_2 fa40_2 of40_3 fa40_3 of40_4 fa40_4 pl40 ek40 sz42 ag42 zr42 zd42 by42 sl42 st42 bo42 pt42 of42_0 fa42_0 of42_1 fa42_1 of42_2 fa42_2 of42_3 fa42_3 pl42 ek42 sz44 ag44 zr44 zd44 by44 sl44 st44 bo44 pt44 of44_0 fa44_0 of44_1 fa44_1 of44_2 fa44_2 pl44 ek44 sz66 ag66 zr66 zd66 by66 sl66 st66 bo66 pt66 of66_0 fa66_0 of66_1 fa66_1 pl66 ek66 
theorem con47 (hC : COk cfg47) (a : RAct) (x : Remote) (l : List RAct) (hp : goodR x ∧ l.length ≤ 1000) : Sem Try.prog 47 [.d (encRAct a), .d (.cp (encRemote x).body), .bx 26 [.own 44 10 (l.map encRAct)]] (.tup [.bx 26 [.own 44 10 ((tryOne x a l).map encRAct)]]) := by
  refine sem_of_awR (C := cfg47) (rs := []) (fun j => if j = 0 then [(4242, 26, 0), (0, 44, 10)] else []) Try.func47 rfl rfl rfl rfl rfl rfl ?_
  simp only [enterSl, enterHp, inO, inO2, inO1, inOs, List.append_nil, List.nil_append, Nat.mul_zero, List.cons_append, Nat.zero_add, Nat.reduceAdd, Nat.reduceMul, encChange, encEntry, ceqChange, ceqEntry, etaChange, etaEntry, zfChange, zfEntry, decChange, decEntry, seq_dec, encRemote, decRemote, encPacket, decPacket, encRAct, decRAct, etaRemote, zfRemote, etaPacket, zfPacket, ceqPacket, etaRAct, zfRAct, ceqRAct, getDz_Packet, getDz_RAct, dL_Packet, dL_RAct, dM_Entry, dM_Packet, getDz_Entry, dL_Entry, List.length_map, Int.toNat_natCast, Int.toNat_zero, Nat.sub_zero, ← List.map_take, ← List.map_drop, List.length_take, decL_sl, decM_cons, decM_nil, decM_append, take_map_snoc, dM_Entry, dM_Packet, dM_RAct, D.body, flatA_RAct]
  repeat' first
    | (with_reducible refine thenS_n ?_)
    | (with_reducible refine inBlockS_n ?_)
    | (with_reducible refine AW.seq ?_)
    | (with_reducible refine AW.block ?_)
    | (with_reducible refine AW.runK hC ?_; intro K hK)
    | (with_reducible refine AW.drawK hC (by kernel_rfl) ?_; intro K hK)
    | ((first | (with_reducible refine erun_g ?_) | (with_reducible refine edraw_g ?_) | (with_reducible refine exitS_g ?_)); simp (maxSteps := 1000000) only [go_sem, ↓reduceIte, reduceCtorEq, Nat.reduceEqDiff, Nat.reduceLT, Nat.reduceLeDiff, Nat.reduceMul, Nat.reduceAdd, Nat.reduceSub, reduceDIte, Nat.reduceBEq, Nat.reduceBNe, encChange, encEntry, ceqChange, ceqEntry, etaChange, etaEntry, zfChange, zfEntry, decChange, decEntry, seq_dec, encRemote, decRemote, encPacket, decPacket, encRAct, decRAct, etaRemote, zfRemote, etaPacket, zfPacket, ceqPacket, etaRAct, zfRAct, ceqRAct, getDz_Packet, getDz_RAct, dL_Packet, dL_RAct, dM_Entry, dM_Packet, getDz_Entry, dL_Entry, List.length_map, Int.toNat_natCast, Int.toNat_zero, Nat.sub_zero, ← List.map_take, ← List.map_drop, List.length_take, decL_sl, decM_cons, decM_nil, decM_append, take_map_snoc, dM_Entry, dM_Packet, dM_RAct, D.body, flatA_RAct]; (try simp (disch := omega) only [w64, wu8]))
    | (with_reducible refine hCheck_g (by kernel_rfl) ?_)
    | ((first | (refine AW.cond rfl (fun h => ?_) (fun h => ?_)) | (refine AW.cond_ub rfl (fun h => ?_) ?_) | (refine AW.cond_nb rfl ?_ (fun h => ?_))) <;> (try simp only [Bool.or_eq_true, Bool.and_eq_true, Bool.or_eq_false_iff, Bool.and_eq_false_iff, Bool.not_eq_true', Bool.not_eq_false', Bool.not_eq_true, Bool.not_eq_false, decide_eq_true_eq, decide_eq_false_iff_not, beq_iff_eq, bne_iff_ne, beq_eq_false_iff_ne, bne_eq_false_iff_eq, ne_eq, Int.not_lt, Int.not_le, D.b.injEq, D.i.injEq, D.s.injEq, D.agg.injEq, D.sl.injEq, true_and, and_true, List.cons.injEq, gt_iff_lt, ge_iff_le,  Bool.cond_true_left, Bool.cond_false_right, Bool.cond_true_right, Bool.cond_false_left, seq_iff, seq_dec, dec_f, dec_t, eqB_t, eqB_f] at h) <;> (try (exfalso; first | omega | exact absurd h (by decide))))
    | (with_reducible refine AW.skip ?_)
    | (with_reducible refine AW.exit ?_)
    | (with_reducible refine AW.ret ?_)
    | (with_reducible refine thenS_r ?_)
    | (with_reducible refine thenS_e ?_)
    | (with_reducible refine inBlockS_r ?_)
    | (with_reducible refine inBlockS_e ?_)
    | (with_reducible refine inBlockS_e2 rfl ?_)
    | (with_reducible refine exitQ_r ?_)
    | (with_reducible refine exitQ_n ?_)
    | (refine sub_auto ?_; simp (maxSteps := 1000000) only [forall_eq, V.ptr.injEq, V.row.injEq, V.rp.injEq, V.mref.injEq, exists_eq_left', and_assoc, rhoV, rhoVs, rhoSl, rhoO, rhoHp, rhoDd, rho1, HS.obj?, forall_eq', slSub, hpSub, hpSub1, nfL, vs, vss, vds, vd1, os, aget, go_sem, ↓reduceIte, reduceCtorEq, Nat.reduceEqDiff, Nat.reduceLT, Nat.reduceLeDiff, Nat.reduceMul, Nat.reduceAdd, Nat.reduceSub, reduceDIte, Nat.reduceBEq, Nat.reduceBNe, encChange, encEntry, ceqChange, ceqEntry, etaChange, etaEntry, zfChange, zfEntry, decChange, decEntry, seq_dec, encRemote, decRemote, encPacket, decPacket, encRAct, decRAct, etaRemote, zfRemote, etaPacket, zfPacket, ceqPacket, etaRAct, zfRAct, ceqRAct, getDz_Packet, getDz_RAct, dL_Packet, dL_RAct, dM_Entry, dM_Packet, getDz_Entry, dL_Entry, List.length_map, Int.toNat_natCast, Int.toNat_zero, Nat.sub_zero, ← List.map_take, ← List.map_drop, List.length_take, decL_sl, decM_cons, decM_nil, decM_append, take_map_snoc, dM_Entry, dM_Packet, dM_RAct, D.body, flatA_RAct])
    | (with_reducible refine And.intro ?_ ?_)
    | (subst hK)
  all_goals (try (intros; assumption))
  all_goals (try simp only [Bool.or_eq_true, Bool.and_eq_true, Bool.or_eq_false_iff, Bool.and_eq_false_iff, Bool.not_eq_true', Bool.not_eq_false', Bool.not_eq_true, Bool.not_eq_false, decide_eq_true_eq, decide_eq_false_iff_not, beq_iff_eq, bne_iff_ne, beq_eq_false_iff_ne, bne_eq_false_iff_eq, ne_eq, Int.not_lt, Int.not_le, D.b.injEq, D.i.injEq, D.s.injEq, D.agg.injEq, D.sl.injEq, true_and, and_true, List.cons.injEq, gt_iff_lt, ge_iff_le,  Bool.cond_true_left, Bool.cond_false_right, Bool.cond_true_right, Bool.cond_false_left, seq_iff, seq_dec, dec_f, dec_t, eqB_t, eqB_f] at *)
  all_goals (try (intros; trivial))
  all_goals (try (intros; omega))
  all_goals (try (rw [w64 (by omega) (by omega)]; first | done | omega))
  all_goals clear hC
  all_goals first
    | exact hp.1
    | omega
    | (intro d hd; subst hd; exact ⟨rfl, by simp [D.cells, D.one]⟩)
    | (rw [tryOne, if_pos (by assumption), List.map_append]; exact dles_refl _)
    | (rw [tryOne, if_neg (by assumption)]; exact dles_refl _)

end
end Go.Ev
