/- Tools and contracts under the laws of this seat: Dvc14, Dvc11, Dvc18, Dvc12, Dvc61, Dvc53, Dvc54, Dvc52, Dvc37, Dvc36d. -/
import Derived.Test.YtblpebplbdoneaaE03
set_option linter.unusedVariables false
set_option linter.unusedSimpArgs false
namespace Go.Ev
open Go.Proofs Ty
set_option maxRecDepth 10000
set_option maxHeartbeats 4000000
set_option linter.unusedSimpArgs false
set_option linter.unusedVariables false
attribute [local go_sem] erun_nil erun_cons edraw_eq edrun_nil edrun_cons e1_n e1_g guardSlot_eq lkAll_tmp lkAll_nil lkAll_const lkAll_func val_tmp val_const val_func aget getBox_mk getRow_mk liveRow_mk hp_mk eU_move_n eU_assign_n eU_move eU_assign eU_pick eU_alloc eU_box eU_load eU_store eU_nilCheck eU_binOp eU_unOp eU_fieldAddr eU_field eU_indexAddr eU_index eU_build eU_buildSlice eU_slice eU_extract eU_makeFunc eU_builtin eU_call eU_callv V.cells V.one D.one D.cells newObj nm HS.isFree HS.isLive andOk_some andOk_none List.map_cons List.map_nil Option.bind_some Option.bind_none putL List.cons_append List.nil_append thenS_normal thenS_ret thenS_exit inBlockS_normal inBlockS_ret inBlockS_exit true_and and_true justV justO cval Option.map_some Option.map_none loadAt storeAt ldV ldD mkAgg V.asD spliceL List.take_succ_cons List.take_zero List.drop_succ_cons List.drop_zero List.getElem?_cons_zero List.getElem?_cons_succ List.getElem?_nil List.all_cons List.all_nil Bool.and_true Bool.true_and Bool.and_self List.length_cons List.length_nil vals aopCall argsO argO toD3 toD2 toD1 toDs O.ok O.ok2 O.ok1 O.flat O.flat1 D.flat D.flatA inO inO2 inO1 inOs List.filterMap_nil List.filterMap_cons List.filter_nil List.filter_cons List.nodup_nil decide_true decide_false Bool.not_true Bool.not_false not_true_eq_false not_false_eq_true or_false false_or and_false false_and ne_eq List.append_nil optB guardQ guardRes beq_self_eq_true List.mapM_cons List.mapM_nil Option.pure_def Option.bind_eq_bind true_or or_true or_self callHp ite_self not_true not_false_iff ite_true ite_false if_true if_false Bool.false_eq_true Bool.true_eq_false List.any_nil List.any_cons List.contains_nil List.contains_cons eq_self aopAppend builtinV elems aopBin nilEqS nilEqP aopSlice bound natOf lenOf binD intBin unD bindEq eU_makeMap eU_lookup eU_mapUpdate getMp_mk List.range_zero Nat.zero_le Nat.zero_mul Nat.zero_add Nat.add_zero List.length_append List.take_length List.isEmpty_nil List.isEmpty_cons V.neg List.flatMap_nil and_self List.range_succ forall_const implies_true Nat.not_lt_zero exitQ_normal exitQ_ret exitS_eq exitO resVs resV_tmp resV_cell takeRow argCells mvAt dle_same dles_same ole_same ole oles dle dles List.nodup_cons List.mem_cons List.not_mem_nil List.drop_length Nat.le_refl Nat.lt_irrefl id_eq Option.some.injEq Bool.or_false Bool.false_or Bool.or_self Bool.or_true Bool.true_or false_implies Bool.and_false Bool.false_and List.reverse_cons List.reverse_nil sh1 mget1 mget aopLookup aopMapUpdate mapOf msetK msetV Option.isSome_some Option.isSome_none Bool.cond_true_left Bool.cond_false_right Bool.cond_true_right Bool.cond_false_left beq_true beq_false Bool.not_not imp_self guardVal notB strBin aopSliceS buildV argOk D.splice kEq Option.toList_some Option.toList_none adel List.getD_cons_zero List.getD_cons_succ bxIds bxId backHp hget one1 aopCall0 aopTurn

/- midrange/midrangeref36.Own -/
noncomputable def cfg14 : Cfg := ⟨Try.prog, 16, tab36, mvs, [], (fun _ => none)⟩
theorem cfg14_ti38 : cfg14.ti 38 = none := rfl
theorem cfg14_pins : cfg14.pins = [] := rfl
theorem cfg14_P : cfg14.P = Try.prog := rfl
theorem cfg14_N : cfg14.N = 16 := rfl
theorem cfg14_T38 : cfg14.T 38 = e38 := rfl
theorem cfg14_mv38 : cfg14.mv 38 = (fun _ => []) := rfl
section
attribute [local go_sem] cfg14_P cfg14_N cfg14_pins cfg14_ti38 cfg14_T38 e38 cfg14_mv38 sz3 ag3 zr3 zo3 zd3 by3 sl3 st3 bo3 pt3 sz4 ag4 zr4 zo4 zd4 by4 sl4 st4 bo4 pt4 sz9 ag9 zr9 zo9 zd9 by9 sl9 un9 st9 bo9 pt9 sz22 ag22 zr22 zo22 zd22 by22 el22 sl22 un22 st22 bo22 pt22 sz23 ag23 zr23 zo23 zd23 by23 el23 sl23 un23 st23 bo23 pt23 sz25 ag25 zr25 zd25 by25 sl25 st25 bo25 pt25 of25_0 fa25_0 of25_1 fa25_1 of25_2 fa25_2 of25_3 fa25_3 of25_4 fa25_4 of25_5 fa25_5 pl25 sz40 ag40 zr40 zd40 by40 sl40 st40 bo40 pt40 of40_0 fa40_0 of40_1 fa40_1 of40_2 fa40_2 of40_3 fa40_3 of40_4 fa40_4 pl40 ek40 sz42 ag42 zr42 zd42 by42 sl42 st42 bo42 pt42 of42_0 fa42_0 of42_1 fa42_1 of42_2 fa42_2 of42_3 fa42_3 pl42 ek42 sz66 ag66 zr66 zd66 by66 sl66 st66 bo66 pt66 of66_0 fa66_0 of66_1 fa66_1 pl66 ek66 
theorem con14 (hC : COk cfg14) (x : Remote) (hp : x.source.length ≤ 1000000 ∧ x.target.length ≤ 1000000 ∧ x.wire.length ≤ 1000000) : Sem Try.prog 14 [.d (encRemote x)] (.agg [.d (.b x.sync), .own 42 8 (x.source.map encEntry), .own 42 8 (x.target.map encEntry), .d (.i .i64 x.sent), .d (.i .i64 x.acked), .own 66 2 (x.wire.map encPacket)]) := by
  refine sem_of_awR (C := cfg14) (rs := [.cell 2 25]) (fun _ => [(1, 42, 8), (2, 42, 8), (5, 66, 2)]) Try.func14 rfl rfl rfl rfl rfl rfl ?_
  simp only [enterSl, enterHp, inO, inO2, inO1, inOs, List.append_nil, List.nil_append, Nat.mul_zero, List.cons_append, Nat.zero_add, Nat.reduceAdd, Nat.reduceMul, encChange, encEntry, ceqChange, ceqEntry, etaChange, etaEntry, zfChange, zfEntry, decChange, decEntry, seq_dec, encRemote, decRemote, encPacket, decPacket, encRAct, decRAct, etaRemote, zfRemote, etaPacket, zfPacket, ceqPacket, etaRAct, zfRAct, ceqRAct, getDz_Packet, getDz_RAct, dL_Packet, dL_RAct, dM_Entry, dM_Packet, getDz_Entry, dL_Entry, List.length_map, Int.toNat_natCast, Int.toNat_zero, Nat.sub_zero, ← List.map_take, ← List.map_drop, List.length_take, decL_sl, decM_cons, decM_nil, decM_append, take_map_snoc, dM_Entry, dM_Packet, dM_RAct]
  repeat' first
    | (with_reducible refine thenS_n ?_)
    | (with_reducible refine inBlockS_n ?_)
    | (with_reducible refine AW.seq ?_)
    | (with_reducible refine AW.block ?_)
    | (with_reducible refine AW.runK hC ?_; intro K hK)
    | (with_reducible refine AW.drawK hC (by kernel_rfl) ?_; intro K hK)
    | ((first | (with_reducible refine erun_g ?_) | (with_reducible refine edraw_g ?_) | (with_reducible refine exitS_g ?_)); simp (maxSteps := 1000000) only [go_sem, ↓reduceIte, reduceCtorEq, Nat.reduceEqDiff, Nat.reduceLT, Nat.reduceLeDiff, Nat.reduceMul, Nat.reduceAdd, Nat.reduceSub, reduceDIte, Nat.reduceBEq, Nat.reduceBNe, encChange, encEntry, ceqChange, ceqEntry, etaChange, etaEntry, zfChange, zfEntry, decChange, decEntry, seq_dec, encRemote, decRemote, encPacket, decPacket, encRAct, decRAct, etaRemote, zfRemote, etaPacket, zfPacket, ceqPacket, etaRAct, zfRAct, ceqRAct, getDz_Packet, getDz_RAct, dL_Packet, dL_RAct, dM_Entry, dM_Packet, getDz_Entry, dL_Entry, List.length_map, Int.toNat_natCast, Int.toNat_zero, Nat.sub_zero, ← List.map_take, ← List.map_drop, List.length_take, decL_sl, decM_cons, decM_nil, decM_append, take_map_snoc, dM_Entry, dM_Packet, dM_RAct]; (try simp (disch := omega) only [w64, wu8]))
    | (with_reducible refine hCheck_g (by kernel_rfl) ?_)
    | ((first | (refine AW.cond rfl (fun h => ?_) (fun h => ?_)) | (refine AW.cond_ub rfl (fun h => ?_) ?_) | (refine AW.cond_nb rfl ?_ (fun h => ?_))) <;> (try simp only [Bool.or_eq_true, Bool.and_eq_true, Bool.or_eq_false_iff, Bool.and_eq_false_iff, Bool.not_eq_true', Bool.not_eq_false', Bool.not_eq_true, Bool.not_eq_false, decide_eq_true_eq, decide_eq_false_iff_not, beq_iff_eq, bne_iff_ne, beq_eq_false_iff_ne, bne_eq_false_iff_eq, ne_eq, Int.not_lt, Int.not_le, D.b.injEq, D.i.injEq, D.s.injEq, D.agg.injEq, D.sl.injEq, true_and, and_true, List.cons.injEq, gt_iff_lt, ge_iff_le,  Bool.cond_true_left, Bool.cond_false_right, Bool.cond_true_right, Bool.cond_false_left, seq_iff, seq_dec, dec_f, dec_t, eqB_t, eqB_f] at h) <;> (try (exfalso; first | omega | exact absurd h (by decide))))
    | (with_reducible refine AW.skip ?_)
    | (with_reducible refine AW.exit ?_)
    | (with_reducible refine AW.ret ?_)
    | (with_reducible refine thenS_r ?_)
    | (with_reducible refine thenS_e ?_)
    | (with_reducible refine inBlockS_r ?_)
    | (with_reducible refine inBlockS_e ?_)
    | (with_reducible refine inBlockS_e2 rfl ?_)
    | (with_reducible refine exitQ_r ?_)
    | (with_reducible refine exitQ_n ?_)
    | (refine sub_auto ?_; simp (maxSteps := 1000000) only [forall_eq, V.ptr.injEq, V.row.injEq, V.rp.injEq, V.mref.injEq, exists_eq_left', and_assoc, rhoV, rhoVs, rhoSl, rhoO, rhoHp, rhoDd, rho1, HS.obj?, forall_eq', slSub, hpSub, hpSub1, nfL, vs, vss, vds, vd1, os, aget, go_sem, ↓reduceIte, reduceCtorEq, Nat.reduceEqDiff, Nat.reduceLT, Nat.reduceLeDiff, Nat.reduceMul, Nat.reduceAdd, Nat.reduceSub, reduceDIte, Nat.reduceBEq, Nat.reduceBNe, encChange, encEntry, ceqChange, ceqEntry, etaChange, etaEntry, zfChange, zfEntry, decChange, decEntry, seq_dec, encRemote, decRemote, encPacket, decPacket, encRAct, decRAct, etaRemote, zfRemote, etaPacket, zfPacket, ceqPacket, etaRAct, zfRAct, ceqRAct, getDz_Packet, getDz_RAct, dL_Packet, dL_RAct, dM_Entry, dM_Packet, getDz_Entry, dL_Entry, List.length_map, Int.toNat_natCast, Int.toNat_zero, Nat.sub_zero, ← List.map_take, ← List.map_drop, List.length_take, decL_sl, decM_cons, decM_nil, decM_append, take_map_snoc, dM_Entry, dM_Packet, dM_RAct])
    | (with_reducible refine And.intro ?_ ?_)
    | (subst hK)
  all_goals (try (intros; assumption))
  all_goals (try simp only [Bool.or_eq_true, Bool.and_eq_true, Bool.or_eq_false_iff, Bool.and_eq_false_iff, Bool.not_eq_true', Bool.not_eq_false', Bool.not_eq_true, Bool.not_eq_false, decide_eq_true_eq, decide_eq_false_iff_not, beq_iff_eq, bne_iff_ne, beq_eq_false_iff_ne, bne_eq_false_iff_eq, ne_eq, Int.not_lt, Int.not_le, D.b.injEq, D.i.injEq, D.s.injEq, D.agg.injEq, D.sl.injEq, true_and, and_true, List.cons.injEq, gt_iff_lt, ge_iff_le,  Bool.cond_true_left, Bool.cond_false_right, Bool.cond_true_right, Bool.cond_false_left, seq_iff, seq_dec, dec_f, dec_t, eqB_t, eqB_f] at *)
  all_goals (try (intros; trivial))
  all_goals (try (intros; omega))
  all_goals (try (rw [w64 (by omega) (by omega)]; first | done | omega))
  all_goals first | omega | (simp_all [dles]; done)

end
/- midrange/midrangeref36.Few -/
noncomputable def cfg11 : Cfg := ⟨Try.prog, 17, tab14, mvs, [], (fun _ => none)⟩
theorem cfg11_ti35 : cfg11.ti 35 = none := rfl
theorem cfg11_pins : cfg11.pins = [] := rfl
theorem cfg11_P : cfg11.P = Try.prog := rfl
theorem cfg11_N : cfg11.N = 17 := rfl
theorem cfg11_T35 : cfg11.T 35 = e35 := rfl
theorem cfg11_mv35 : cfg11.mv 35 = (fun _ => []) := rfl
section
attribute [local go_sem] cfg11_P cfg11_N cfg11_pins cfg11_ti35 cfg11_T35 e35 cfg11_mv35 sz3 ag3 zr3 zo3 zd3 by3 sl3 st3 bo3 pt3 sz4 ag4 zr4 zo4 zd4 by4 sl4 st4 bo4 pt4 sz9 ag9 zr9 zo9 zd9 by9 sl9 un9 st9 bo9 pt9 sz22 ag22 zr22 zo22 zd22 by22 el22 sl22 un22 st22 bo22 pt22 sz23 ag23 zr23 zo23 zd23 by23 el23 sl23 un23 st23 bo23 pt23 sz25 ag25 zr25 zd25 by25 sl25 st25 bo25 pt25 of25_0 fa25_0 of25_1 fa25_1 of25_2 fa25_2 of25_3 fa25_3 of25_4 fa25_4 of25_5 fa25_5 pl25 sz40 ag40 zr40 zd40 by40 sl40 st40 bo40 pt40 of40_0 fa40_0 of40_1 fa40_1 of40_2 fa40_2 of40_3 fa40_3 of40_4 fa40_4 pl40 ek40 sz42 ag42 zr42 zd42 by42 sl42 st42 bo42 pt42 of42_0 fa42_0 of42_1 fa42_1 of42_2 fa42_2 of42_3 fa42_3 pl42 ek42 sz66 ag66 zr66 zd66 by66 sl66 st66 bo66 pt66 of66_0 fa66_0 of66_1 fa66_1 pl66 ek66 
theorem con11 (hC : COk cfg11) (x : Remote) : Sem Try.prog 11 [.d (encRemote x)] (.d (.b (few36 x))) := by
  refine sem_of_awR (C := cfg11) (rs := [.tmp 2]) (fun _ => []) Try.func11 rfl rfl rfl rfl rfl rfl ?_
  simp only [enterSl, enterHp, inO, inO2, inO1, inOs, List.append_nil, List.nil_append, Nat.mul_zero, List.cons_append, Nat.zero_add, Nat.reduceAdd, Nat.reduceMul, encChange, encEntry, ceqChange, ceqEntry, etaChange, etaEntry, zfChange, zfEntry, decChange, decEntry, seq_dec, encRemote, decRemote, encPacket, decPacket, encRAct, decRAct, etaRemote, zfRemote, etaPacket, zfPacket, ceqPacket, etaRAct, zfRAct, ceqRAct, getDz_Packet, getDz_RAct, dL_Packet, dL_RAct, dM_Entry, dM_Packet, getDz_Entry, dL_Entry, List.length_map, Int.toNat_natCast, Int.toNat_zero, Nat.sub_zero, ← List.map_take, ← List.map_drop, List.length_take, decL_sl, decM_cons, decM_nil, decM_append, take_map_snoc, dM_Entry, dM_Packet, dM_RAct]
  repeat' first
    | (with_reducible refine thenS_n ?_)
    | (with_reducible refine inBlockS_n ?_)
    | (with_reducible refine AW.seq ?_)
    | (with_reducible refine AW.block ?_)
    | (with_reducible refine AW.runK hC ?_; intro K hK)
    | (with_reducible refine AW.drawK hC (by kernel_rfl) ?_; intro K hK)
    | ((first | (with_reducible refine erun_g ?_) | (with_reducible refine edraw_g ?_) | (with_reducible refine exitS_g ?_)); simp (maxSteps := 1000000) only [go_sem, ↓reduceIte, reduceCtorEq, Nat.reduceEqDiff, Nat.reduceLT, Nat.reduceLeDiff, Nat.reduceMul, Nat.reduceAdd, Nat.reduceSub, reduceDIte, Nat.reduceBEq, Nat.reduceBNe, encChange, encEntry, ceqChange, ceqEntry, etaChange, etaEntry, zfChange, zfEntry, decChange, decEntry, seq_dec, encRemote, decRemote, encPacket, decPacket, encRAct, decRAct, etaRemote, zfRemote, etaPacket, zfPacket, ceqPacket, etaRAct, zfRAct, ceqRAct, getDz_Packet, getDz_RAct, dL_Packet, dL_RAct, dM_Entry, dM_Packet, getDz_Entry, dL_Entry, List.length_map, Int.toNat_natCast, Int.toNat_zero, Nat.sub_zero, ← List.map_take, ← List.map_drop, List.length_take, decL_sl, decM_cons, decM_nil, decM_append, take_map_snoc, dM_Entry, dM_Packet, dM_RAct]; (try simp (disch := omega) only [w64, wu8]))
    | (with_reducible refine hCheck_g (by kernel_rfl) ?_)
    | ((first | (refine AW.cond rfl (fun h => ?_) (fun h => ?_)) | (refine AW.cond_ub rfl (fun h => ?_) ?_) | (refine AW.cond_nb rfl ?_ (fun h => ?_))) <;> (try simp only [Bool.or_eq_true, Bool.and_eq_true, Bool.or_eq_false_iff, Bool.and_eq_false_iff, Bool.not_eq_true', Bool.not_eq_false', Bool.not_eq_true, Bool.not_eq_false, decide_eq_true_eq, decide_eq_false_iff_not, beq_iff_eq, bne_iff_ne, beq_eq_false_iff_ne, bne_eq_false_iff_eq, ne_eq, Int.not_lt, Int.not_le, D.b.injEq, D.i.injEq, D.s.injEq, D.agg.injEq, D.sl.injEq, true_and, and_true, List.cons.injEq, gt_iff_lt, ge_iff_le,  Bool.cond_true_left, Bool.cond_false_right, Bool.cond_true_right, Bool.cond_false_left, seq_iff, seq_dec, dec_f, dec_t, eqB_t, eqB_f] at h) <;> (try (exfalso; first | omega | exact absurd h (by decide))))
    | (with_reducible refine AW.skip ?_)
    | (with_reducible refine AW.exit ?_)
    | (with_reducible refine AW.ret ?_)
    | (with_reducible refine thenS_r ?_)
    | (with_reducible refine thenS_e ?_)
    | (with_reducible refine inBlockS_r ?_)
    | (with_reducible refine inBlockS_e ?_)
    | (with_reducible refine inBlockS_e2 rfl ?_)
    | (with_reducible refine exitQ_r ?_)
    | (with_reducible refine exitQ_n ?_)
    | (refine sub_auto ?_; simp (maxSteps := 1000000) only [forall_eq, V.ptr.injEq, V.row.injEq, V.rp.injEq, V.mref.injEq, exists_eq_left', and_assoc, rhoV, rhoVs, rhoSl, rhoO, rhoHp, rhoDd, rho1, HS.obj?, forall_eq', slSub, hpSub, hpSub1, nfL, vs, vss, vds, vd1, os, aget, go_sem, ↓reduceIte, reduceCtorEq, Nat.reduceEqDiff, Nat.reduceLT, Nat.reduceLeDiff, Nat.reduceMul, Nat.reduceAdd, Nat.reduceSub, reduceDIte, Nat.reduceBEq, Nat.reduceBNe, encChange, encEntry, ceqChange, ceqEntry, etaChange, etaEntry, zfChange, zfEntry, decChange, decEntry, seq_dec, encRemote, decRemote, encPacket, decPacket, encRAct, decRAct, etaRemote, zfRemote, etaPacket, zfPacket, ceqPacket, etaRAct, zfRAct, ceqRAct, getDz_Packet, getDz_RAct, dL_Packet, dL_RAct, dM_Entry, dM_Packet, getDz_Entry, dL_Entry, List.length_map, Int.toNat_natCast, Int.toNat_zero, Nat.sub_zero, ← List.map_take, ← List.map_drop, List.length_take, decL_sl, decM_cons, decM_nil, decM_append, take_map_snoc, dM_Entry, dM_Packet, dM_RAct])
    | (with_reducible refine And.intro ?_ ?_)
    | (subst hK)
  all_goals (try (intros; assumption))
  all_goals (try simp only [Bool.or_eq_true, Bool.and_eq_true, Bool.or_eq_false_iff, Bool.and_eq_false_iff, Bool.not_eq_true', Bool.not_eq_false', Bool.not_eq_true, Bool.not_eq_false, decide_eq_true_eq, decide_eq_false_iff_not, beq_iff_eq, bne_iff_ne, beq_eq_false_iff_ne, bne_eq_false_iff_eq, ne_eq, Int.not_lt, Int.not_le, D.b.injEq, D.i.injEq, D.s.injEq, D.agg.injEq, D.sl.injEq, true_and, and_true, List.cons.injEq, gt_iff_lt, ge_iff_le,  Bool.cond_true_left, Bool.cond_false_right, Bool.cond_true_right, Bool.cond_false_left, seq_iff, seq_dec, dec_f, dec_t, eqB_t, eqB_f] at *)
  all_goals (try (intros; trivial))
  all_goals (try (intros; omega))
  all_goals (try (rw [w64 (by omega) (by omega)]; first | done | omega))
  all_goals grind [few36]

end
/- midrange/midrangelaw36.small -/
noncomputable def cfg18 : Cfg := ⟨Try.prog, 7, tab11, mvs, [], (fun _ => none)⟩
theorem cfg18_ti35 : cfg18.ti 35 = none := rfl
theorem cfg18_pins : cfg18.pins = [] := rfl
theorem cfg18_P : cfg18.P = Try.prog := rfl
theorem cfg18_N : cfg18.N = 7 := rfl
theorem cfg18_T35 : cfg18.T 35 = e35 := rfl
theorem cfg18_mv35 : cfg18.mv 35 = (fun _ => []) := rfl
section
attribute [local go_sem] cfg18_P cfg18_N cfg18_pins cfg18_ti35 cfg18_T35 e35 cfg18_mv35 sz3 ag3 zr3 zo3 zd3 by3 sl3 st3 bo3 pt3 sz9 ag9 zr9 zo9 zd9 by9 sl9 un9 st9 bo9 pt9 sz22 ag22 zr22 zo22 zd22 by22 el22 sl22 un22 st22 bo22 pt22 sz40 ag40 zr40 zd40 by40 sl40 st40 bo40 pt40 of40_0 fa40_0 of40_1 fa40_1 of40_2 fa40_2 of40_3 fa40_3 of40_4 fa40_4 pl40 ek40 sz42 ag42 zr42 zd42 by42 sl42 st42 bo42 pt42 of42_0 fa42_0 of42_1 fa42_1 of42_2 fa42_2 of42_3 fa42_3 pl42 ek42 sz44 ag44 zr44 zd44 by44 sl44 st44 bo44 pt44 of44_0 fa44_0 of44_1 fa44_1 of44_2 fa44_2 pl44 ek44 
theorem con18 (hC : COk cfg18) (a : RAct) : Sem Try.prog 18 [.d (encRAct a)] (.d (.b (few35 [a.entry]))) := by
  refine sem_of_awR (C := cfg18) (rs := [.tmp 2]) (fun _ => []) Try.func18 rfl rfl rfl rfl rfl rfl ?_
  simp only [enterSl, enterHp, inO, inO2, inO1, inOs, List.append_nil, List.nil_append, Nat.mul_zero, List.cons_append, Nat.zero_add, Nat.reduceAdd, Nat.reduceMul, encChange, encEntry, ceqChange, ceqEntry, etaChange, etaEntry, zfChange, zfEntry, decChange, decEntry, seq_dec, encRemote, decRemote, encPacket, decPacket, encRAct, decRAct, etaRemote, zfRemote, etaPacket, zfPacket, ceqPacket, etaRAct, zfRAct, ceqRAct, getDz_Packet, getDz_RAct, dL_Packet, dL_RAct, dM_Entry, dM_Packet, getDz_Entry, dL_Entry, List.length_map, Int.toNat_natCast, Int.toNat_zero, Nat.sub_zero, ← List.map_take, ← List.map_drop, List.length_take, decL_sl, decM_cons, decM_nil, decM_append, take_map_snoc, dM_Entry, dM_Packet, dM_RAct]
  repeat' first
    | (with_reducible refine thenS_n ?_)
    | (with_reducible refine inBlockS_n ?_)
    | (with_reducible refine AW.seq ?_)
    | (with_reducible refine AW.block ?_)
    | (with_reducible refine AW.runK hC ?_; intro K hK)
    | (with_reducible refine AW.drawK hC (by kernel_rfl) ?_; intro K hK)
    | ((first | (with_reducible refine erun_g ?_) | (with_reducible refine edraw_g ?_) | (with_reducible refine exitS_g ?_)); simp (maxSteps := 1000000) only [go_sem, ↓reduceIte, reduceCtorEq, Nat.reduceEqDiff, Nat.reduceLT, Nat.reduceLeDiff, Nat.reduceMul, Nat.reduceAdd, Nat.reduceSub, reduceDIte, Nat.reduceBEq, Nat.reduceBNe, encChange, encEntry, ceqChange, ceqEntry, etaChange, etaEntry, zfChange, zfEntry, decChange, decEntry, seq_dec, encRemote, decRemote, encPacket, decPacket, encRAct, decRAct, etaRemote, zfRemote, etaPacket, zfPacket, ceqPacket, etaRAct, zfRAct, ceqRAct, getDz_Packet, getDz_RAct, dL_Packet, dL_RAct, dM_Entry, dM_Packet, getDz_Entry, dL_Entry, List.length_map, Int.toNat_natCast, Int.toNat_zero, Nat.sub_zero, ← List.map_take, ← List.map_drop, List.length_take, decL_sl, decM_cons, decM_nil, decM_append, take_map_snoc, dM_Entry, dM_Packet, dM_RAct]; (try simp (disch := omega) only [w64, wu8]))
    | (with_reducible refine hCheck_g (by kernel_rfl) ?_)
    | ((first | (refine AW.cond rfl (fun h => ?_) (fun h => ?_)) | (refine AW.cond_ub rfl (fun h => ?_) ?_) | (refine AW.cond_nb rfl ?_ (fun h => ?_))) <;> (try simp only [Bool.or_eq_true, Bool.and_eq_true, Bool.or_eq_false_iff, Bool.and_eq_false_iff, Bool.not_eq_true', Bool.not_eq_false', Bool.not_eq_true, Bool.not_eq_false, decide_eq_true_eq, decide_eq_false_iff_not, beq_iff_eq, bne_iff_ne, beq_eq_false_iff_ne, bne_eq_false_iff_eq, ne_eq, Int.not_lt, Int.not_le, D.b.injEq, D.i.injEq, D.s.injEq, D.agg.injEq, D.sl.injEq, true_and, and_true, List.cons.injEq, gt_iff_lt, ge_iff_le,  Bool.cond_true_left, Bool.cond_false_right, Bool.cond_true_right, Bool.cond_false_left, seq_iff, seq_dec, dec_f, dec_t, eqB_t, eqB_f] at h) <;> (try (exfalso; first | omega | exact absurd h (by decide))))
    | (with_reducible refine AW.skip ?_)
    | (with_reducible refine AW.exit ?_)
    | (with_reducible refine AW.ret ?_)
    | (with_reducible refine thenS_r ?_)
    | (with_reducible refine thenS_e ?_)
    | (with_reducible refine inBlockS_r ?_)
    | (with_reducible refine inBlockS_e ?_)
    | (with_reducible refine inBlockS_e2 rfl ?_)
    | (with_reducible refine exitQ_r ?_)
    | (with_reducible refine exitQ_n ?_)
    | (refine sub_auto ?_; simp (maxSteps := 1000000) only [forall_eq, V.ptr.injEq, V.row.injEq, V.rp.injEq, V.mref.injEq, exists_eq_left', and_assoc, rhoV, rhoVs, rhoSl, rhoO, rhoHp, rhoDd, rho1, HS.obj?, forall_eq', slSub, hpSub, hpSub1, nfL, vs, vss, vds, vd1, os, aget, go_sem, ↓reduceIte, reduceCtorEq, Nat.reduceEqDiff, Nat.reduceLT, Nat.reduceLeDiff, Nat.reduceMul, Nat.reduceAdd, Nat.reduceSub, reduceDIte, Nat.reduceBEq, Nat.reduceBNe, encChange, encEntry, ceqChange, ceqEntry, etaChange, etaEntry, zfChange, zfEntry, decChange, decEntry, seq_dec, encRemote, decRemote, encPacket, decPacket, encRAct, decRAct, etaRemote, zfRemote, etaPacket, zfPacket, ceqPacket, etaRAct, zfRAct, ceqRAct, getDz_Packet, getDz_RAct, dL_Packet, dL_RAct, dM_Entry, dM_Packet, getDz_Entry, dL_Entry, List.length_map, Int.toNat_natCast, Int.toNat_zero, Nat.sub_zero, ← List.map_take, ← List.map_drop, List.length_take, decL_sl, decM_cons, decM_nil, decM_append, take_map_snoc, dM_Entry, dM_Packet, dM_RAct])
    | (with_reducible refine And.intro ?_ ?_)
    | (subst hK)
  all_goals (try (intros; assumption))
  all_goals (try simp only [Bool.or_eq_true, Bool.and_eq_true, Bool.or_eq_false_iff, Bool.and_eq_false_iff, Bool.not_eq_true', Bool.not_eq_false', Bool.not_eq_true, Bool.not_eq_false, decide_eq_true_eq, decide_eq_false_iff_not, beq_iff_eq, bne_iff_ne, beq_eq_false_iff_ne, bne_eq_false_iff_eq, ne_eq, Int.not_lt, Int.not_le, D.b.injEq, D.i.injEq, D.s.injEq, D.agg.injEq, D.sl.injEq, true_and, and_true, List.cons.injEq, gt_iff_lt, ge_iff_le,  Bool.cond_true_left, Bool.cond_false_right, Bool.cond_true_right, Bool.cond_false_left, seq_iff, seq_dec, dec_f, dec_t, eqB_t, eqB_f] at *)
  all_goals (try (intros; trivial))
  all_goals (try (intros; omega))
  all_goals (try (rw [w64 (by omega) (by omega)]; first | done | omega))
  all_goals first
    | (intro d hd; subst hd; exact ⟨rfl, by simp [D.cells, D.one]⟩)

end
/- midrange/midrangelaw36.light -/
noncomputable def cfg12 : Cfg := ⟨Try.prog, 20, tab18, mvs, [], (fun _ => none)⟩
theorem cfg12_ti18 : cfg12.ti 18 = none := rfl
theorem cfg12_pins : cfg12.pins = [] := rfl
theorem cfg12_P : cfg12.P = Try.prog := rfl
theorem cfg12_N : cfg12.N = 20 := rfl
theorem cfg12_T18 : cfg12.T 18 = e18 := rfl
theorem cfg12_mv18 : cfg12.mv 18 = (fun _ => []) := rfl
section
attribute [local go_sem] cfg12_P cfg12_N cfg12_pins cfg12_ti18 cfg12_T18 e18 cfg12_mv18 sz3 ag3 zr3 zo3 zd3 by3 sl3 st3 bo3 pt3 sz4 ag4 zr4 zo4 zd4 by4 sl4 st4 bo4 pt4 sz9 ag9 zr9 zo9 zd9 by9 sl9 un9 st9 bo9 pt9 sz26 ag26 zr26 zo26 zd26 by26 el26 sl26 un26 st26 bo26 pt26 sz40 ag40 zr40 zd40 by40 sl40 st40 bo40 pt40 of40_0 fa40_0 of40_1 fa40_1 of40_2 fa40_2 of40_3 fa40_3 of40_4 fa40_4 pl40 ek40 sz42 ag42 zr42 zd42 by42 sl42 st42 bo42 pt42 of42_0 fa42_0 of42_1 fa42_1 of42_2 fa42_2 of42_3 fa42_3 pl42 ek42 sz44 ag44 zr44 zd44 by44 sl44 st44 bo44 pt44 of44_0 fa44_0 of44_1 fa44_1 of44_2 fa44_2 pl44 ek44 
theorem con12 (hC : COk cfg12) (l : List RAct) : Sem Try.prog 12 [.d (.sl 10 (l.map encRAct))] (.d (.b (light l))) := by
  refine sem_of_awR (C := cfg12) (rs := [.tmp 2]) (fun _ => []) Try.func12 rfl rfl rfl rfl rfl rfl ?_
  simp only [enterSl, enterHp, inO, inO2, inO1, inOs, List.append_nil, List.nil_append, Nat.mul_zero, List.cons_append, Nat.zero_add, Nat.reduceAdd, Nat.reduceMul, encChange, encEntry, ceqChange, ceqEntry, etaChange, etaEntry, zfChange, zfEntry, decChange, decEntry, seq_dec, encRemote, decRemote, encPacket, decPacket, encRAct, decRAct, etaRemote, zfRemote, etaPacket, zfPacket, ceqPacket, etaRAct, zfRAct, ceqRAct, getDz_Packet, getDz_RAct, dL_Packet, dL_RAct, dM_Entry, dM_Packet, getDz_Entry, dL_Entry, List.length_map, Int.toNat_natCast, Int.toNat_zero, Nat.sub_zero, ← List.map_take, ← List.map_drop, List.length_take, decL_sl, decM_cons, decM_nil, decM_append, take_map_snoc, dM_Entry, dM_Packet, dM_RAct]
  repeat' first
    | (with_reducible refine thenS_n ?_)
    | (with_reducible refine inBlockS_n ?_)
    | (with_reducible refine AW.seq ?_)
    | (with_reducible refine AW.block ?_)
    | (with_reducible refine AW.runK hC ?_; intro K hK)
    | (with_reducible refine AW.drawK hC (by kernel_rfl) ?_; intro K hK)
    | ((first | (with_reducible refine erun_g ?_) | (with_reducible refine edraw_g ?_) | (with_reducible refine exitS_g ?_)); simp (maxSteps := 1000000) only [go_sem, ↓reduceIte, reduceCtorEq, Nat.reduceEqDiff, Nat.reduceLT, Nat.reduceLeDiff, Nat.reduceMul, Nat.reduceAdd, Nat.reduceSub, reduceDIte, Nat.reduceBEq, Nat.reduceBNe, encChange, encEntry, ceqChange, ceqEntry, etaChange, etaEntry, zfChange, zfEntry, decChange, decEntry, seq_dec, encRemote, decRemote, encPacket, decPacket, encRAct, decRAct, etaRemote, zfRemote, etaPacket, zfPacket, ceqPacket, etaRAct, zfRAct, ceqRAct, getDz_Packet, getDz_RAct, dL_Packet, dL_RAct, dM_Entry, dM_Packet, getDz_Entry, dL_Entry, List.length_map, Int.toNat_natCast, Int.toNat_zero, Nat.sub_zero, ← List.map_take, ← List.map_drop, List.length_take, decL_sl, decM_cons, decM_nil, decM_append, take_map_snoc, dM_Entry, dM_Packet, dM_RAct]; (try simp (disch := omega) only [w64, wu8]))
    | (with_reducible refine hCheck_g (by kernel_rfl) ?_)
    | ((first | (refine AW.cond rfl (fun h => ?_) (fun h => ?_)) | (refine AW.cond_ub rfl (fun h => ?_) ?_) | (refine AW.cond_nb rfl ?_ (fun h => ?_))) <;> (try simp only [Bool.or_eq_true, Bool.and_eq_true, Bool.or_eq_false_iff, Bool.and_eq_false_iff, Bool.not_eq_true', Bool.not_eq_false', Bool.not_eq_true, Bool.not_eq_false, decide_eq_true_eq, decide_eq_false_iff_not, beq_iff_eq, bne_iff_ne, beq_eq_false_iff_ne, bne_eq_false_iff_eq, ne_eq, Int.not_lt, Int.not_le, D.b.injEq, D.i.injEq, D.s.injEq, D.agg.injEq, D.sl.injEq, true_and, and_true, List.cons.injEq, gt_iff_lt, ge_iff_le,  Bool.cond_true_left, Bool.cond_false_right, Bool.cond_true_right, Bool.cond_false_left, seq_iff, seq_dec, dec_f, dec_t, eqB_t, eqB_f] at h) <;> (try (exfalso; first | omega | exact absurd h (by decide))))
    | (with_reducible refine AW.skip ?_)
    | (with_reducible refine AW.exit ?_)
    | (with_reducible refine AW.ret ?_)
    | (with_reducible refine thenS_r ?_)
    | (with_reducible refine thenS_e ?_)
    | (with_reducible refine inBlockS_r ?_)
    | (with_reducible refine inBlockS_e ?_)
    | (with_reducible refine inBlockS_e2 rfl ?_)
    | (with_reducible refine exitQ_r ?_)
    | (with_reducible refine exitQ_n ?_)
    | (refine AW.loopN 2 rfl (ι := Nat) (fun i => mkS [(0, V.d (.sl 10 (l.map encRAct))), (3, V.d (.i .i64 (i : Int)))] ([])) (fun i => i ≤ l.length ∧ lightGo i (l.drop i) = light l) (fun i => l.length - i) (0) ?_ ?_ (fun i hi => ?_) <;> (try dsimp only) <;> (try dsimp only at hi))
    | (refine LoopNext.mk1 2 (i + 1) ?_ ?_ ?_ <;> (try dsimp only))
    | (refine sub_auto ?_; simp (maxSteps := 1000000) only [forall_eq, V.ptr.injEq, V.row.injEq, V.rp.injEq, V.mref.injEq, exists_eq_left', and_assoc, rhoV, rhoVs, rhoSl, rhoO, rhoHp, rhoDd, rho1, HS.obj?, forall_eq', slSub, hpSub, hpSub1, nfL, vs, vss, vds, vd1, os, aget, go_sem, ↓reduceIte, reduceCtorEq, Nat.reduceEqDiff, Nat.reduceLT, Nat.reduceLeDiff, Nat.reduceMul, Nat.reduceAdd, Nat.reduceSub, reduceDIte, Nat.reduceBEq, Nat.reduceBNe, encChange, encEntry, ceqChange, ceqEntry, etaChange, etaEntry, zfChange, zfEntry, decChange, decEntry, seq_dec, encRemote, decRemote, encPacket, decPacket, encRAct, decRAct, etaRemote, zfRemote, etaPacket, zfPacket, ceqPacket, etaRAct, zfRAct, ceqRAct, getDz_Packet, getDz_RAct, dL_Packet, dL_RAct, dM_Entry, dM_Packet, getDz_Entry, dL_Entry, List.length_map, Int.toNat_natCast, Int.toNat_zero, Nat.sub_zero, ← List.map_take, ← List.map_drop, List.length_take, decL_sl, decM_cons, decM_nil, decM_append, take_map_snoc, dM_Entry, dM_Packet, dM_RAct])
    | (with_reducible refine And.intro ?_ ?_)
    | (subst hK)
  all_goals (try (intros; assumption))
  all_goals (try simp only [Bool.or_eq_true, Bool.and_eq_true, Bool.or_eq_false_iff, Bool.and_eq_false_iff, Bool.not_eq_true', Bool.not_eq_false', Bool.not_eq_true, Bool.not_eq_false, decide_eq_true_eq, decide_eq_false_iff_not, beq_iff_eq, bne_iff_ne, beq_eq_false_iff_ne, bne_eq_false_iff_eq, ne_eq, Int.not_lt, Int.not_le, D.b.injEq, D.i.injEq, D.s.injEq, D.agg.injEq, D.sl.injEq, true_and, and_true, List.cons.injEq, gt_iff_lt, ge_iff_le,  Bool.cond_true_left, Bool.cond_false_right, Bool.cond_true_right, Bool.cond_false_left, seq_iff, seq_dec, dec_f, dec_t, eqB_t, eqB_f] at *)
  all_goals (try (intros; trivial))
  all_goals (try (intros; omega))
  all_goals (try (rw [w64 (by omega) (by omega)]; first | done | omega))
  all_goals first
    | rfl
    | (rw [← hi.2, drop_getD zRAct (by omega), lightGo]; grind)
    | (rw [← hi.2, List.drop_of_length_le (by omega)]; rfl)
    | (have := hi.2; rw [drop_getD zRAct (by omega), lightGo] at this; grind)

end
/- midrange/remote.waits -/
noncomputable def cfg61 : Cfg := ⟨Try.prog, 36, tab12, mvs, [], (fun _ => none)⟩
theorem cfg61_pins : cfg61.pins = [] := rfl
theorem cfg61_P : cfg61.P = Try.prog := rfl
theorem cfg61_N : cfg61.N = 36 := rfl
section
attribute [local go_sem] cfg61_P cfg61_N cfg61_pins  sz3 ag3 zr3 zo3 zd3 by3 sl3 st3 bo3 pt3 sz4 ag4 zr4 zo4 zd4 by4 sl4 st4 bo4 pt4 sz9 ag9 zr9 zo9 zd9 by9 sl9 un9 st9 bo9 pt9 sz22 ag22 zr22 zo22 zd22 by22 el22 sl22 un22 st22 bo22 pt22 sz23 ag23 zr23 zo23 zd23 by23 el23 sl23 un23 st23 bo23 pt23 sz25 ag25 zr25 zd25 by25 sl25 st25 bo25 pt25 of25_0 fa25_0 of25_1 fa25_1 of25_2 fa25_2 of25_3 fa25_3 of25_4 fa25_4 of25_5 fa25_5 pl25 sz40 ag40 zr40 zd40 by40 sl40 st40 bo40 pt40 of40_0 fa40_0 of40_1 fa40_1 of40_2 fa40_2 of40_3 fa40_3 of40_4 fa40_4 pl40 ek40 sz42 ag42 zr42 zd42 by42 sl42 st42 bo42 pt42 of42_0 fa42_0 of42_1 fa42_1 of42_2 fa42_2 of42_3 fa42_3 pl42 ek42 sz66 ag66 zr66 zd66 by66 sl66 st66 bo66 pt66 of66_0 fa66_0 of66_1 fa66_1 pl66 ek66 
theorem con61 (hC : COk cfg61) (x : Remote) (hp : x.source.length ≤ 1000000 ∧ (x.acked ≠ x.source.length → 0 < x.source.length)) : Sem Try.prog 61 [.d (encRemote x)] (.d (.b (waits x))) := by
  refine sem_of_awR (C := cfg61) (rs := [.tmp 2]) (fun _ => []) Try.func61 rfl rfl rfl rfl rfl rfl ?_
  simp only [enterSl, enterHp, inO, inO2, inO1, inOs, List.append_nil, List.nil_append, Nat.mul_zero, List.cons_append, Nat.zero_add, Nat.reduceAdd, Nat.reduceMul, encChange, encEntry, ceqChange, ceqEntry, etaChange, etaEntry, zfChange, zfEntry, decChange, decEntry, seq_dec, encRemote, decRemote, encPacket, decPacket, encRAct, decRAct, etaRemote, zfRemote, etaPacket, zfPacket, ceqPacket, etaRAct, zfRAct, ceqRAct, getDz_Packet, getDz_RAct, dL_Packet, dL_RAct, dM_Entry, dM_Packet, getDz_Entry, dL_Entry, List.length_map, Int.toNat_natCast, Int.toNat_zero, Nat.sub_zero, ← List.map_take, ← List.map_drop, List.length_take, decL_sl, decM_cons, decM_nil, decM_append, take_map_snoc, dM_Entry, dM_Packet, dM_RAct]
  repeat' first
    | (with_reducible refine thenS_n ?_)
    | (with_reducible refine inBlockS_n ?_)
    | (with_reducible refine AW.seq ?_)
    | (with_reducible refine AW.block ?_)
    | (with_reducible refine AW.runK hC ?_; intro K hK)
    | (with_reducible refine AW.drawK hC (by kernel_rfl) ?_; intro K hK)
    | ((first | (with_reducible refine erun_g ?_) | (with_reducible refine edraw_g ?_) | (with_reducible refine exitS_g ?_)); simp (maxSteps := 1000000) only [go_sem, ↓reduceIte, reduceCtorEq, Nat.reduceEqDiff, Nat.reduceLT, Nat.reduceLeDiff, Nat.reduceMul, Nat.reduceAdd, Nat.reduceSub, reduceDIte, Nat.reduceBEq, Nat.reduceBNe, encChange, encEntry, ceqChange, ceqEntry, etaChange, etaEntry, zfChange, zfEntry, decChange, decEntry, seq_dec, encRemote, decRemote, encPacket, decPacket, encRAct, decRAct, etaRemote, zfRemote, etaPacket, zfPacket, ceqPacket, etaRAct, zfRAct, ceqRAct, getDz_Packet, getDz_RAct, dL_Packet, dL_RAct, dM_Entry, dM_Packet, getDz_Entry, dL_Entry, List.length_map, Int.toNat_natCast, Int.toNat_zero, Nat.sub_zero, ← List.map_take, ← List.map_drop, List.length_take, decL_sl, decM_cons, decM_nil, decM_append, take_map_snoc, dM_Entry, dM_Packet, dM_RAct]; (try simp (disch := omega) only [w64, wu8]))
    | (with_reducible refine hCheck_g (by kernel_rfl) ?_)
    | ((first | (refine AW.cond rfl (fun h => ?_) (fun h => ?_)) | (refine AW.cond_ub rfl (fun h => ?_) ?_) | (refine AW.cond_nb rfl ?_ (fun h => ?_))) <;> (try simp only [Bool.or_eq_true, Bool.and_eq_true, Bool.or_eq_false_iff, Bool.and_eq_false_iff, Bool.not_eq_true', Bool.not_eq_false', Bool.not_eq_true, Bool.not_eq_false, decide_eq_true_eq, decide_eq_false_iff_not, beq_iff_eq, bne_iff_ne, beq_eq_false_iff_ne, bne_eq_false_iff_eq, ne_eq, Int.not_lt, Int.not_le, D.b.injEq, D.i.injEq, D.s.injEq, D.agg.injEq, D.sl.injEq, true_and, and_true, List.cons.injEq, gt_iff_lt, ge_iff_le,  Bool.cond_true_left, Bool.cond_false_right, Bool.cond_true_right, Bool.cond_false_left, seq_iff, seq_dec, dec_f, dec_t, eqB_t, eqB_f] at h) <;> (try (exfalso; first | omega | exact absurd h (by decide))))
    | (with_reducible refine AW.skip ?_)
    | (with_reducible refine AW.exit ?_)
    | (with_reducible refine AW.ret ?_)
    | (with_reducible refine thenS_r ?_)
    | (with_reducible refine thenS_e ?_)
    | (with_reducible refine inBlockS_r ?_)
    | (with_reducible refine inBlockS_e ?_)
    | (with_reducible refine inBlockS_e2 rfl ?_)
    | (with_reducible refine exitQ_r ?_)
    | (with_reducible refine exitQ_n ?_)
    | (refine sub_auto ?_; simp (maxSteps := 1000000) only [forall_eq, V.ptr.injEq, V.row.injEq, V.rp.injEq, V.mref.injEq, exists_eq_left', and_assoc, rhoV, rhoVs, rhoSl, rhoO, rhoHp, rhoDd, rho1, HS.obj?, forall_eq', slSub, hpSub, hpSub1, nfL, vs, vss, vds, vd1, os, aget, go_sem, ↓reduceIte, reduceCtorEq, Nat.reduceEqDiff, Nat.reduceLT, Nat.reduceLeDiff, Nat.reduceMul, Nat.reduceAdd, Nat.reduceSub, reduceDIte, Nat.reduceBEq, Nat.reduceBNe, encChange, encEntry, ceqChange, ceqEntry, etaChange, etaEntry, zfChange, zfEntry, decChange, decEntry, seq_dec, encRemote, decRemote, encPacket, decPacket, encRAct, decRAct, etaRemote, zfRemote, etaPacket, zfPacket, ceqPacket, etaRAct, zfRAct, ceqRAct, getDz_Packet, getDz_RAct, dL_Packet, dL_RAct, dM_Entry, dM_Packet, getDz_Entry, dL_Entry, List.length_map, Int.toNat_natCast, Int.toNat_zero, Nat.sub_zero, ← List.map_take, ← List.map_drop, List.length_take, decL_sl, decM_cons, decM_nil, decM_append, take_map_snoc, dM_Entry, dM_Packet, dM_RAct])
    | (with_reducible refine And.intro ?_ ?_)
    | (subst hK)
  all_goals (try (intros; assumption))
  all_goals (try simp only [Bool.or_eq_true, Bool.and_eq_true, Bool.or_eq_false_iff, Bool.and_eq_false_iff, Bool.not_eq_true', Bool.not_eq_false', Bool.not_eq_true, Bool.not_eq_false, decide_eq_true_eq, decide_eq_false_iff_not, beq_iff_eq, bne_iff_ne, beq_eq_false_iff_ne, bne_eq_false_iff_eq, ne_eq, Int.not_lt, Int.not_le, D.b.injEq, D.i.injEq, D.s.injEq, D.agg.injEq, D.sl.injEq, true_and, and_true, List.cons.injEq, gt_iff_lt, ge_iff_le,  Bool.cond_true_left, Bool.cond_false_right, Bool.cond_true_right, Bool.cond_false_left, seq_iff, seq_dec, dec_f, dec_t, eqB_t, eqB_f] at *)
  all_goals (try (intros; trivial))
  all_goals (try (intros; omega))
  all_goals (try (rw [w64 (by omega) (by omega)]; first | done | omega))
  all_goals first
    | omega
    | grind [waits]
    | (rw [show ((x.source.length : Int) - 1).toNat = x.source.length - 1 by omega]; grind [waits])

end
/- slices.Delete[[]midrange/api.WirePacket,midrange/api.WirePacket] -/
noncomputable def cfg53 : Cfg := ⟨Try.prog, 33, tab61, mvs, [], (fun _ => none)⟩
theorem cfg53_pins : cfg53.pins = [] := rfl
theorem cfg53_P : cfg53.P = Try.prog := rfl
theorem cfg53_N : cfg53.N = 33 := rfl
section
attribute [local go_sem] cfg53_P cfg53_N cfg53_pins  sz3 ag3 zr3 zo3 zd3 by3 sl3 st3 bo3 pt3 sz23 ag23 zr23 zo23 zd23 by23 el23 sl23 un23 st23 bo23 pt23 sz66 ag66 zr66 zd66 by66 sl66 st66 bo66 pt66 of66_0 fa66_0 of66_1 fa66_1 pl66 ek66 
theorem con53 (hC : COk cfg53)  (l : List Packet) (n : Nat) (hp : l.length ≤ 1000000 ∧ n < l.length) : Sem Try.prog 53 [.own 66 2 (l.map encPacket), .d (.i .i64 (n : Int)), .d (.i .i64 ((n : Int) + 1))] (.own 66 2 ((l.eraseIdx n).map encPacket)) := by
  have e1 : ¬ n = l.length := by omega
  have e2 : ((n : Int) == (n : Int) + 1) = false := by rw [beq_eq_false_iff_ne]; omega
  have e3 : ((n : Int) + 1).toNat = n + 1 := by omega
  have e4 : n + 1 + (l.length - (n + 1)) ≤ l.length := by omega
  have e5 : min n l.length = n := by omega
  have e6 : n + (l.length - (n + 1)) ≤ n + (l.length - (n + 1)) + (l.length - (n + (l.length - (n + 1)))) := by omega
  refine sem_of_awR (C := cfg53) (rs := [.tmp 6]) (fun _ => [(0, 66, 2)]) Try.func53 rfl rfl rfl rfl rfl rfl ?_
  simp only [enterSl, enterHp, inO, inO2, inO1, inOs, List.append_nil, List.nil_append, Nat.mul_zero, List.cons_append, Nat.zero_add, Nat.reduceAdd, Nat.reduceMul, getDz_Entry, dL_Entry, List.length_map, Int.toNat_natCast, Int.toNat_zero, Nat.sub_zero, ← List.map_take, ← List.map_drop, List.length_take, decL_sl, decM_cons, decM_nil, decM_append, take_map_snoc, dM_Entry, dM_Packet, dM_RAct, e1, e2, e3, e4, e5, e6, Nat.min_self, List.length_drop]
  repeat' first
    | (with_reducible refine thenS_n ?_)
    | (with_reducible refine inBlockS_n ?_)
    | (with_reducible refine AW.seq ?_)
    | (with_reducible refine AW.block ?_)
    | (with_reducible refine AW.runK hC ?_; intro K hK)
    | (with_reducible refine AW.drawK hC (by kernel_rfl) ?_; intro K hK)
    | ((first | (with_reducible refine erun_g ?_) | (with_reducible refine edraw_g ?_) | (with_reducible refine exitS_g ?_)); simp (maxSteps := 1000000) only [go_sem, ↓reduceIte, reduceCtorEq, Nat.reduceEqDiff, Nat.reduceLT, Nat.reduceLeDiff, Nat.reduceMul, Nat.reduceAdd, Nat.reduceSub, reduceDIte, Nat.reduceBEq, Nat.reduceBNe, getDz_Entry, dL_Entry, List.length_map, Int.toNat_natCast, Int.toNat_zero, Nat.sub_zero, ← List.map_take, ← List.map_drop, List.length_take, decL_sl, decM_cons, decM_nil, decM_append, take_map_snoc, dM_Entry, dM_Packet, dM_RAct, e1, e2, e3, e4, e5, e6, Nat.min_self, List.length_drop]; (try simp (disch := omega) only [w64, wu8]))
    | (with_reducible refine hCheck_g (by kernel_rfl) ?_)
    | ((first | (refine AW.cond rfl (fun h => ?_) (fun h => ?_)) | (refine AW.cond_ub rfl (fun h => ?_) ?_) | (refine AW.cond_nb rfl ?_ (fun h => ?_))) <;> (try simp only [Bool.or_eq_true, Bool.and_eq_true, Bool.or_eq_false_iff, Bool.and_eq_false_iff, Bool.not_eq_true', Bool.not_eq_false', Bool.not_eq_true, Bool.not_eq_false, decide_eq_true_eq, decide_eq_false_iff_not, beq_iff_eq, bne_iff_ne, beq_eq_false_iff_ne, bne_eq_false_iff_eq, ne_eq, Int.not_lt, Int.not_le, D.b.injEq, D.i.injEq, D.s.injEq, D.agg.injEq, D.sl.injEq, true_and, and_true, List.cons.injEq, gt_iff_lt, ge_iff_le,  Bool.cond_true_left, Bool.cond_false_right, Bool.cond_true_right, Bool.cond_false_left, seq_iff, seq_dec, dec_f, dec_t, eqB_t, eqB_f] at h) <;> (try (exfalso; first | omega | exact absurd h (by decide))))
    | (with_reducible refine AW.skip ?_)
    | (with_reducible refine AW.exit ?_)
    | (with_reducible refine AW.ret ?_)
    | (with_reducible refine thenS_r ?_)
    | (with_reducible refine thenS_e ?_)
    | (with_reducible refine inBlockS_r ?_)
    | (with_reducible refine inBlockS_e ?_)
    | (with_reducible refine inBlockS_e2 rfl ?_)
    | (with_reducible refine exitQ_r ?_)
    | (with_reducible refine exitQ_n ?_)
    | (refine sub_auto ?_; simp (maxSteps := 1000000) only [forall_eq, V.ptr.injEq, V.row.injEq, V.rp.injEq, V.mref.injEq, exists_eq_left', and_assoc, rhoV, rhoVs, rhoSl, rhoO, rhoHp, rhoDd, rho1, HS.obj?, forall_eq', slSub, hpSub, hpSub1, nfL, vs, vss, vds, vd1, os, aget, go_sem, ↓reduceIte, reduceCtorEq, Nat.reduceEqDiff, Nat.reduceLT, Nat.reduceLeDiff, Nat.reduceMul, Nat.reduceAdd, Nat.reduceSub, reduceDIte, Nat.reduceBEq, Nat.reduceBNe, getDz_Entry, dL_Entry, List.length_map, Int.toNat_natCast, Int.toNat_zero, Nat.sub_zero, ← List.map_take, ← List.map_drop, List.length_take, decL_sl, decM_cons, decM_nil, decM_append, take_map_snoc, dM_Entry, dM_Packet, dM_RAct, e1, e2, e3, e4, e5, e6, Nat.min_self, List.length_drop])
    | (with_reducible refine And.intro ?_ ?_)
    | (subst hK)
  all_goals (try (intros; assumption))
  all_goals (try simp only [Bool.or_eq_true, Bool.and_eq_true, Bool.or_eq_false_iff, Bool.and_eq_false_iff, Bool.not_eq_true', Bool.not_eq_false', Bool.not_eq_true, Bool.not_eq_false, decide_eq_true_eq, decide_eq_false_iff_not, beq_iff_eq, bne_iff_ne, beq_eq_false_iff_ne, bne_eq_false_iff_eq, ne_eq, Int.not_lt, Int.not_le, D.b.injEq, D.i.injEq, D.s.injEq, D.agg.injEq, D.sl.injEq, true_and, and_true, List.cons.injEq, gt_iff_lt, ge_iff_le,  Bool.cond_true_left, Bool.cond_false_right, Bool.cond_true_right, Bool.cond_false_left, seq_iff, seq_dec, dec_f, dec_t, eqB_t, eqB_f] at *)
  all_goals (try (intros; trivial))
  all_goals (try (intros; omega))
  all_goals (try (rw [w64 (by omega) (by omega)]; first | done | omega))
  all_goals
    rw [if_pos (by omega)]
    refine ⟨by simp, by simp, rfl, rfl, dles_of_eq ?_⟩
    rw [List.take_take, Nat.min_self, ← List.map_append, ← List.map_append, ← List.map_take, List.take_left' (by simp; omega), List.eraseIdx_eq_take_drop_succ, List.take_of_length_le (i := l.length - (n + 1)) (by simp)]

end
/- midrange/remote.arrived -/
noncomputable def cfg54 : Cfg := ⟨Try.prog, 54, tab53, mvs, [], (fun _ => none)⟩
theorem cfg54_pins : cfg54.pins = [] := rfl
theorem cfg54_P : cfg54.P = Try.prog := rfl
theorem cfg54_N : cfg54.N = 54 := rfl
section
attribute [local go_sem] cfg54_P cfg54_N cfg54_pins  sz3 ag3 zr3 zo3 zd3 by3 sl3 st3 bo3 pt3 sz4 ag4 zr4 zo4 zd4 by4 sl4 st4 bo4 pt4 sz9 ag9 zr9 zo9 zd9 by9 sl9 un9 st9 bo9 pt9 sz22 ag22 zr22 zo22 zd22 by22 el22 sl22 un22 st22 bo22 pt22 sz23 ag23 zr23 zo23 zd23 by23 el23 sl23 un23 st23 bo23 pt23 sz25 ag25 zr25 zd25 by25 sl25 st25 bo25 pt25 of25_0 fa25_0 of25_1 fa25_1 of25_2 fa25_2 of25_3 fa25_3 of25_4 fa25_4 of25_5 fa25_5 pl25 sz40 ag40 zr40 zd40 by40 sl40 st40 bo40 pt40 of40_0 fa40_0 of40_1 fa40_1 of40_2 fa40_2 of40_3 fa40_3 of40_4 fa40_4 pl40 ek40 sz42 ag42 zr42 zd42 by42 sl42 st42 bo42 pt42 of42_0 fa42_0 of42_1 fa42_1 of42_2 fa42_2 of42_3 fa42_3 pl42 ek42 sz66 ag66 zr66 zd66 by66 sl66 st66 bo66 pt66 of66_0 fa66_0 of66_1 fa66_1 pl66 ek66 
theorem con54 (hC : COk cfg54) (x : Remote) (p : Packet) (hp : x.source.length ≤ 1000000 ∧ x.target.length ≤ 1000000 ∧ x.wire.length ≤ 1000000 ∧ (p.kind ≠ 1 → p.number = x.target.length + 1 → x.target.length < x.source.length)) : Sem Try.prog 54 [ownRemote x, .d (encPacket p)] (.d (encRemote (arrivedR x p))) := by
  refine sem_of_awR (C := cfg54) (rs := [.cell 4 25]) (fun _ => []) Try.func54 rfl rfl rfl rfl rfl rfl ?_
  simp only [enterSl, enterHp, inO, inO2, inO1, inOs, List.append_nil, List.nil_append, Nat.mul_zero, List.cons_append, Nat.zero_add, Nat.reduceAdd, Nat.reduceMul, ownRemote, encChange, encEntry, ceqChange, ceqEntry, etaChange, etaEntry, zfChange, zfEntry, decChange, decEntry, seq_dec, encRemote, decRemote, encPacket, decPacket, encRAct, decRAct, etaRemote, zfRemote, etaPacket, zfPacket, ceqPacket, etaRAct, zfRAct, ceqRAct, getDz_Packet, getDz_RAct, dL_Packet, dL_RAct, dM_Entry, dM_Packet, getDz_Entry, dL_Entry, List.length_map, Int.toNat_natCast, Int.toNat_zero, Nat.sub_zero, ← List.map_take, ← List.map_drop, List.length_take, decL_sl, decM_cons, decM_nil, decM_append, take_map_snoc, dM_Entry, dM_Packet, dM_RAct]
  repeat' first
    | (with_reducible refine thenS_n ?_)
    | (with_reducible refine inBlockS_n ?_)
    | (with_reducible refine AW.seq ?_)
    | (with_reducible refine AW.block ?_)
    | (with_reducible refine AW.runK hC ?_; intro K hK)
    | (with_reducible refine AW.drawK hC (by kernel_rfl) ?_; intro K hK)
    | ((first | (with_reducible refine erun_g ?_) | (with_reducible refine edraw_g ?_) | (with_reducible refine exitS_g ?_)); simp (maxSteps := 1000000) only [go_sem, ↓reduceIte, reduceCtorEq, Nat.reduceEqDiff, Nat.reduceLT, Nat.reduceLeDiff, Nat.reduceMul, Nat.reduceAdd, Nat.reduceSub, reduceDIte, Nat.reduceBEq, Nat.reduceBNe, ownRemote, encChange, encEntry, ceqChange, ceqEntry, etaChange, etaEntry, zfChange, zfEntry, decChange, decEntry, seq_dec, encRemote, decRemote, encPacket, decPacket, encRAct, decRAct, etaRemote, zfRemote, etaPacket, zfPacket, ceqPacket, etaRAct, zfRAct, ceqRAct, getDz_Packet, getDz_RAct, dL_Packet, dL_RAct, dM_Entry, dM_Packet, getDz_Entry, dL_Entry, List.length_map, Int.toNat_natCast, Int.toNat_zero, Nat.sub_zero, ← List.map_take, ← List.map_drop, List.length_take, decL_sl, decM_cons, decM_nil, decM_append, take_map_snoc, dM_Entry, dM_Packet, dM_RAct]; (try simp (disch := omega) only [w64, wu8]))
    | (with_reducible refine hCheck_g (by kernel_rfl) ?_)
    | ((first | (refine AW.cond rfl (fun h => ?_) (fun h => ?_)) | (refine AW.cond_ub rfl (fun h => ?_) ?_) | (refine AW.cond_nb rfl ?_ (fun h => ?_))) <;> (try simp only [Bool.or_eq_true, Bool.and_eq_true, Bool.or_eq_false_iff, Bool.and_eq_false_iff, Bool.not_eq_true', Bool.not_eq_false', Bool.not_eq_true, Bool.not_eq_false, decide_eq_true_eq, decide_eq_false_iff_not, beq_iff_eq, bne_iff_ne, beq_eq_false_iff_ne, bne_eq_false_iff_eq, ne_eq, Int.not_lt, Int.not_le, D.b.injEq, D.i.injEq, D.s.injEq, D.agg.injEq, D.sl.injEq, true_and, and_true, List.cons.injEq, gt_iff_lt, ge_iff_le,  Bool.cond_true_left, Bool.cond_false_right, Bool.cond_true_right, Bool.cond_false_left, seq_iff, seq_dec, dec_f, dec_t, eqB_t, eqB_f] at h) <;> (try (exfalso; first | omega | exact absurd h (by decide))))
    | (with_reducible refine AW.skip ?_)
    | (with_reducible refine AW.exit ?_)
    | (with_reducible refine AW.ret ?_)
    | (with_reducible refine thenS_r ?_)
    | (with_reducible refine thenS_e ?_)
    | (with_reducible refine inBlockS_r ?_)
    | (with_reducible refine inBlockS_e ?_)
    | (with_reducible refine inBlockS_e2 rfl ?_)
    | (with_reducible refine exitQ_r ?_)
    | (with_reducible refine exitQ_n ?_)
    | (refine sub_auto ?_; simp (maxSteps := 1000000) only [forall_eq, V.ptr.injEq, V.row.injEq, V.rp.injEq, V.mref.injEq, exists_eq_left', and_assoc, rhoV, rhoVs, rhoSl, rhoO, rhoHp, rhoDd, rho1, HS.obj?, forall_eq', slSub, hpSub, hpSub1, nfL, vs, vss, vds, vd1, os, aget, go_sem, ↓reduceIte, reduceCtorEq, Nat.reduceEqDiff, Nat.reduceLT, Nat.reduceLeDiff, Nat.reduceMul, Nat.reduceAdd, Nat.reduceSub, reduceDIte, Nat.reduceBEq, Nat.reduceBNe, ownRemote, encChange, encEntry, ceqChange, ceqEntry, etaChange, etaEntry, zfChange, zfEntry, decChange, decEntry, seq_dec, encRemote, decRemote, encPacket, decPacket, encRAct, decRAct, etaRemote, zfRemote, etaPacket, zfPacket, ceqPacket, etaRAct, zfRAct, ceqRAct, getDz_Packet, getDz_RAct, dL_Packet, dL_RAct, dM_Entry, dM_Packet, getDz_Entry, dL_Entry, List.length_map, Int.toNat_natCast, Int.toNat_zero, Nat.sub_zero, ← List.map_take, ← List.map_drop, List.length_take, decL_sl, decM_cons, decM_nil, decM_append, take_map_snoc, dM_Entry, dM_Packet, dM_RAct])
    | (with_reducible refine And.intro ?_ ?_)
    | (subst hK)
  all_goals (try (intros; assumption))
  all_goals (try simp only [Bool.or_eq_true, Bool.and_eq_true, Bool.or_eq_false_iff, Bool.and_eq_false_iff, Bool.not_eq_true', Bool.not_eq_false', Bool.not_eq_true, Bool.not_eq_false, decide_eq_true_eq, decide_eq_false_iff_not, beq_iff_eq, bne_iff_ne, beq_eq_false_iff_ne, bne_eq_false_iff_eq, ne_eq, Int.not_lt, Int.not_le, D.b.injEq, D.i.injEq, D.s.injEq, D.agg.injEq, D.sl.injEq, true_and, and_true, List.cons.injEq, gt_iff_lt, ge_iff_le,  Bool.cond_true_left, Bool.cond_false_right, Bool.cond_true_right, Bool.cond_false_left, seq_iff, seq_dec, dec_f, dec_t, eqB_t, eqB_f] at *)
  all_goals (try (intros; trivial))
  all_goals (try (intros; omega))
  all_goals (try (rw [w64 (by omega) (by omega)]; first | done | omega))
  all_goals first
    | (intro d hd; subst hd; exact ⟨rfl, by simp [D.cells, D.one]⟩)
    | (simp only [arrivedR]; (repeat' split) <;> first | rfl | omega | (exfalso; omega) | (simp_all; done) | (exfalso; simp_all; done))
    | (refine dles_of_eq ?_; simp only [arrivedR]; (repeat' split) <;> first | rfl | omega | (exfalso; omega) | (simp_all; done) | (simp_all [encEntry, encPacket]; done))

end
/- midrange/remote.appended -/
noncomputable def cfg52 : Cfg := ⟨Try.prog, 42, tab54, mvs, [], (fun _ => none)⟩
theorem cfg52_ti45 : cfg52.ti 45 = none := rfl
theorem cfg52_ti61 : cfg52.ti 61 = none := rfl
theorem cfg52_pins : cfg52.pins = [] := rfl
theorem cfg52_P : cfg52.P = Try.prog := rfl
theorem cfg52_N : cfg52.N = 42 := rfl
theorem cfg52_T45 : cfg52.T 45 = e45 := rfl
theorem cfg52_mv45 : cfg52.mv 45 = (fun _ => []) := rfl
theorem cfg52_T61 : cfg52.T 61 = e61 := rfl
theorem cfg52_mv61 : cfg52.mv 61 = (fun _ => []) := rfl
section
attribute [local go_sem] cfg52_P cfg52_N cfg52_pins cfg52_ti45 cfg52_ti61 cfg52_T45 e45 cfg52_mv45 cfg52_T61 e61 cfg52_mv61 sz3 ag3 zr3 zo3 zd3 by3 sl3 st3 bo3 pt3 sz4 ag4 zr4 zo4 zd4 by4 sl4 st4 bo4 pt4 sz9 ag9 zr9 zo9 zd9 by9 sl9 un9 st9 bo9 pt9 sz22 ag22 zr22 zo22 zd22 by22 el22 sl22 un22 st22 bo22 pt22 sz23 ag23 zr23 zo23 zd23 by23 el23 sl23 un23 st23 bo23 pt23 sz25 ag25 zr25 zd25 by25 sl25 st25 bo25 pt25 of25_0 fa25_0 of25_1 fa25_1 of25_2 fa25_2 of25_3 fa25_3 of25_4 fa25_4 of25_5 fa25_5 pl25 sz30 ag30 zr30 zo30 zd30 by30 sl30 st30 bo30 pt30 sz40 ag40 zr40 zd40 by40 sl40 st40 bo40 pt40 of40_0 fa40_0 of40_1 fa40_1 of40_2 fa40_2 of40_3 fa40_3 of40_4 fa40_4 pl40 ek40 sz42 ag42 zr42 zd42 by42 sl42 st42 bo42 pt42 of42_0 fa42_0 of42_1 fa42_1 of42_2 fa42_2 of42_3 fa42_3 pl42 ek42 sz66 ag66 zr66 zd66 by66 sl66 st66 bo66 pt66 of66_0 fa66_0 of66_1 fa66_1 pl66 ek66 
theorem con52 (hC : COk cfg52) (x : Remote) (entry : Entry) (hp : x.source.length ≤ 1000000 ∧ x.target.length ≤ 1000000 ∧ x.wire.length ≤ 1000000 ∧ (x.acked ≠ x.source.length → 0 < x.source.length)) : Sem Try.prog 52 [ownRemote x, .d (encEntry entry)] (.tup [.d (encRemote (appendedR x entry).1), .d (.i .i64 (appendedR x entry).2)]) := by
  refine sem_of_awR (C := cfg52) (rs := [.cell 4 25, .tmp 5]) (fun _ => []) Try.func52 rfl rfl rfl rfl rfl rfl ?_
  simp only [enterSl, enterHp, inO, inO2, inO1, inOs, List.append_nil, List.nil_append, Nat.mul_zero, List.cons_append, Nat.zero_add, Nat.reduceAdd, Nat.reduceMul, ownRemote, encChange, encEntry, ceqChange, ceqEntry, etaChange, etaEntry, zfChange, zfEntry, decChange, decEntry, seq_dec, encRemote, decRemote, encPacket, decPacket, encRAct, decRAct, etaRemote, zfRemote, etaPacket, zfPacket, ceqPacket, etaRAct, zfRAct, ceqRAct, getDz_Packet, getDz_RAct, dL_Packet, dL_RAct, dM_Entry, dM_Packet, getDz_Entry, dL_Entry, List.length_map, Int.toNat_natCast, Int.toNat_zero, Nat.sub_zero, ← List.map_take, ← List.map_drop, List.length_take, decL_sl, decM_cons, decM_nil, decM_append, take_map_snoc, dM_Entry, dM_Packet, dM_RAct]
  repeat' first
    | (with_reducible refine thenS_n ?_)
    | (with_reducible refine inBlockS_n ?_)
    | (with_reducible refine AW.seq ?_)
    | (with_reducible refine AW.block ?_)
    | (with_reducible refine AW.runK hC ?_; intro K hK)
    | (with_reducible refine AW.drawK hC (by kernel_rfl) ?_; intro K hK)
    | ((first | (with_reducible refine erun_g ?_) | (with_reducible refine edraw_g ?_) | (with_reducible refine exitS_g ?_)); simp (maxSteps := 1000000) only [go_sem, ↓reduceIte, reduceCtorEq, Nat.reduceEqDiff, Nat.reduceLT, Nat.reduceLeDiff, Nat.reduceMul, Nat.reduceAdd, Nat.reduceSub, reduceDIte, Nat.reduceBEq, Nat.reduceBNe, ownRemote, encChange, encEntry, ceqChange, ceqEntry, etaChange, etaEntry, zfChange, zfEntry, decChange, decEntry, seq_dec, encRemote, decRemote, encPacket, decPacket, encRAct, decRAct, etaRemote, zfRemote, etaPacket, zfPacket, ceqPacket, etaRAct, zfRAct, ceqRAct, getDz_Packet, getDz_RAct, dL_Packet, dL_RAct, dM_Entry, dM_Packet, getDz_Entry, dL_Entry, List.length_map, Int.toNat_natCast, Int.toNat_zero, Nat.sub_zero, ← List.map_take, ← List.map_drop, List.length_take, decL_sl, decM_cons, decM_nil, decM_append, take_map_snoc, dM_Entry, dM_Packet, dM_RAct]; (try simp (disch := omega) only [w64, wu8]))
    | (with_reducible refine hCheck_g (by kernel_rfl) ?_)
    | ((first | (refine AW.cond rfl (fun h => ?_) (fun h => ?_)) | (refine AW.cond_ub rfl (fun h => ?_) ?_) | (refine AW.cond_nb rfl ?_ (fun h => ?_))) <;> (try simp only [Bool.or_eq_true, Bool.and_eq_true, Bool.or_eq_false_iff, Bool.and_eq_false_iff, Bool.not_eq_true', Bool.not_eq_false', Bool.not_eq_true, Bool.not_eq_false, decide_eq_true_eq, decide_eq_false_iff_not, beq_iff_eq, bne_iff_ne, beq_eq_false_iff_ne, bne_eq_false_iff_eq, ne_eq, Int.not_lt, Int.not_le, D.b.injEq, D.i.injEq, D.s.injEq, D.agg.injEq, D.sl.injEq, true_and, and_true, List.cons.injEq, gt_iff_lt, ge_iff_le,  Bool.cond_true_left, Bool.cond_false_right, Bool.cond_true_right, Bool.cond_false_left, seq_iff, seq_dec, dec_f, dec_t, eqB_t, eqB_f] at h) <;> (try (exfalso; first | omega | exact absurd h (by decide))))
    | (with_reducible refine AW.skip ?_)
    | (with_reducible refine AW.exit ?_)
    | (with_reducible refine AW.ret ?_)
    | (with_reducible refine thenS_r ?_)
    | (with_reducible refine thenS_e ?_)
    | (with_reducible refine inBlockS_r ?_)
    | (with_reducible refine inBlockS_e ?_)
    | (with_reducible refine inBlockS_e2 rfl ?_)
    | (with_reducible refine exitQ_r ?_)
    | (with_reducible refine exitQ_n ?_)
    | (refine sub_auto ?_; simp (maxSteps := 1000000) only [forall_eq, V.ptr.injEq, V.row.injEq, V.rp.injEq, V.mref.injEq, exists_eq_left', and_assoc, rhoV, rhoVs, rhoSl, rhoO, rhoHp, rhoDd, rho1, HS.obj?, forall_eq', slSub, hpSub, hpSub1, nfL, vs, vss, vds, vd1, os, aget, go_sem, ↓reduceIte, reduceCtorEq, Nat.reduceEqDiff, Nat.reduceLT, Nat.reduceLeDiff, Nat.reduceMul, Nat.reduceAdd, Nat.reduceSub, reduceDIte, Nat.reduceBEq, Nat.reduceBNe, ownRemote, encChange, encEntry, ceqChange, ceqEntry, etaChange, etaEntry, zfChange, zfEntry, decChange, decEntry, seq_dec, encRemote, decRemote, encPacket, decPacket, encRAct, decRAct, etaRemote, zfRemote, etaPacket, zfPacket, ceqPacket, etaRAct, zfRAct, ceqRAct, getDz_Packet, getDz_RAct, dL_Packet, dL_RAct, dM_Entry, dM_Packet, getDz_Entry, dL_Entry, List.length_map, Int.toNat_natCast, Int.toNat_zero, Nat.sub_zero, ← List.map_take, ← List.map_drop, List.length_take, decL_sl, decM_cons, decM_nil, decM_append, take_map_snoc, dM_Entry, dM_Packet, dM_RAct])
    | (with_reducible refine And.intro ?_ ?_)
    | (subst hK)
  all_goals (try (intros; assumption))
  all_goals (try simp only [Bool.or_eq_true, Bool.and_eq_true, Bool.or_eq_false_iff, Bool.and_eq_false_iff, Bool.not_eq_true', Bool.not_eq_false', Bool.not_eq_true, Bool.not_eq_false, decide_eq_true_eq, decide_eq_false_iff_not, beq_iff_eq, bne_iff_ne, beq_eq_false_iff_ne, bne_eq_false_iff_eq, ne_eq, Int.not_lt, Int.not_le, D.b.injEq, D.i.injEq, D.s.injEq, D.agg.injEq, D.sl.injEq, true_and, and_true, List.cons.injEq, gt_iff_lt, ge_iff_le,  Bool.cond_true_left, Bool.cond_false_right, Bool.cond_true_right, Bool.cond_false_left, seq_iff, seq_dec, dec_f, dec_t, eqB_t, eqB_f] at *)
  all_goals (try (intros; trivial))
  all_goals (try (intros; omega))
  all_goals (try (rw [w64 (by omega) (by omega)]; first | done | omega))
  all_goals first
    | (intro d hd; subst hd; exact ⟨rfl, by simp [D.cells, D.one]⟩)
    | (simp only [appendedR, zRemote]; (repeat' split) <;> first | rfl | omega | (exfalso; omega) | (simp_all; done) | (exfalso; simp_all; done))
    | (refine dles_of_eq ?_; simp only [appendedR, zRemote]; (repeat' split) <;> first | rfl | omega | (exfalso; omega) | (simp_all; done) | (simp_all [encEntry, encPacket]; done))

end
/- midrange/remote.act -/
noncomputable def cfg37 : Cfg := ⟨Try.prog, 162, tab52, mvs, [], (fun _ => none)⟩
theorem cfg37_ti36 : cfg37.ti 36 = none := rfl
theorem cfg37_ti52 : cfg37.ti 52 = none := rfl
theorem cfg37_ti53 : cfg37.ti 53 = none := rfl
theorem cfg37_ti54 : cfg37.ti 54 = none := rfl
theorem cfg37_pins : cfg37.pins = [] := rfl
theorem cfg37_P : cfg37.P = Try.prog := rfl
theorem cfg37_N : cfg37.N = 162 := rfl
theorem cfg37_T36 : cfg37.T 36 = e36 := rfl
theorem cfg37_mv36 : cfg37.mv 36 = (fun _ => []) := rfl
theorem cfg37_T52 : cfg37.T 52 = e52 := rfl
theorem cfg37_mv52 : cfg37.mv 52 = (fun j => if j = 0 then [(1, 42, 8), (2, 42, 8), (5, 66, 2)] else []) := rfl
theorem cfg37_T53 : cfg37.T 53 = e53 := rfl
theorem cfg37_mv53 : cfg37.mv 53 = (fun j => if j = 0 then [(0, 66, 2)] else []) := rfl
theorem cfg37_T54 : cfg37.T 54 = e54 := rfl
theorem cfg37_mv54 : cfg37.mv 54 = (fun j => if j = 0 then [(1, 42, 8), (2, 42, 8), (5, 66, 2)] else []) := rfl
section
attribute [local go_sem] cfg37_P cfg37_N cfg37_pins cfg37_ti36 cfg37_ti52 cfg37_ti53 cfg37_ti54 cfg37_T36 e36 cfg37_mv36 cfg37_T52 e52 cfg37_mv52 cfg37_T53 e53 cfg37_mv53 cfg37_T54 e54 cfg37_mv54 sz3 ag3 zr3 zo3 zd3 by3 sl3 st3 bo3 pt3 sz4 ag4 zr4 zo4 zd4 by4 sl4 st4 bo4 pt4 sz9 ag9 zr9 zo9 zd9 by9 sl9 un9 st9 bo9 pt9 sz22 ag22 zr22 zo22 zd22 by22 el22 sl22 un22 st22 bo22 pt22 sz23 ag23 zr23 zo23 zd23 by23 el23 sl23 un23 st23 bo23 pt23 sz25 ag25 zr25 zd25 by25 sl25 st25 bo25 pt25 of25_0 fa25_0 of25_1 fa25_1 of25_2 fa25_2 of25_3 fa25_3 of25_4 fa25_4 of25_5 fa25_5 pl25 sz40 ag40 zr40 zd40 by40 sl40 st40 bo40 pt40 of40_0 fa40_0 of40_1 fa40_1 of40_2 fa40_2 of40_3 fa40_3 of40_4 fa40_4 pl40 ek40 sz42 ag42 zr42 zd42 by42 sl42 st42 bo42 pt42 of42_0 fa42_0 of42_1 fa42_1 of42_2 fa42_2 of42_3 fa42_3 pl42 ek42 sz44 ag44 zr44 zd44 by44 sl44 st44 bo44 pt44 of44_0 fa44_0 of44_1 fa44_1 of44_2 fa44_2 pl44 ek44 sz66 ag66 zr66 zd66 by66 sl66 st66 bo66 pt66 of66_0 fa66_0 of66_1 fa66_1 pl66 ek66 
theorem con37 (hC : COk cfg37) (x : Remote) (a : RAct) (hp : goodR x) : Sem Try.prog 37 [.d (encRemote x), .d (encRAct a)] (.tup [.d (encRemote (actR x a).1), .d (.i .i64 (actR x a).2)]) := by
  obtain ⟨g1, g2, g3, g4, g5, g6, g7, g8, g9⟩ := hp
  refine sem_of_awR (C := cfg37) (rs := [.cell 4 25, .tmp 5]) (fun _ => []) Try.func37 rfl rfl rfl rfl rfl rfl ?_
  simp only [enterSl, enterHp, inO, inO2, inO1, inOs, List.append_nil, List.nil_append, Nat.mul_zero, List.cons_append, Nat.zero_add, Nat.reduceAdd, Nat.reduceMul, decOwnRemote, encChange, encEntry, ceqChange, ceqEntry, etaChange, etaEntry, zfChange, zfEntry, decChange, decEntry, seq_dec, encRemote, decRemote, encPacket, decPacket, encRAct, decRAct, etaRemote, zfRemote, etaPacket, zfPacket, ceqPacket, etaRAct, zfRAct, ceqRAct, getDz_Packet, getDz_RAct, dL_Packet, dL_RAct, dM_Entry, dM_Packet, getDz_Entry, dL_Entry, List.length_map, Int.toNat_natCast, Int.toNat_zero, Nat.sub_zero, ← List.map_take, ← List.map_drop, List.length_take, decL_sl, decM_cons, decM_nil, decM_append, take_map_snoc, dM_Entry, dM_Packet, dM_RAct]
  repeat' first
    | (with_reducible refine thenS_n ?_)
    | (with_reducible refine inBlockS_n ?_)
    | (with_reducible refine AW.seq ?_)
    | (with_reducible refine AW.block ?_)
    | (with_reducible refine AW.runK hC ?_; intro K hK)
    | (with_reducible refine AW.drawK hC (by kernel_rfl) ?_; intro K hK)
    | ((first | (with_reducible refine erun_g ?_) | (with_reducible refine edraw_g ?_) | (with_reducible refine exitS_g ?_)); simp (maxSteps := 1000000) only [go_sem, ↓reduceIte, reduceCtorEq, Nat.reduceEqDiff, Nat.reduceLT, Nat.reduceLeDiff, Nat.reduceMul, Nat.reduceAdd, Nat.reduceSub, reduceDIte, Nat.reduceBEq, Nat.reduceBNe, decOwnRemote, encChange, encEntry, ceqChange, ceqEntry, etaChange, etaEntry, zfChange, zfEntry, decChange, decEntry, seq_dec, encRemote, decRemote, encPacket, decPacket, encRAct, decRAct, etaRemote, zfRemote, etaPacket, zfPacket, ceqPacket, etaRAct, zfRAct, ceqRAct, getDz_Packet, getDz_RAct, dL_Packet, dL_RAct, dM_Entry, dM_Packet, getDz_Entry, dL_Entry, List.length_map, Int.toNat_natCast, Int.toNat_zero, Nat.sub_zero, ← List.map_take, ← List.map_drop, List.length_take, decL_sl, decM_cons, decM_nil, decM_append, take_map_snoc, dM_Entry, dM_Packet, dM_RAct]; (try simp (disch := omega) only [w64, wu8]))
    | (with_reducible refine hCheck_g (by kernel_rfl) ?_)
    | ((first | (refine AW.cond rfl (fun h => ?_) (fun h => ?_)) | (refine AW.cond_ub rfl (fun h => ?_) ?_) | (refine AW.cond_nb rfl ?_ (fun h => ?_))) <;> (try simp only [Bool.or_eq_true, Bool.and_eq_true, Bool.or_eq_false_iff, Bool.and_eq_false_iff, Bool.not_eq_true', Bool.not_eq_false', Bool.not_eq_true, Bool.not_eq_false, decide_eq_true_eq, decide_eq_false_iff_not, beq_iff_eq, bne_iff_ne, beq_eq_false_iff_ne, bne_eq_false_iff_eq, ne_eq, Int.not_lt, Int.not_le, D.b.injEq, D.i.injEq, D.s.injEq, D.agg.injEq, D.sl.injEq, true_and, and_true, List.cons.injEq, gt_iff_lt, ge_iff_le,  Bool.cond_true_left, Bool.cond_false_right, Bool.cond_true_right, Bool.cond_false_left, seq_iff, seq_dec, dec_f, dec_t, eqB_t, eqB_f] at h) <;> (try (exfalso; first | omega | exact absurd h (by decide))))
    | (with_reducible refine AW.skip ?_)
    | (with_reducible refine AW.exit ?_)
    | (with_reducible refine AW.ret ?_)
    | (with_reducible refine thenS_r ?_)
    | (with_reducible refine thenS_e ?_)
    | (with_reducible refine inBlockS_r ?_)
    | (with_reducible refine inBlockS_e ?_)
    | (with_reducible refine inBlockS_e2 rfl ?_)
    | (with_reducible refine exitQ_r ?_)
    | (with_reducible refine exitQ_n ?_)
    | (refine sub_auto ?_; simp (maxSteps := 1000000) only [forall_eq, V.ptr.injEq, V.row.injEq, V.rp.injEq, V.mref.injEq, exists_eq_left', and_assoc, rhoV, rhoVs, rhoSl, rhoO, rhoHp, rhoDd, rho1, HS.obj?, forall_eq', slSub, hpSub, hpSub1, nfL, vs, vss, vds, vd1, os, aget, go_sem, ↓reduceIte, reduceCtorEq, Nat.reduceEqDiff, Nat.reduceLT, Nat.reduceLeDiff, Nat.reduceMul, Nat.reduceAdd, Nat.reduceSub, reduceDIte, Nat.reduceBEq, Nat.reduceBNe, decOwnRemote, encChange, encEntry, ceqChange, ceqEntry, etaChange, etaEntry, zfChange, zfEntry, decChange, decEntry, seq_dec, encRemote, decRemote, encPacket, decPacket, encRAct, decRAct, etaRemote, zfRemote, etaPacket, zfPacket, ceqPacket, etaRAct, zfRAct, ceqRAct, getDz_Packet, getDz_RAct, dL_Packet, dL_RAct, dM_Entry, dM_Packet, getDz_Entry, dL_Entry, List.length_map, Int.toNat_natCast, Int.toNat_zero, Nat.sub_zero, ← List.map_take, ← List.map_drop, List.length_take, decL_sl, decM_cons, decM_nil, decM_append, take_map_snoc, dM_Entry, dM_Packet, dM_RAct])
    | (with_reducible refine And.intro ?_ ?_)
    | (subst hK)
  all_goals (try (intros; assumption))
  all_goals (try simp only [Bool.or_eq_true, Bool.and_eq_true, Bool.or_eq_false_iff, Bool.and_eq_false_iff, Bool.not_eq_true', Bool.not_eq_false', Bool.not_eq_true, Bool.not_eq_false, decide_eq_true_eq, decide_eq_false_iff_not, beq_iff_eq, bne_iff_ne, beq_eq_false_iff_ne, bne_eq_false_iff_eq, ne_eq, Int.not_lt, Int.not_le, D.b.injEq, D.i.injEq, D.s.injEq, D.agg.injEq, D.sl.injEq, true_and, and_true, List.cons.injEq, gt_iff_lt, ge_iff_le,  Bool.cond_true_left, Bool.cond_false_right, Bool.cond_true_right, Bool.cond_false_left, seq_iff, seq_dec, dec_f, dec_t, eqB_t, eqB_f] at *)
  all_goals (try (intros; trivial))
  all_goals (try (intros; omega))
  all_goals (try (rw [w64 (by omega) (by omega)]; first | done | omega))
  all_goals first
    | (intro d hd; subst hd; exact ⟨rfl, by simp [D.cells, D.one]⟩)
    | omega
    | (rw [List.length_eraseIdx]; split <;> omega)
    | (intro hk hn; have := g8 a.n.toNat (by omega) hk; omega)
    | (clear hC g8 g9; simp only [actR]; (repeat' split) <;> first | rfl | omega | (exfalso; omega) | (simp_all; done) | (exfalso; simp_all; omega))
    | (clear hC g8 g9; refine dles_of_eq ?_; simp only [actR]; (repeat' split) <;> first | rfl | omega | (exfalso; omega) | (simp_all [encEntry, encPacket]; done) | (exfalso; simp_all; omega))
    | (clear hC g8 g9; rw [actR, if_neg (by omega), if_pos (h.elim (fun h => .inl ⟨by omega, h.2⟩) .inr)])
    | (clear hC g8 g9; rename_i hq; rw [actR, if_neg (by omega), if_neg (by rcases hq with ⟨hq1, hq2 | hq2⟩ <;> (intro hn; rcases hn with ⟨hn1, hn2⟩ | ⟨hn1, hn2⟩ <;> first | omega | exact hn2 hq2)), if_pos ⟨by omega, h.2⟩])

end
/- midrange/remote.copied -/
noncomputable def cfg36d : Cfg := ⟨Try.prog, 16, tab37, mvs, [], (fun _ => none)⟩
theorem cfg36d_ti44 : cfg36d.ti 44 = none := rfl
theorem cfg36d_ti51 : cfg36d.ti 51 = none := rfl
theorem cfg36d_pins : cfg36d.pins = [] := rfl
theorem cfg36d_P : cfg36d.P = Try.prog := rfl
theorem cfg36d_N : cfg36d.N = 16 := rfl
theorem cfg36d_T44 : cfg36d.T 44 = e44 := rfl
theorem cfg36d_mv44 : cfg36d.mv 44 = (fun _ => []) := rfl
theorem cfg36d_T51 : cfg36d.T 51 = e51 := rfl
theorem cfg36d_mv51 : cfg36d.mv 51 = (fun _ => []) := rfl
section
attribute [local go_sem] cfg36d_P cfg36d_N cfg36d_pins cfg36d_ti44 cfg36d_ti51 cfg36d_T44 e44 cfg36d_mv44 cfg36d_T51 e51 cfg36d_mv51 sz3 ag3 zr3 zo3 zd3 by3 sl3 st3 bo3 pt3 sz4 ag4 zr4 zo4 zd4 by4 sl4 st4 bo4 pt4 sz9 ag9 zr9 zo9 zd9 by9 sl9 un9 st9 bo9 pt9 sz22 ag22 zr22 zo22 zd22 by22 el22 sl22 un22 st22 bo22 pt22 sz23 ag23 zr23 zo23 zd23 by23 el23 sl23 un23 st23 bo23 pt23 sz25 ag25 zr25 zd25 by25 sl25 st25 bo25 pt25 of25_0 fa25_0 of25_1 fa25_1 of25_2 fa25_2 of25_3 fa25_3 of25_4 fa25_4 of25_5 fa25_5 pl25 sz40 ag40 zr40 zd40 by40 sl40 st40 bo40 pt40 of40_0 fa40_0 of40_1 fa40_1 of40_2 fa40_2 of40_3 fa40_3 of40_4 fa40_4 pl40 ek40 sz42 ag42 zr42 zd42 by42 sl42 st42 bo42 pt42 of42_0 fa42_0 of42_1 fa42_1 of42_2 fa42_2 of42_3 fa42_3 pl42 ek42 sz66 ag66 zr66 zd66 by66 sl66 st66 bo66 pt66 of66_0 fa66_0 of66_1 fa66_1 pl66 ek66 
theorem con36d (hC : COk cfg36d) (x : Remote) (hp : x.source.length ≤ 1000000 ∧ x.target.length ≤ 1000000 ∧ x.wire.length ≤ 1000000) : Sem Try.prog 36 [.d (encRemote x)] (.d (encRemote x)) := by
  refine sem_of_awR (C := cfg36d) (rs := [.cell 2 25]) (fun _ => []) Try.func36 rfl rfl rfl rfl rfl rfl ?_
  simp only [enterSl, enterHp, inO, inO2, inO1, inOs, List.append_nil, List.nil_append, Nat.mul_zero, List.cons_append, Nat.zero_add, Nat.reduceAdd, Nat.reduceMul, encChange, encEntry, ceqChange, ceqEntry, etaChange, etaEntry, zfChange, zfEntry, decChange, decEntry, seq_dec, encRemote, decRemote, encPacket, decPacket, encRAct, decRAct, etaRemote, zfRemote, etaPacket, zfPacket, ceqPacket, etaRAct, zfRAct, ceqRAct, getDz_Packet, getDz_RAct, dL_Packet, dL_RAct, dM_Entry, dM_Packet, getDz_Entry, dL_Entry, List.length_map, Int.toNat_natCast, Int.toNat_zero, Nat.sub_zero, ← List.map_take, ← List.map_drop, List.length_take, decL_sl, decM_cons, decM_nil, decM_append, take_map_snoc, dM_Entry, dM_Packet, dM_RAct]
  repeat' first
    | (with_reducible refine thenS_n ?_)
    | (with_reducible refine inBlockS_n ?_)
    | (with_reducible refine AW.seq ?_)
    | (with_reducible refine AW.block ?_)
    | (with_reducible refine AW.runK hC ?_; intro K hK)
    | (with_reducible refine AW.drawK hC (by kernel_rfl) ?_; intro K hK)
    | ((first | (with_reducible refine erun_g ?_) | (with_reducible refine edraw_g ?_) | (with_reducible refine exitS_g ?_)); simp (maxSteps := 1000000) only [go_sem, ↓reduceIte, reduceCtorEq, Nat.reduceEqDiff, Nat.reduceLT, Nat.reduceLeDiff, Nat.reduceMul, Nat.reduceAdd, Nat.reduceSub, reduceDIte, Nat.reduceBEq, Nat.reduceBNe, encChange, encEntry, ceqChange, ceqEntry, etaChange, etaEntry, zfChange, zfEntry, decChange, decEntry, seq_dec, encRemote, decRemote, encPacket, decPacket, encRAct, decRAct, etaRemote, zfRemote, etaPacket, zfPacket, ceqPacket, etaRAct, zfRAct, ceqRAct, getDz_Packet, getDz_RAct, dL_Packet, dL_RAct, dM_Entry, dM_Packet, getDz_Entry, dL_Entry, List.length_map, Int.toNat_natCast, Int.toNat_zero, Nat.sub_zero, ← List.map_take, ← List.map_drop, List.length_take, decL_sl, decM_cons, decM_nil, decM_append, take_map_snoc, dM_Entry, dM_Packet, dM_RAct]; (try simp (disch := omega) only [w64, wu8]))
    | (with_reducible refine hCheck_g (by kernel_rfl) ?_)
    | ((first | (refine AW.cond rfl (fun h => ?_) (fun h => ?_)) | (refine AW.cond_ub rfl (fun h => ?_) ?_) | (refine AW.cond_nb rfl ?_ (fun h => ?_))) <;> (try simp only [Bool.or_eq_true, Bool.and_eq_true, Bool.or_eq_false_iff, Bool.and_eq_false_iff, Bool.not_eq_true', Bool.not_eq_false', Bool.not_eq_true, Bool.not_eq_false, decide_eq_true_eq, decide_eq_false_iff_not, beq_iff_eq, bne_iff_ne, beq_eq_false_iff_ne, bne_eq_false_iff_eq, ne_eq, Int.not_lt, Int.not_le, D.b.injEq, D.i.injEq, D.s.injEq, D.agg.injEq, D.sl.injEq, true_and, and_true, List.cons.injEq, gt_iff_lt, ge_iff_le,  Bool.cond_true_left, Bool.cond_false_right, Bool.cond_true_right, Bool.cond_false_left, seq_iff, seq_dec, dec_f, dec_t, eqB_t, eqB_f] at h) <;> (try (exfalso; first | omega | exact absurd h (by decide))))
    | (with_reducible refine AW.skip ?_)
    | (with_reducible refine AW.exit ?_)
    | (with_reducible refine AW.ret ?_)
    | (with_reducible refine thenS_r ?_)
    | (with_reducible refine thenS_e ?_)
    | (with_reducible refine inBlockS_r ?_)
    | (with_reducible refine inBlockS_e ?_)
    | (with_reducible refine inBlockS_e2 rfl ?_)
    | (with_reducible refine exitQ_r ?_)
    | (with_reducible refine exitQ_n ?_)
    | (refine sub_auto ?_; simp (maxSteps := 1000000) only [forall_eq, V.ptr.injEq, V.row.injEq, V.rp.injEq, V.mref.injEq, exists_eq_left', and_assoc, rhoV, rhoVs, rhoSl, rhoO, rhoHp, rhoDd, rho1, HS.obj?, forall_eq', slSub, hpSub, hpSub1, nfL, vs, vss, vds, vd1, os, aget, go_sem, ↓reduceIte, reduceCtorEq, Nat.reduceEqDiff, Nat.reduceLT, Nat.reduceLeDiff, Nat.reduceMul, Nat.reduceAdd, Nat.reduceSub, reduceDIte, Nat.reduceBEq, Nat.reduceBNe, encChange, encEntry, ceqChange, ceqEntry, etaChange, etaEntry, zfChange, zfEntry, decChange, decEntry, seq_dec, encRemote, decRemote, encPacket, decPacket, encRAct, decRAct, etaRemote, zfRemote, etaPacket, zfPacket, ceqPacket, etaRAct, zfRAct, ceqRAct, getDz_Packet, getDz_RAct, dL_Packet, dL_RAct, dM_Entry, dM_Packet, getDz_Entry, dL_Entry, List.length_map, Int.toNat_natCast, Int.toNat_zero, Nat.sub_zero, ← List.map_take, ← List.map_drop, List.length_take, decL_sl, decM_cons, decM_nil, decM_append, take_map_snoc, dM_Entry, dM_Packet, dM_RAct])
    | (with_reducible refine And.intro ?_ ?_)
    | (subst hK)
  all_goals (try (intros; assumption))
  all_goals (try simp only [Bool.or_eq_true, Bool.and_eq_true, Bool.or_eq_false_iff, Bool.and_eq_false_iff, Bool.not_eq_true', Bool.not_eq_false', Bool.not_eq_true, Bool.not_eq_false, decide_eq_true_eq, decide_eq_false_iff_not, beq_iff_eq, bne_iff_ne, beq_eq_false_iff_ne, bne_eq_false_iff_eq, ne_eq, Int.not_lt, Int.not_le, D.b.injEq, D.i.injEq, D.s.injEq, D.agg.injEq, D.sl.injEq, true_and, and_true, List.cons.injEq, gt_iff_lt, ge_iff_le,  Bool.cond_true_left, Bool.cond_false_right, Bool.cond_true_right, Bool.cond_false_left, seq_iff, seq_dec, dec_f, dec_t, eqB_t, eqB_f] at *)
  all_goals (try (intros; trivial))
  all_goals (try (intros; omega))
  all_goals (try (rw [w64 (by omega) (by omega)]; first | done | omega))
  all_goals first | omega | (simp_all [dles]; done)

end
end Go.Ev
