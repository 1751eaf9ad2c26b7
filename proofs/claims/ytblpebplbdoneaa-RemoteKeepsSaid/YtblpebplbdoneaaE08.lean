/- Tools and contracts under the laws of this seat: Dvc19, Dvc13, Dvc40, Dvc55, Dvc39, Dvc20, Dvc14d, Dvc34. -/
import Derived.Test.YtblpebplbdoneaaE03
set_option linter.unusedVariables false
set_option linter.unusedSimpArgs false
namespace Go.Ev
open Go.Proofs Ty
set_option maxRecDepth 10000
set_option maxHeartbeats 4000000
set_option linter.unusedSimpArgs false
set_option linter.unusedVariables false
attribute [local go_sem] erun_nil erun_cons edraw_eq edrun_nil edrun_cons e1_n e1_g guardSlot_eq lkAll_tmp lkAll_nil lkAll_const lkAll_func val_tmp val_const val_func aget getBox_mk getRow_mk liveRow_mk hp_mk eU_move_n eU_assign_n eU_move eU_assign eU_pick eU_alloc eU_box eU_load eU_store eU_nilCheck eU_binOp eU_unOp eU_fieldAddr eU_field eU_indexAddr eU_index eU_build eU_buildSlice eU_slice eU_extract eU_makeFunc eU_builtin eU_call eU_callv V.cells V.one D.one D.cells newObj nm HS.isFree HS.isLive andOk_some andOk_none List.map_cons List.map_nil Option.bind_some Option.bind_none putL List.cons_append List.nil_append thenS_normal thenS_ret thenS_exit inBlockS_normal inBlockS_ret inBlockS_exit true_and and_true justV justO cval Option.map_some Option.map_none loadAt storeAt ldV ldD mkAgg V.asD spliceL List.take_succ_cons List.take_zero List.drop_succ_cons List.drop_zero List.getElem?_cons_zero List.getElem?_cons_succ List.getElem?_nil List.all_cons List.all_nil Bool.and_true Bool.true_and Bool.and_self List.length_cons List.length_nil vals aopCall argsO argO toD3 toD2 toD1 toDs O.ok O.ok2 O.ok1 O.flat O.flat1 D.flat D.flatA inO inO2 inO1 inOs List.filterMap_nil List.filterMap_cons List.filter_nil List.filter_cons List.nodup_nil decide_true decide_false Bool.not_true Bool.not_false not_true_eq_false not_false_eq_true or_false false_or and_false false_and ne_eq List.append_nil optB guardQ guardRes beq_self_eq_true List.mapM_cons List.mapM_nil Option.pure_def Option.bind_eq_bind true_or or_true or_self callHp ite_self not_true not_false_iff ite_true ite_false if_true if_false Bool.false_eq_true Bool.true_eq_false List.any_nil List.any_cons List.contains_nil List.contains_cons eq_self aopAppend builtinV elems aopBin nilEqS nilEqP aopSlice bound natOf lenOf binD intBin unD bindEq eU_makeMap eU_lookup eU_mapUpdate getMp_mk List.range_zero Nat.zero_le Nat.zero_mul Nat.zero_add Nat.add_zero List.length_append List.take_length List.isEmpty_nil List.isEmpty_cons V.neg List.flatMap_nil and_self List.range_succ forall_const implies_true Nat.not_lt_zero exitQ_normal exitQ_ret exitS_eq exitO resVs resV_tmp resV_cell takeRow argCells mvAt dle_same dles_same ole_same ole oles dle dles List.nodup_cons List.mem_cons List.not_mem_nil List.drop_length Nat.le_refl Nat.lt_irrefl id_eq Option.some.injEq Bool.or_false Bool.false_or Bool.or_self Bool.or_true Bool.true_or false_implies Bool.and_false Bool.false_and List.reverse_cons List.reverse_nil sh1 mget1 mget aopLookup aopMapUpdate mapOf msetK msetV Option.isSome_some Option.isSome_none Bool.cond_true_left Bool.cond_false_right Bool.cond_true_right Bool.cond_false_left beq_true beq_false Bool.not_not imp_self guardVal notB strBin aopSliceS buildV argOk D.splice kEq Option.toList_some Option.toList_none adel List.getD_cons_zero List.getD_cons_succ bxIds bxId backHp hget one1 aopCall0 aopTurn

/- midrange/remote.Act -/
noncomputable def cfg19 : Cfg := ⟨Try.prog, 18, tab36d, mvs, [], (fun _ => none)⟩
theorem cfg19_ti23 : cfg19.ti 23 = none := rfl
theorem cfg19_ti37 : cfg19.ti 37 = none := rfl
theorem cfg19_pins : cfg19.pins = [] := rfl
theorem cfg19_P : cfg19.P = Try.prog := rfl
theorem cfg19_N : cfg19.N = 18 := rfl
theorem cfg19_T23 : cfg19.T 23 = e23 := rfl
theorem cfg19_mv23 : cfg19.mv 23 = (fun _ => []) := rfl
theorem cfg19_T37 : cfg19.T 37 = e37 := rfl
theorem cfg19_mv37 : cfg19.mv 37 = (fun _ => []) := rfl
section
attribute [local go_sem] cfg19_P cfg19_N cfg19_pins cfg19_ti23 cfg19_ti37 cfg19_T23 e23 cfg19_mv23 cfg19_T37 e37 cfg19_mv37 sz3 ag3 zr3 zo3 zd3 by3 sl3 st3 bo3 pt3 sz4 ag4 zr4 zo4 zd4 by4 sl4 st4 bo4 pt4 sz9 ag9 zr9 zo9 zd9 by9 sl9 un9 st9 bo9 pt9 sz22 ag22 zr22 zo22 zd22 by22 el22 sl22 un22 st22 bo22 pt22 sz23 ag23 zr23 zo23 zd23 by23 el23 sl23 un23 st23 bo23 pt23 sz25 ag25 zr25 zd25 by25 sl25 st25 bo25 pt25 of25_0 fa25_0 of25_1 fa25_1 of25_2 fa25_2 of25_3 fa25_3 of25_4 fa25_4 of25_5 fa25_5 pl25 sz30 ag30 zr30 zo30 zd30 by30 sl30 st30 bo30 pt30 sz40 ag40 zr40 zd40 by40 sl40 st40 bo40 pt40 of40_0 fa40_0 of40_1 fa40_1 of40_2 fa40_2 of40_3 fa40_3 of40_4 fa40_4 pl40 ek40 sz42 ag42 zr42 zd42 by42 sl42 st42 bo42 pt42 of42_0 fa42_0 of42_1 fa42_1 of42_2 fa42_2 of42_3 fa42_3 pl42 ek42 sz44 ag44 zr44 zd44 by44 sl44 st44 bo44 pt44 of44_0 fa44_0 of44_1 fa44_1 of44_2 fa44_2 pl44 ek44 sz66 ag66 zr66 zd66 by66 sl66 st66 bo66 pt66 of66_0 fa66_0 of66_1 fa66_1 pl66 ek66 
theorem con19 (hC : COk cfg19) (x : Remote) (a : RAct) (hp : x.source.length ≤ 1000000 ∧ x.target.length ≤ 1000000 ∧ x.wire.length ≤ 1000000) : Sem Try.prog 19 [.d (encRemote x), .d (encRAct a)] (.tup [.d (encRemote (actC x a).1), .d (.i .i64 (actC x a).2)]) := by
  refine sem_of_awR (C := cfg19) (rs := [.cell 4 25, .tmp 5]) (fun _ => []) Try.func19 rfl rfl rfl rfl rfl rfl ?_
  simp only [enterSl, enterHp, inO, inO2, inO1, inOs, List.append_nil, List.nil_append, Nat.mul_zero, List.cons_append, Nat.zero_add, Nat.reduceAdd, Nat.reduceMul, encChange, encEntry, ceqChange, ceqEntry, etaChange, etaEntry, zfChange, zfEntry, decChange, decEntry, seq_dec, encRemote, decRemote, encPacket, decPacket, encRAct, decRAct, etaRemote, zfRemote, etaPacket, zfPacket, ceqPacket, etaRAct, zfRAct, ceqRAct, getDz_Packet, getDz_RAct, dL_Packet, dL_RAct, dM_Entry, dM_Packet, getDz_Entry, dL_Entry, List.length_map, Int.toNat_natCast, Int.toNat_zero, Nat.sub_zero, ← List.map_take, ← List.map_drop, List.length_take, decL_sl, decM_cons, decM_nil, decM_append, take_map_snoc, dM_Entry, dM_Packet, dM_RAct]
  repeat' first
    | (with_reducible refine thenS_n ?_)
    | (with_reducible refine inBlockS_n ?_)
    | (with_reducible refine AW.seq ?_)
    | (with_reducible refine AW.block ?_)
    | (with_reducible refine AW.runK hC ?_; intro K hK)
    | (with_reducible refine AW.drawK hC (by kernel_rfl) ?_; intro K hK)
    | ((first | (with_reducible refine erun_g ?_) | (with_reducible refine edraw_g ?_) | (with_reducible refine exitS_g ?_)); simp (maxSteps := 1000000) only [go_sem, ↓reduceIte, reduceCtorEq, Nat.reduceEqDiff, Nat.reduceLT, Nat.reduceLeDiff, Nat.reduceMul, Nat.reduceAdd, Nat.reduceSub, reduceDIte, Nat.reduceBEq, Nat.reduceBNe, encChange, encEntry, ceqChange, ceqEntry, etaChange, etaEntry, zfChange, zfEntry, decChange, decEntry, seq_dec, encRemote, decRemote, encPacket, decPacket, encRAct, decRAct, etaRemote, zfRemote, etaPacket, zfPacket, ceqPacket, etaRAct, zfRAct, ceqRAct, getDz_Packet, getDz_RAct, dL_Packet, dL_RAct, dM_Entry, dM_Packet, getDz_Entry, dL_Entry, List.length_map, Int.toNat_natCast, Int.toNat_zero, Nat.sub_zero, ← List.map_take, ← List.map_drop, List.length_take, decL_sl, decM_cons, decM_nil, decM_append, take_map_snoc, dM_Entry, dM_Packet, dM_RAct]; (try simp (disch := omega) only [w64, wu8]))
    | (with_reducible refine hCheck_g (by kernel_rfl) ?_)
    | ((first | (refine AW.cond rfl (fun h => ?_) (fun h => ?_)) | (refine AW.cond_ub rfl (fun h => ?_) ?_) | (refine AW.cond_nb rfl ?_ (fun h => ?_))) <;> (try simp only [Bool.or_eq_true, Bool.and_eq_true, Bool.or_eq_false_iff, Bool.and_eq_false_iff, Bool.not_eq_true', Bool.not_eq_false', Bool.not_eq_true, Bool.not_eq_false, decide_eq_true_eq, decide_eq_false_iff_not, beq_iff_eq, bne_iff_ne, beq_eq_false_iff_ne, bne_eq_false_iff_eq, ne_eq, Int.not_lt, Int.not_le, D.b.injEq, D.i.injEq, D.s.injEq, D.agg.injEq, D.sl.injEq, true_and, and_true, List.cons.injEq, gt_iff_lt, ge_iff_le,  Bool.cond_true_left, Bool.cond_false_right, Bool.cond_true_right, Bool.cond_false_left, seq_iff, seq_dec, dec_f, dec_t, eqB_t, eqB_f] at h) <;> (try (exfalso; first | omega | exact absurd h (by decide))))
    | (with_reducible refine AW.skip ?_)
    | (with_reducible refine AW.exit ?_)
    | (with_reducible refine AW.ret ?_)
    | (with_reducible refine thenS_r ?_)
    | (with_reducible refine thenS_e ?_)
    | (with_reducible refine inBlockS_r ?_)
    | (with_reducible refine inBlockS_e ?_)
    | (with_reducible refine inBlockS_e2 rfl ?_)
    | (with_reducible refine exitQ_r ?_)
    | (with_reducible refine exitQ_n ?_)
    | (refine sub_auto ?_; simp (maxSteps := 1000000) only [forall_eq, V.ptr.injEq, V.row.injEq, V.rp.injEq, V.mref.injEq, exists_eq_left', and_assoc, rhoV, rhoVs, rhoSl, rhoO, rhoHp, rhoDd, rho1, HS.obj?, forall_eq', slSub, hpSub, hpSub1, nfL, vs, vss, vds, vd1, os, aget, go_sem, ↓reduceIte, reduceCtorEq, Nat.reduceEqDiff, Nat.reduceLT, Nat.reduceLeDiff, Nat.reduceMul, Nat.reduceAdd, Nat.reduceSub, reduceDIte, Nat.reduceBEq, Nat.reduceBNe, encChange, encEntry, ceqChange, ceqEntry, etaChange, etaEntry, zfChange, zfEntry, decChange, decEntry, seq_dec, encRemote, decRemote, encPacket, decPacket, encRAct, decRAct, etaRemote, zfRemote, etaPacket, zfPacket, ceqPacket, etaRAct, zfRAct, ceqRAct, getDz_Packet, getDz_RAct, dL_Packet, dL_RAct, dM_Entry, dM_Packet, getDz_Entry, dL_Entry, List.length_map, Int.toNat_natCast, Int.toNat_zero, Nat.sub_zero, ← List.map_take, ← List.map_drop, List.length_take, decL_sl, decM_cons, decM_nil, decM_append, take_map_snoc, dM_Entry, dM_Packet, dM_RAct])
    | (with_reducible refine And.intro ?_ ?_)
    | (subst hK)
  all_goals (try (intros; assumption))
  all_goals (try simp only [Bool.or_eq_true, Bool.and_eq_true, Bool.or_eq_false_iff, Bool.and_eq_false_iff, Bool.not_eq_true', Bool.not_eq_false', Bool.not_eq_true, Bool.not_eq_false, decide_eq_true_eq, decide_eq_false_iff_not, beq_iff_eq, bne_iff_ne, beq_eq_false_iff_ne, bne_eq_false_iff_eq, ne_eq, Int.not_lt, Int.not_le, D.b.injEq, D.i.injEq, D.s.injEq, D.agg.injEq, D.sl.injEq, true_and, and_true, List.cons.injEq, gt_iff_lt, ge_iff_le,  Bool.cond_true_left, Bool.cond_false_right, Bool.cond_true_right, Bool.cond_false_left, seq_iff, seq_dec, dec_f, dec_t, eqB_t, eqB_f] at *)
  all_goals (try (intros; trivial))
  all_goals (try (intros; omega))
  all_goals (try (rw [w64 (by omega) (by omega)]; first | done | omega))
  all_goals first
    | exact remoteErr_good (by assumption)
    | (rw [actC, if_pos (by omega)]; done)
    | (rw [actC, if_pos (by omega)]; rfl)
    | (rw [actC, if_neg (by omega)]; done)
    | (rw [actC, if_neg (by omega)]; exact dles_refl _)

end
/- midrange/remote.RunActs -/
noncomputable def cfg13 : Cfg := ⟨Try.prog, 47, tab19, mvs, [], (fun _ => none)⟩
theorem cfg13_ti23 : cfg13.ti 23 = none := rfl
theorem cfg13_ti36 : cfg13.ti 36 = none := rfl
theorem cfg13_ti37 : cfg13.ti 37 = none := rfl
theorem cfg13_pins : cfg13.pins = [] := rfl
theorem cfg13_P : cfg13.P = Try.prog := rfl
theorem cfg13_N : cfg13.N = 47 := rfl
theorem cfg13_T23 : cfg13.T 23 = e23 := rfl
theorem cfg13_mv23 : cfg13.mv 23 = (fun _ => []) := rfl
theorem cfg13_T36 : cfg13.T 36 = e36d := rfl
theorem cfg13_mv36 : cfg13.mv 36 = (fun _ => []) := rfl
theorem cfg13_T37 : cfg13.T 37 = e37 := rfl
theorem cfg13_mv37 : cfg13.mv 37 = (fun _ => []) := rfl
section
attribute [local go_sem] cfg13_P cfg13_N cfg13_pins cfg13_ti23 cfg13_ti36 cfg13_ti37 cfg13_T23 e23 cfg13_mv23 cfg13_T36 e36d cfg13_mv36 cfg13_T37 e37 cfg13_mv37 sz3 ag3 zr3 zo3 zd3 by3 sl3 st3 bo3 pt3 sz4 ag4 zr4 zo4 zd4 by4 sl4 st4 bo4 pt4 sz9 ag9 zr9 zo9 zd9 by9 sl9 un9 st9 bo9 pt9 sz22 ag22 zr22 zo22 zd22 by22 el22 sl22 un22 st22 bo22 pt22 sz23 ag23 zr23 zo23 zd23 by23 el23 sl23 un23 st23 bo23 pt23 sz25 ag25 zr25 zd25 by25 sl25 st25 bo25 pt25 of25_0 fa25_0 of25_1 fa25_1 of25_2 fa25_2 of25_3 fa25_3 of25_4 fa25_4 of25_5 fa25_5 pl25 sz26 ag26 zr26 zo26 zd26 by26 el26 sl26 un26 st26 bo26 pt26 sz30 ag30 zr30 zo30 zd30 by30 sl30 st30 bo30 pt30 sz40 ag40 zr40 zd40 by40 sl40 st40 bo40 pt40 of40_0 fa40_0 of40_1 fa40_1 of40_2 fa40_2 of40_3 fa40_3 of40_4 fa40_4 pl40 ek40 sz42 ag42 zr42 zd42 by42 sl42 st42 bo42 pt42 of42_0 fa42_0 of42_1 fa42_1 of42_2 fa42_2 of42_3 fa42_3 pl42 ek42 sz44 ag44 zr44 zd44 by44 sl44 st44 bo44 pt44 of44_0 fa44_0 of44_1 fa44_1 of44_2 fa44_2 pl44 ek44 sz66 ag66 zr66 zd66 by66 sl66 st66 bo66 pt66 of66_0 fa66_0 of66_1 fa66_1 pl66 ek66 
theorem con13 (hC : COk cfg13) (x : Remote) (l : List RAct) (hp : x.source.length ≤ 1000000 ∧ x.target.length ≤ 1000000 ∧ x.wire.length ≤ 1000000 ∧ l.length ≤ 1000000) : Sem Try.prog 13 [.d (encRemote x), .d (.sl 10 (l.map encRAct))] (.tup [.d (encRemote (runR x l).1), .d (.i .i64 (runR x l).2.1), .d (.i .i64 (runR x l).2.2)]) := by
  refine sem_of_awR (C := cfg13) (rs := [.cell 4 25, .tmp 5, .tmp 6]) (fun _ => []) Try.func13 rfl rfl rfl rfl rfl rfl ?_
  simp only [enterSl, enterHp, inO, inO2, inO1, inOs, List.append_nil, List.nil_append, Nat.mul_zero, List.cons_append, Nat.zero_add, Nat.reduceAdd, Nat.reduceMul, encChange, encEntry, ceqChange, ceqEntry, etaChange, etaEntry, zfChange, zfEntry, decChange, decEntry, seq_dec, encRemote, decRemote, encPacket, decPacket, encRAct, decRAct, etaRemote, zfRemote, etaPacket, zfPacket, ceqPacket, etaRAct, zfRAct, ceqRAct, getDz_Packet, getDz_RAct, dL_Packet, dL_RAct, dM_Entry, dM_Packet, getDz_Entry, dL_Entry, List.length_map, Int.toNat_natCast, Int.toNat_zero, Nat.sub_zero, ← List.map_take, ← List.map_drop, List.length_take, decL_sl, decM_cons, decM_nil, decM_append, take_map_snoc, dM_Entry, dM_Packet, dM_RAct]
  repeat' first
    | (with_reducible refine thenS_n ?_)
    | (with_reducible refine inBlockS_n ?_)
    | (with_reducible refine AW.seq ?_)
    | (with_reducible refine AW.block ?_)
    | (with_reducible refine AW.runK hC ?_; intro K hK)
    | (with_reducible refine AW.drawK hC (by kernel_rfl) ?_; intro K hK)
    | ((first | (with_reducible refine erun_g ?_) | (with_reducible refine edraw_g ?_) | (with_reducible refine exitS_g ?_)); simp (maxSteps := 1000000) only [go_sem, ↓reduceIte, reduceCtorEq, Nat.reduceEqDiff, Nat.reduceLT, Nat.reduceLeDiff, Nat.reduceMul, Nat.reduceAdd, Nat.reduceSub, reduceDIte, Nat.reduceBEq, Nat.reduceBNe, encChange, encEntry, ceqChange, ceqEntry, etaChange, etaEntry, zfChange, zfEntry, decChange, decEntry, seq_dec, encRemote, decRemote, encPacket, decPacket, encRAct, decRAct, etaRemote, zfRemote, etaPacket, zfPacket, ceqPacket, etaRAct, zfRAct, ceqRAct, getDz_Packet, getDz_RAct, dL_Packet, dL_RAct, dM_Entry, dM_Packet, getDz_Entry, dL_Entry, List.length_map, Int.toNat_natCast, Int.toNat_zero, Nat.sub_zero, ← List.map_take, ← List.map_drop, List.length_take, decL_sl, decM_cons, decM_nil, decM_append, take_map_snoc, dM_Entry, dM_Packet, dM_RAct]; (try simp (disch := omega) only [w64, wu8]))
    | (with_reducible refine hCheck_g (by kernel_rfl) ?_)
    | ((first | (refine AW.cond rfl (fun h => ?_) (fun h => ?_)) | (refine AW.cond_ub rfl (fun h => ?_) ?_) | (refine AW.cond_nb rfl ?_ (fun h => ?_))) <;> (try simp only [Bool.or_eq_true, Bool.and_eq_true, Bool.or_eq_false_iff, Bool.and_eq_false_iff, Bool.not_eq_true', Bool.not_eq_false', Bool.not_eq_true, Bool.not_eq_false, decide_eq_true_eq, decide_eq_false_iff_not, beq_iff_eq, bne_iff_ne, beq_eq_false_iff_ne, bne_eq_false_iff_eq, ne_eq, Int.not_lt, Int.not_le, D.b.injEq, D.i.injEq, D.s.injEq, D.agg.injEq, D.sl.injEq, true_and, and_true, List.cons.injEq, gt_iff_lt, ge_iff_le,  Bool.cond_true_left, Bool.cond_false_right, Bool.cond_true_right, Bool.cond_false_left, seq_iff, seq_dec, dec_f, dec_t, eqB_t, eqB_f] at h) <;> (try (exfalso; first | omega | exact absurd h (by decide))))
    | (with_reducible refine AW.skip ?_)
    | (with_reducible refine AW.exit ?_)
    | (with_reducible refine AW.ret ?_)
    | (with_reducible refine thenS_r ?_)
    | (with_reducible refine thenS_e ?_)
    | (with_reducible refine inBlockS_r ?_)
    | (with_reducible refine inBlockS_e ?_)
    | (with_reducible refine inBlockS_e2 rfl ?_)
    | (with_reducible refine exitQ_r ?_)
    | (with_reducible refine exitQ_n ?_)
    | (refine AW.loopN 8 rfl (ι := Nat × Remote) (fun p => mkS [(1, V.d (.sl 10 (l.map encRAct))), (2, V.ptr 32 0), (4, V.ptr 64 0), (24, V.d (.sl 10 (l.map encRAct))), (25, V.d (.i .i64 (l.length : Int))), (26, V.d (.i .i64 (p.1 : Int)))] ([(32, .live (.box 25 [.d (.b p.2.sync), .d (.sl 8 (p.2.source.map encEntry)), .d (.sl 8 (p.2.target.map encEntry)), .d (.i .i64 p.2.sent), .d (.i .i64 p.2.acked), .d (.sl 2 (p.2.wire.map encPacket))])), (64, .live (.box 25 [.d (.b false), .d .nil, .d .nil, .d (.i .i64 0), .d (.i .i64 0), .d .nil]))])) (fun p => p.1 ≤ l.length ∧ goodR p.2 ∧ runGo p.2 p.1 (l.drop p.1) = runR x l) (fun p => l.length - p.1) ((0, x)) ?_ ?_ (fun p hi => ?_) <;> (try dsimp only) <;> (try dsimp only at hi))
    | (refine LoopNext.mk1 8 ((p.1 + 1, (actR p.2 (l.getD p.1 zRAct)).1)) ?_ ?_ ?_ <;> (try dsimp only))
    | (refine sub_auto ?_; simp (maxSteps := 1000000) only [forall_eq, V.ptr.injEq, V.row.injEq, V.rp.injEq, V.mref.injEq, exists_eq_left', and_assoc, rhoV, rhoVs, rhoSl, rhoO, rhoHp, rhoDd, rho1, HS.obj?, forall_eq', slSub, hpSub, hpSub1, nfL, vs, vss, vds, vd1, os, aget, go_sem, ↓reduceIte, reduceCtorEq, Nat.reduceEqDiff, Nat.reduceLT, Nat.reduceLeDiff, Nat.reduceMul, Nat.reduceAdd, Nat.reduceSub, reduceDIte, Nat.reduceBEq, Nat.reduceBNe, encChange, encEntry, ceqChange, ceqEntry, etaChange, etaEntry, zfChange, zfEntry, decChange, decEntry, seq_dec, encRemote, decRemote, encPacket, decPacket, encRAct, decRAct, etaRemote, zfRemote, etaPacket, zfPacket, ceqPacket, etaRAct, zfRAct, ceqRAct, getDz_Packet, getDz_RAct, dL_Packet, dL_RAct, dM_Entry, dM_Packet, getDz_Entry, dL_Entry, List.length_map, Int.toNat_natCast, Int.toNat_zero, Nat.sub_zero, ← List.map_take, ← List.map_drop, List.length_take, decL_sl, decM_cons, decM_nil, decM_append, take_map_snoc, dM_Entry, dM_Packet, dM_RAct])
    | (with_reducible refine And.intro ?_ ?_)
    | (subst hK)
  all_goals (try (intros; assumption))
  all_goals (try simp only [Bool.or_eq_true, Bool.and_eq_true, Bool.or_eq_false_iff, Bool.and_eq_false_iff, Bool.not_eq_true', Bool.not_eq_false', Bool.not_eq_true, Bool.not_eq_false, decide_eq_true_eq, decide_eq_false_iff_not, beq_iff_eq, bne_iff_ne, beq_eq_false_iff_ne, bne_eq_false_iff_eq, ne_eq, Int.not_lt, Int.not_le, D.b.injEq, D.i.injEq, D.s.injEq, D.agg.injEq, D.sl.injEq, true_and, and_true, List.cons.injEq, gt_iff_lt, ge_iff_le,  Bool.cond_true_left, Bool.cond_false_right, Bool.cond_true_right, Bool.cond_false_left, seq_iff, seq_dec, dec_f, dec_t, eqB_t, eqB_f] at *)
  all_goals (try (intros; trivial))
  all_goals (try (intros; omega))
  all_goals (try (rw [w64 (by omega) (by omega)]; first | done | omega))
  all_goals first
    | exact remoteErr_good (by assumption)
    | exact good_act hi.2.1 (by assumption)
    | exact hi.2.1
    | (rw [← hi.2.2, drop_getD zRAct (by omega), runGo, if_pos (by omega)]; done)
    | (rw [← hi.2.2, drop_getD zRAct (by omega), runGo, if_pos (by omega)]; rfl)
    | (have := hi.2.2; rw [drop_getD zRAct (by omega), runGo, if_neg (by omega)] at this; exact this)
    | (rw [← hi.2.2, List.drop_of_length_le (by omega)]; done)
    | (rw [← hi.2.2, List.drop_of_length_le (by omega)]; rfl)
    | (rw [← hi.2.2, List.drop_of_length_le (by omega)]; exact dles_refl _)
    | (rw [← hi.2.2, List.drop_of_length_le (by omega)]; show (p.1 : Int) = (l.length : Int); omega)
    | (rw [runR, if_pos (by omega)]; done)
    | (rw [runR, if_pos (by omega)]; rfl)
    | (rw [runR, if_neg (by omega), if_pos (by omega)]; done)
    | (rw [runR, if_neg (by omega), if_pos (by omega)]; rfl)
    | (rw [runR, if_neg (by omega), if_neg (by omega)]; done)
    | (rw [runR, if_neg (by omega), if_neg (by omega)]; rfl)

end
/- midrange/midrangeref36.arrived -/
noncomputable def cfg40 : Cfg := ⟨Try.prog, 50, tab13, mvs, [], (fun _ => none)⟩
theorem cfg40_pins : cfg40.pins = [] := rfl
theorem cfg40_P : cfg40.P = Try.prog := rfl
theorem cfg40_N : cfg40.N = 50 := rfl
section
attribute [local go_sem] cfg40_P cfg40_N cfg40_pins  sz3 ag3 zr3 zo3 zd3 by3 sl3 st3 bo3 pt3 sz4 ag4 zr4 zo4 zd4 by4 sl4 st4 bo4 pt4 sz9 ag9 zr9 zo9 zd9 by9 sl9 un9 st9 bo9 pt9 sz22 ag22 zr22 zo22 zd22 by22 el22 sl22 un22 st22 bo22 pt22 sz23 ag23 zr23 zo23 zd23 by23 el23 sl23 un23 st23 bo23 pt23 sz25 ag25 zr25 zd25 by25 sl25 st25 bo25 pt25 of25_0 fa25_0 of25_1 fa25_1 of25_2 fa25_2 of25_3 fa25_3 of25_4 fa25_4 of25_5 fa25_5 pl25 sz40 ag40 zr40 zd40 by40 sl40 st40 bo40 pt40 of40_0 fa40_0 of40_1 fa40_1 of40_2 fa40_2 of40_3 fa40_3 of40_4 fa40_4 pl40 ek40 sz42 ag42 zr42 zd42 by42 sl42 st42 bo42 pt42 of42_0 fa42_0 of42_1 fa42_1 of42_2 fa42_2 of42_3 fa42_3 pl42 ek42 sz66 ag66 zr66 zd66 by66 sl66 st66 bo66 pt66 of66_0 fa66_0 of66_1 fa66_1 pl66 ek66 
theorem con40 (hC : COk cfg40) (x : Remote) (p : Packet) (hp : x.source.length ≤ 1000000 ∧ x.target.length ≤ 1000000 ∧ x.wire.length ≤ 1000000 ∧ x.wire.length < 12 ∧ (p.kind ≠ 1 → p.number = x.target.length + 1 → x.target.length < x.source.length)) : Sem Try.prog 40 [ownRemote x, .d (encPacket p)] (.d (encRemote (arrivedR x p))) := by
  refine sem_of_awR (C := cfg40) (rs := [.cell 4 25]) (fun _ => []) Try.func40 rfl rfl rfl rfl rfl rfl ?_
  simp only [enterSl, enterHp, inO, inO2, inO1, inOs, List.append_nil, List.nil_append, Nat.mul_zero, List.cons_append, Nat.zero_add, Nat.reduceAdd, Nat.reduceMul, ownRemote, encChange, encEntry, ceqChange, ceqEntry, etaChange, etaEntry, zfChange, zfEntry, decChange, decEntry, seq_dec, encRemote, decRemote, encPacket, decPacket, encRAct, decRAct, etaRemote, zfRemote, etaPacket, zfPacket, ceqPacket, etaRAct, zfRAct, ceqRAct, getDz_Packet, getDz_RAct, dL_Packet, dL_RAct, dM_Entry, dM_Packet, getDz_Entry, dL_Entry, List.length_map, Int.toNat_natCast, Int.toNat_zero, Nat.sub_zero, ← List.map_take, ← List.map_drop, List.length_take, decL_sl, decM_cons, decM_nil, decM_append, take_map_snoc, dM_Entry, dM_Packet, dM_RAct]
  repeat' first
    | (with_reducible refine thenS_n ?_)
    | (with_reducible refine inBlockS_n ?_)
    | (with_reducible refine AW.seq ?_)
    | (with_reducible refine AW.block ?_)
    | (with_reducible refine AW.runK hC ?_; intro K hK)
    | (with_reducible refine AW.drawK hC (by kernel_rfl) ?_; intro K hK)
    | ((first | (with_reducible refine erun_g ?_) | (with_reducible refine edraw_g ?_) | (with_reducible refine exitS_g ?_)); simp (maxSteps := 1000000) only [go_sem, ↓reduceIte, reduceCtorEq, Nat.reduceEqDiff, Nat.reduceLT, Nat.reduceLeDiff, Nat.reduceMul, Nat.reduceAdd, Nat.reduceSub, reduceDIte, Nat.reduceBEq, Nat.reduceBNe, ownRemote, encChange, encEntry, ceqChange, ceqEntry, etaChange, etaEntry, zfChange, zfEntry, decChange, decEntry, seq_dec, encRemote, decRemote, encPacket, decPacket, encRAct, decRAct, etaRemote, zfRemote, etaPacket, zfPacket, ceqPacket, etaRAct, zfRAct, ceqRAct, getDz_Packet, getDz_RAct, dL_Packet, dL_RAct, dM_Entry, dM_Packet, getDz_Entry, dL_Entry, List.length_map, Int.toNat_natCast, Int.toNat_zero, Nat.sub_zero, ← List.map_take, ← List.map_drop, List.length_take, decL_sl, decM_cons, decM_nil, decM_append, take_map_snoc, dM_Entry, dM_Packet, dM_RAct]; (try simp (disch := omega) only [w64, wu8]))
    | (with_reducible refine hCheck_g (by kernel_rfl) ?_)
    | ((first | (refine AW.cond rfl (fun h => ?_) (fun h => ?_)) | (refine AW.cond_ub rfl (fun h => ?_) ?_) | (refine AW.cond_nb rfl ?_ (fun h => ?_))) <;> (try simp only [Bool.or_eq_true, Bool.and_eq_true, Bool.or_eq_false_iff, Bool.and_eq_false_iff, Bool.not_eq_true', Bool.not_eq_false', Bool.not_eq_true, Bool.not_eq_false, decide_eq_true_eq, decide_eq_false_iff_not, beq_iff_eq, bne_iff_ne, beq_eq_false_iff_ne, bne_eq_false_iff_eq, ne_eq, Int.not_lt, Int.not_le, D.b.injEq, D.i.injEq, D.s.injEq, D.agg.injEq, D.sl.injEq, true_and, and_true, List.cons.injEq, gt_iff_lt, ge_iff_le,  Bool.cond_true_left, Bool.cond_false_right, Bool.cond_true_right, Bool.cond_false_left, seq_iff, seq_dec, dec_f, dec_t, eqB_t, eqB_f] at h) <;> (try (exfalso; first | omega | exact absurd h (by decide))))
    | (with_reducible refine AW.skip ?_)
    | (with_reducible refine AW.exit ?_)
    | (with_reducible refine AW.ret ?_)
    | (with_reducible refine thenS_r ?_)
    | (with_reducible refine thenS_e ?_)
    | (with_reducible refine inBlockS_r ?_)
    | (with_reducible refine inBlockS_e ?_)
    | (with_reducible refine inBlockS_e2 rfl ?_)
    | (with_reducible refine exitQ_r ?_)
    | (with_reducible refine exitQ_n ?_)
    | (refine sub_auto ?_; simp (maxSteps := 1000000) only [forall_eq, V.ptr.injEq, V.row.injEq, V.rp.injEq, V.mref.injEq, exists_eq_left', and_assoc, rhoV, rhoVs, rhoSl, rhoO, rhoHp, rhoDd, rho1, HS.obj?, forall_eq', slSub, hpSub, hpSub1, nfL, vs, vss, vds, vd1, os, aget, go_sem, ↓reduceIte, reduceCtorEq, Nat.reduceEqDiff, Nat.reduceLT, Nat.reduceLeDiff, Nat.reduceMul, Nat.reduceAdd, Nat.reduceSub, reduceDIte, Nat.reduceBEq, Nat.reduceBNe, ownRemote, encChange, encEntry, ceqChange, ceqEntry, etaChange, etaEntry, zfChange, zfEntry, decChange, decEntry, seq_dec, encRemote, decRemote, encPacket, decPacket, encRAct, decRAct, etaRemote, zfRemote, etaPacket, zfPacket, ceqPacket, etaRAct, zfRAct, ceqRAct, getDz_Packet, getDz_RAct, dL_Packet, dL_RAct, dM_Entry, dM_Packet, getDz_Entry, dL_Entry, List.length_map, Int.toNat_natCast, Int.toNat_zero, Nat.sub_zero, ← List.map_take, ← List.map_drop, List.length_take, decL_sl, decM_cons, decM_nil, decM_append, take_map_snoc, dM_Entry, dM_Packet, dM_RAct])
    | (with_reducible refine And.intro ?_ ?_)
    | (subst hK)
  all_goals (try (intros; assumption))
  all_goals (try simp only [Bool.or_eq_true, Bool.and_eq_true, Bool.or_eq_false_iff, Bool.and_eq_false_iff, Bool.not_eq_true', Bool.not_eq_false', Bool.not_eq_true, Bool.not_eq_false, decide_eq_true_eq, decide_eq_false_iff_not, beq_iff_eq, bne_iff_ne, beq_eq_false_iff_ne, bne_eq_false_iff_eq, ne_eq, Int.not_lt, Int.not_le, D.b.injEq, D.i.injEq, D.s.injEq, D.agg.injEq, D.sl.injEq, true_and, and_true, List.cons.injEq, gt_iff_lt, ge_iff_le,  Bool.cond_true_left, Bool.cond_false_right, Bool.cond_true_right, Bool.cond_false_left, seq_iff, seq_dec, dec_f, dec_t, eqB_t, eqB_f] at *)
  all_goals (try (intros; trivial))
  all_goals (try (intros; omega))
  all_goals (try (rw [w64 (by omega) (by omega)]; first | done | omega))
  all_goals first
    | (intro d hd; subst hd; exact ⟨rfl, by simp [D.cells, D.one]⟩)
    | (simp only [arrivedR]; (repeat' split) <;> first | rfl | omega | (exfalso; omega) | (simp_all; done) | (exfalso; simp_all; done))
    | (refine dles_of_eq ?_; simp only [arrivedR]; (repeat' split) <;> first | rfl | omega | (exfalso; omega) | (simp_all; done) | (simp_all [encEntry, encPacket]; done))

end
/- midrange/midrangeref36.appendErr -/
noncomputable def cfg55 : Cfg := ⟨Try.prog, 52, tab40, mvs, [], (fun _ => none)⟩
theorem cfg55_ti38 : cfg55.ti 38 = none := rfl
theorem cfg55_ti41 : cfg55.ti 41 = none := rfl
theorem cfg55_pins : cfg55.pins = [] := rfl
theorem cfg55_P : cfg55.P = Try.prog := rfl
theorem cfg55_N : cfg55.N = 52 := rfl
theorem cfg55_T38 : cfg55.T 38 = e38 := rfl
theorem cfg55_mv38 : cfg55.mv 38 = (fun _ => []) := rfl
theorem cfg55_T41 : cfg55.T 41 = e41 := rfl
theorem cfg55_mv41 : cfg55.mv 41 = (fun _ => []) := rfl
section
attribute [local go_sem] cfg55_P cfg55_N cfg55_pins cfg55_ti38 cfg55_ti41 cfg55_T38 e38 cfg55_mv38 cfg55_T41 e41 cfg55_mv41 sz3 ag3 zr3 zo3 zd3 by3 sl3 st3 bo3 pt3 sz4 ag4 zr4 zo4 zd4 by4 sl4 st4 bo4 pt4 sz9 ag9 zr9 zo9 zd9 by9 sl9 un9 st9 bo9 pt9 sz22 ag22 zr22 zo22 zd22 by22 el22 sl22 un22 st22 bo22 pt22 sz23 ag23 zr23 zo23 zd23 by23 el23 sl23 un23 st23 bo23 pt23 sz25 ag25 zr25 zd25 by25 sl25 st25 bo25 pt25 of25_0 fa25_0 of25_1 fa25_1 of25_2 fa25_2 of25_3 fa25_3 of25_4 fa25_4 of25_5 fa25_5 pl25 sz40 ag40 zr40 zd40 by40 sl40 st40 bo40 pt40 of40_0 fa40_0 of40_1 fa40_1 of40_2 fa40_2 of40_3 fa40_3 of40_4 fa40_4 pl40 ek40 sz42 ag42 zr42 zd42 by42 sl42 st42 bo42 pt42 of42_0 fa42_0 of42_1 fa42_1 of42_2 fa42_2 of42_3 fa42_3 pl42 ek42 sz66 ag66 zr66 zd66 by66 sl66 st66 bo66 pt66 of66_0 fa66_0 of66_1 fa66_1 pl66 ek66 
theorem con55 (hC : COk cfg55) (x : Remote) (e : Entry) (hp : goodR x) : Sem Try.prog 55 [.d (encRemote x), .d (encEntry e)] (.d (.i .i64 (appendedR x e).2)) := by
  obtain ⟨g1, g2, g3, g4, g5, g6, g7, g8, g9⟩ := hp
  refine sem_of_awR (C := cfg55) (rs := [.tmp 4]) (fun _ => []) Try.func55 rfl rfl rfl rfl rfl rfl ?_
  simp only [enterSl, enterHp, inO, inO2, inO1, inOs, List.append_nil, List.nil_append, Nat.mul_zero, List.cons_append, Nat.zero_add, Nat.reduceAdd, Nat.reduceMul, encChange, encEntry, ceqChange, ceqEntry, etaChange, etaEntry, zfChange, zfEntry, decChange, decEntry, seq_dec, encRemote, decRemote, encPacket, decPacket, encRAct, decRAct, etaRemote, zfRemote, etaPacket, zfPacket, ceqPacket, etaRAct, zfRAct, ceqRAct, getDz_Packet, getDz_RAct, dL_Packet, dL_RAct, dM_Entry, dM_Packet, getDz_Entry, dL_Entry, List.length_map, Int.toNat_natCast, Int.toNat_zero, Nat.sub_zero, ← List.map_take, ← List.map_drop, List.length_take, decL_sl, decM_cons, decM_nil, decM_append, take_map_snoc, dM_Entry, dM_Packet, dM_RAct]
  repeat' first
    | (with_reducible refine thenS_n ?_)
    | (with_reducible refine inBlockS_n ?_)
    | (with_reducible refine AW.seq ?_)
    | (with_reducible refine AW.block ?_)
    | (with_reducible refine AW.runK hC ?_; intro K hK)
    | (with_reducible refine AW.drawK hC (by kernel_rfl) ?_; intro K hK)
    | ((first | (with_reducible refine erun_g ?_) | (with_reducible refine edraw_g ?_) | (with_reducible refine exitS_g ?_)); simp (maxSteps := 1000000) only [go_sem, ↓reduceIte, reduceCtorEq, Nat.reduceEqDiff, Nat.reduceLT, Nat.reduceLeDiff, Nat.reduceMul, Nat.reduceAdd, Nat.reduceSub, reduceDIte, Nat.reduceBEq, Nat.reduceBNe, encChange, encEntry, ceqChange, ceqEntry, etaChange, etaEntry, zfChange, zfEntry, decChange, decEntry, seq_dec, encRemote, decRemote, encPacket, decPacket, encRAct, decRAct, etaRemote, zfRemote, etaPacket, zfPacket, ceqPacket, etaRAct, zfRAct, ceqRAct, getDz_Packet, getDz_RAct, dL_Packet, dL_RAct, dM_Entry, dM_Packet, getDz_Entry, dL_Entry, List.length_map, Int.toNat_natCast, Int.toNat_zero, Nat.sub_zero, ← List.map_take, ← List.map_drop, List.length_take, decL_sl, decM_cons, decM_nil, decM_append, take_map_snoc, dM_Entry, dM_Packet, dM_RAct]; (try simp (disch := omega) only [w64, wu8]))
    | (with_reducible refine hCheck_g (by kernel_rfl) ?_)
    | ((first | (refine AW.cond rfl (fun h => ?_) (fun h => ?_)) | (refine AW.cond_ub rfl (fun h => ?_) ?_) | (refine AW.cond_nb rfl ?_ (fun h => ?_))) <;> (try simp only [Bool.or_eq_true, Bool.and_eq_true, Bool.or_eq_false_iff, Bool.and_eq_false_iff, Bool.not_eq_true', Bool.not_eq_false', Bool.not_eq_true, Bool.not_eq_false, decide_eq_true_eq, decide_eq_false_iff_not, beq_iff_eq, bne_iff_ne, beq_eq_false_iff_ne, bne_eq_false_iff_eq, ne_eq, Int.not_lt, Int.not_le, D.b.injEq, D.i.injEq, D.s.injEq, D.agg.injEq, D.sl.injEq, true_and, and_true, List.cons.injEq, gt_iff_lt, ge_iff_le,  Bool.cond_true_left, Bool.cond_false_right, Bool.cond_true_right, Bool.cond_false_left, seq_iff, seq_dec, dec_f, dec_t, eqB_t, eqB_f] at h) <;> (try (exfalso; first | omega | exact absurd h (by decide))))
    | (with_reducible refine AW.skip ?_)
    | (with_reducible refine AW.exit ?_)
    | (with_reducible refine AW.ret ?_)
    | (with_reducible refine thenS_r ?_)
    | (with_reducible refine thenS_e ?_)
    | (with_reducible refine inBlockS_r ?_)
    | (with_reducible refine inBlockS_e ?_)
    | (with_reducible refine inBlockS_e2 rfl ?_)
    | (with_reducible refine exitQ_r ?_)
    | (with_reducible refine exitQ_n ?_)
    | (refine sub_auto ?_; simp (maxSteps := 1000000) only [forall_eq, V.ptr.injEq, V.row.injEq, V.rp.injEq, V.mref.injEq, exists_eq_left', and_assoc, rhoV, rhoVs, rhoSl, rhoO, rhoHp, rhoDd, rho1, HS.obj?, forall_eq', slSub, hpSub, hpSub1, nfL, vs, vss, vds, vd1, os, aget, go_sem, ↓reduceIte, reduceCtorEq, Nat.reduceEqDiff, Nat.reduceLT, Nat.reduceLeDiff, Nat.reduceMul, Nat.reduceAdd, Nat.reduceSub, reduceDIte, Nat.reduceBEq, Nat.reduceBNe, encChange, encEntry, ceqChange, ceqEntry, etaChange, etaEntry, zfChange, zfEntry, decChange, decEntry, seq_dec, encRemote, decRemote, encPacket, decPacket, encRAct, decRAct, etaRemote, zfRemote, etaPacket, zfPacket, ceqPacket, etaRAct, zfRAct, ceqRAct, getDz_Packet, getDz_RAct, dL_Packet, dL_RAct, dM_Entry, dM_Packet, getDz_Entry, dL_Entry, List.length_map, Int.toNat_natCast, Int.toNat_zero, Nat.sub_zero, ← List.map_take, ← List.map_drop, List.length_take, decL_sl, decM_cons, decM_nil, decM_append, take_map_snoc, dM_Entry, dM_Packet, dM_RAct])
    | (with_reducible refine And.intro ?_ ?_)
    | (subst hK)
  all_goals (try (intros; assumption))
  all_goals (try simp only [Bool.or_eq_true, Bool.and_eq_true, Bool.or_eq_false_iff, Bool.and_eq_false_iff, Bool.not_eq_true', Bool.not_eq_false', Bool.not_eq_true, Bool.not_eq_false, decide_eq_true_eq, decide_eq_false_iff_not, beq_iff_eq, bne_iff_ne, beq_eq_false_iff_ne, bne_eq_false_iff_eq, ne_eq, Int.not_lt, Int.not_le, D.b.injEq, D.i.injEq, D.s.injEq, D.agg.injEq, D.sl.injEq, true_and, and_true, List.cons.injEq, gt_iff_lt, ge_iff_le,  Bool.cond_true_left, Bool.cond_false_right, Bool.cond_true_right, Bool.cond_false_left, seq_iff, seq_dec, dec_f, dec_t, eqB_t, eqB_f] at *)
  all_goals (try (intros; trivial))
  all_goals (try (intros; omega))
  all_goals (try (rw [w64 (by omega) (by omega)]; first | done | omega))
  all_goals clear hC g8 g9
  all_goals (try rw [int_pred] at *)
  all_goals first
    | (intro d hd; subst hd; exact ⟨rfl, by simp [D.cells, D.one]⟩)
    | (simp only [appendedR, waits_iff g7 g2]; (repeat' split) <;> first | rfl | omega | (exfalso; omega) | (simp_all; done) | (exfalso; simp_all; omega))

end
/- midrange/midrangeref36.actErr -/
noncomputable def cfg39 : Cfg := ⟨Try.prog, 80, tab55, mvs, [], (fun _ => none)⟩
theorem cfg39_ti43 : cfg39.ti 43 = none := rfl
theorem cfg39_ti55 : cfg39.ti 55 = none := rfl
theorem cfg39_ti56 : cfg39.ti 56 = none := rfl
theorem cfg39_pins : cfg39.pins = [] := rfl
theorem cfg39_P : cfg39.P = Try.prog := rfl
theorem cfg39_N : cfg39.N = 80 := rfl
theorem cfg39_T43 : cfg39.T 43 = e43 := rfl
theorem cfg39_mv43 : cfg39.mv 43 = (fun _ => []) := rfl
theorem cfg39_T55 : cfg39.T 55 = e55 := rfl
theorem cfg39_mv55 : cfg39.mv 55 = (fun _ => []) := rfl
theorem cfg39_T56 : cfg39.T 56 = e56 := rfl
theorem cfg39_mv56 : cfg39.mv 56 = (fun _ => []) := rfl
section
attribute [local go_sem] cfg39_P cfg39_N cfg39_pins cfg39_ti43 cfg39_ti55 cfg39_ti56 cfg39_T43 e43 cfg39_mv43 cfg39_T55 e55 cfg39_mv55 cfg39_T56 e56 cfg39_mv56 sz3 ag3 zr3 zo3 zd3 by3 sl3 st3 bo3 pt3 sz4 ag4 zr4 zo4 zd4 by4 sl4 st4 bo4 pt4 sz9 ag9 zr9 zo9 zd9 by9 sl9 un9 st9 bo9 pt9 sz22 ag22 zr22 zo22 zd22 by22 el22 sl22 un22 st22 bo22 pt22 sz23 ag23 zr23 zo23 zd23 by23 el23 sl23 un23 st23 bo23 pt23 sz25 ag25 zr25 zd25 by25 sl25 st25 bo25 pt25 of25_0 fa25_0 of25_1 fa25_1 of25_2 fa25_2 of25_3 fa25_3 of25_4 fa25_4 of25_5 fa25_5 pl25 sz40 ag40 zr40 zd40 by40 sl40 st40 bo40 pt40 of40_0 fa40_0 of40_1 fa40_1 of40_2 fa40_2 of40_3 fa40_3 of40_4 fa40_4 pl40 ek40 sz42 ag42 zr42 zd42 by42 sl42 st42 bo42 pt42 of42_0 fa42_0 of42_1 fa42_1 of42_2 fa42_2 of42_3 fa42_3 pl42 ek42 sz44 ag44 zr44 zd44 by44 sl44 st44 bo44 pt44 of44_0 fa44_0 of44_1 fa44_1 of44_2 fa44_2 pl44 ek44 sz66 ag66 zr66 zd66 by66 sl66 st66 bo66 pt66 of66_0 fa66_0 of66_1 fa66_1 pl66 ek66 
theorem con39 (hC : COk cfg39) (x : Remote) (a : RAct) (hp : goodR x) : Sem Try.prog 39 [.d (encRemote x), .d (encRAct a)] (.d (.i .i64 (actR x a).2)) := by
  have hg := hp
  obtain ⟨g1, g2, g3, g4, g5, g6, g7, g8, g9⟩ := hp
  refine sem_of_awR (C := cfg39) (rs := [.tmp 4]) (fun _ => []) Try.func39 rfl rfl rfl rfl rfl rfl ?_
  simp only [enterSl, enterHp, inO, inO2, inO1, inOs, List.append_nil, List.nil_append, Nat.mul_zero, List.cons_append, Nat.zero_add, Nat.reduceAdd, Nat.reduceMul, encChange, encEntry, ceqChange, ceqEntry, etaChange, etaEntry, zfChange, zfEntry, decChange, decEntry, seq_dec, encRemote, decRemote, encPacket, decPacket, encRAct, decRAct, etaRemote, zfRemote, etaPacket, zfPacket, ceqPacket, etaRAct, zfRAct, ceqRAct, getDz_Packet, getDz_RAct, dL_Packet, dL_RAct, dM_Entry, dM_Packet, getDz_Entry, dL_Entry, List.length_map, Int.toNat_natCast, Int.toNat_zero, Nat.sub_zero, ← List.map_take, ← List.map_drop, List.length_take, decL_sl, decM_cons, decM_nil, decM_append, take_map_snoc, dM_Entry, dM_Packet, dM_RAct]
  repeat' first
    | (with_reducible refine thenS_n ?_)
    | (with_reducible refine inBlockS_n ?_)
    | (with_reducible refine AW.seq ?_)
    | (with_reducible refine AW.block ?_)
    | (with_reducible refine AW.runK hC ?_; intro K hK)
    | (with_reducible refine AW.drawK hC (by kernel_rfl) ?_; intro K hK)
    | ((first | (with_reducible refine erun_g ?_) | (with_reducible refine edraw_g ?_) | (with_reducible refine exitS_g ?_)); simp (maxSteps := 1000000) only [go_sem, ↓reduceIte, reduceCtorEq, Nat.reduceEqDiff, Nat.reduceLT, Nat.reduceLeDiff, Nat.reduceMul, Nat.reduceAdd, Nat.reduceSub, reduceDIte, Nat.reduceBEq, Nat.reduceBNe, encChange, encEntry, ceqChange, ceqEntry, etaChange, etaEntry, zfChange, zfEntry, decChange, decEntry, seq_dec, encRemote, decRemote, encPacket, decPacket, encRAct, decRAct, etaRemote, zfRemote, etaPacket, zfPacket, ceqPacket, etaRAct, zfRAct, ceqRAct, getDz_Packet, getDz_RAct, dL_Packet, dL_RAct, dM_Entry, dM_Packet, getDz_Entry, dL_Entry, List.length_map, Int.toNat_natCast, Int.toNat_zero, Nat.sub_zero, ← List.map_take, ← List.map_drop, List.length_take, decL_sl, decM_cons, decM_nil, decM_append, take_map_snoc, dM_Entry, dM_Packet, dM_RAct]; (try simp (disch := omega) only [w64, wu8]))
    | (with_reducible refine hCheck_g (by kernel_rfl) ?_)
    | ((first | (refine AW.cond rfl (fun h => ?_) (fun h => ?_)) | (refine AW.cond_ub rfl (fun h => ?_) ?_) | (refine AW.cond_nb rfl ?_ (fun h => ?_))) <;> (try simp only [Bool.or_eq_true, Bool.and_eq_true, Bool.or_eq_false_iff, Bool.and_eq_false_iff, Bool.not_eq_true', Bool.not_eq_false', Bool.not_eq_true, Bool.not_eq_false, decide_eq_true_eq, decide_eq_false_iff_not, beq_iff_eq, bne_iff_ne, beq_eq_false_iff_ne, bne_eq_false_iff_eq, ne_eq, Int.not_lt, Int.not_le, D.b.injEq, D.i.injEq, D.s.injEq, D.agg.injEq, D.sl.injEq, true_and, and_true, List.cons.injEq, gt_iff_lt, ge_iff_le,  Bool.cond_true_left, Bool.cond_false_right, Bool.cond_true_right, Bool.cond_false_left, seq_iff, seq_dec, dec_f, dec_t, eqB_t, eqB_f] at h) <;> (try (exfalso; first | omega | exact absurd h (by decide))))
    | (with_reducible refine AW.skip ?_)
    | (with_reducible refine AW.exit ?_)
    | (with_reducible refine AW.ret ?_)
    | (with_reducible refine thenS_r ?_)
    | (with_reducible refine thenS_e ?_)
    | (with_reducible refine inBlockS_r ?_)
    | (with_reducible refine inBlockS_e ?_)
    | (with_reducible refine inBlockS_e2 rfl ?_)
    | (with_reducible refine exitQ_r ?_)
    | (with_reducible refine exitQ_n ?_)
    | (refine sub_auto ?_; simp (maxSteps := 1000000) only [forall_eq, V.ptr.injEq, V.row.injEq, V.rp.injEq, V.mref.injEq, exists_eq_left', and_assoc, rhoV, rhoVs, rhoSl, rhoO, rhoHp, rhoDd, rho1, HS.obj?, forall_eq', slSub, hpSub, hpSub1, nfL, vs, vss, vds, vd1, os, aget, go_sem, ↓reduceIte, reduceCtorEq, Nat.reduceEqDiff, Nat.reduceLT, Nat.reduceLeDiff, Nat.reduceMul, Nat.reduceAdd, Nat.reduceSub, reduceDIte, Nat.reduceBEq, Nat.reduceBNe, encChange, encEntry, ceqChange, ceqEntry, etaChange, etaEntry, zfChange, zfEntry, decChange, decEntry, seq_dec, encRemote, decRemote, encPacket, decPacket, encRAct, decRAct, etaRemote, zfRemote, etaPacket, zfPacket, ceqPacket, etaRAct, zfRAct, ceqRAct, getDz_Packet, getDz_RAct, dL_Packet, dL_RAct, dM_Entry, dM_Packet, getDz_Entry, dL_Entry, List.length_map, Int.toNat_natCast, Int.toNat_zero, Nat.sub_zero, ← List.map_take, ← List.map_drop, List.length_take, decL_sl, decM_cons, decM_nil, decM_append, take_map_snoc, dM_Entry, dM_Packet, dM_RAct])
    | (with_reducible refine And.intro ?_ ?_)
    | (subst hK)
  all_goals (try (intros; assumption))
  all_goals (try simp only [Bool.or_eq_true, Bool.and_eq_true, Bool.or_eq_false_iff, Bool.and_eq_false_iff, Bool.not_eq_true', Bool.not_eq_false', Bool.not_eq_true, Bool.not_eq_false, decide_eq_true_eq, decide_eq_false_iff_not, beq_iff_eq, bne_iff_ne, beq_eq_false_iff_ne, bne_eq_false_iff_eq, ne_eq, Int.not_lt, Int.not_le, D.b.injEq, D.i.injEq, D.s.injEq, D.agg.injEq, D.sl.injEq, true_and, and_true, List.cons.injEq, gt_iff_lt, ge_iff_le,  Bool.cond_true_left, Bool.cond_false_right, Bool.cond_true_right, Bool.cond_false_left, seq_iff, seq_dec, dec_f, dec_t, eqB_t, eqB_f] at *)
  all_goals (try (intros; trivial))
  all_goals (try (intros; omega))
  all_goals (try (rw [w64 (by omega) (by omega)]; first | done | omega))
  all_goals (try clear hC g8 g9)
  all_goals (try simp only [act_ext, true_and, and_true] at *)
  all_goals first
    | assumption
    | (simp only [actR]; (repeat' split) <;> first | rfl | omega | (exfalso; omega) | (simp_all; done) | (exfalso; simp_all; omega))

end
/- midrange/midrangeref36.Act -/
noncomputable def cfg20 : Cfg := ⟨Try.prog, 98, tab39, mvs, [], (fun _ => none)⟩
theorem cfg20_ti14 : cfg20.ti 14 = none := rfl
theorem cfg20_ti21 : cfg20.ti 21 = none := rfl
theorem cfg20_ti39 : cfg20.ti 39 = none := rfl
theorem cfg20_ti40 : cfg20.ti 40 = none := rfl
theorem cfg20_pins : cfg20.pins = [] := rfl
theorem cfg20_P : cfg20.P = Try.prog := rfl
theorem cfg20_N : cfg20.N = 98 := rfl
theorem cfg20_T14 : cfg20.T 14 = e14 := rfl
theorem cfg20_mv14 : cfg20.mv 14 = (fun _ => []) := rfl
theorem cfg20_T21 : cfg20.T 21 = e21 := rfl
theorem cfg20_mv21 : cfg20.mv 21 = (fun _ => []) := rfl
theorem cfg20_T39 : cfg20.T 39 = e39 := rfl
theorem cfg20_mv39 : cfg20.mv 39 = (fun _ => []) := rfl
theorem cfg20_T40 : cfg20.T 40 = e40 := rfl
theorem cfg20_mv40 : cfg20.mv 40 = (fun j => if j = 0 then [(1, 42, 8), (2, 42, 8), (5, 66, 2)] else []) := rfl
section
attribute [local go_sem] cfg20_P cfg20_N cfg20_pins cfg20_ti14 cfg20_ti21 cfg20_ti39 cfg20_ti40 cfg20_T14 e14 cfg20_mv14 cfg20_T21 e21 cfg20_mv21 cfg20_T39 e39 cfg20_mv39 cfg20_T40 e40 cfg20_mv40 sz3 ag3 zr3 zo3 zd3 by3 sl3 st3 bo3 pt3 sz4 ag4 zr4 zo4 zd4 by4 sl4 st4 bo4 pt4 sz9 ag9 zr9 zo9 zd9 by9 sl9 un9 st9 bo9 pt9 sz22 ag22 zr22 zo22 zd22 by22 el22 sl22 un22 st22 bo22 pt22 sz23 ag23 zr23 zo23 zd23 by23 el23 sl23 un23 st23 bo23 pt23 sz25 ag25 zr25 zd25 by25 sl25 st25 bo25 pt25 of25_0 fa25_0 of25_1 fa25_1 of25_2 fa25_2 of25_3 fa25_3 of25_4 fa25_4 of25_5 fa25_5 pl25 sz40 ag40 zr40 zd40 by40 sl40 st40 bo40 pt40 of40_0 fa40_0 of40_1 fa40_1 of40_2 fa40_2 of40_3 fa40_3 of40_4 fa40_4 pl40 ek40 sz42 ag42 zr42 zd42 by42 sl42 st42 bo42 pt42 of42_0 fa42_0 of42_1 fa42_1 of42_2 fa42_2 of42_3 fa42_3 pl42 ek42 sz44 ag44 zr44 zd44 by44 sl44 st44 bo44 pt44 of44_0 fa44_0 of44_1 fa44_1 of44_2 fa44_2 pl44 ek44 sz66 ag66 zr66 zd66 by66 sl66 st66 bo66 pt66 of66_0 fa66_0 of66_1 fa66_1 pl66 ek66 
theorem con20 (hC : COk cfg20) (x : Remote) (a : RAct) (hp : x.source.length ≤ 1000000 ∧ x.target.length ≤ 1000000 ∧ x.wire.length ≤ 1000000) : Sem Try.prog 20 [.d (encRemote x), .d (encRAct a)] (.tup [.d (encRemote (actC x a).1), .d (.i .i64 (actC x a).2)]) := by
  have gs : remoteErr x = 0 → 0 ≤ x.sent ∧ x.sent ≤ 40 := fun h => by have g := remoteErr_good h; have g1 := g.s; have g2 := g.s0; have g3 := g.s1; omega
  refine sem_of_awR (C := cfg20) (rs := [.cell 4 25, .tmp 5]) (fun _ => []) Try.func20 rfl rfl rfl rfl rfl rfl ?_
  simp only [enterSl, enterHp, inO, inO2, inO1, inOs, List.append_nil, List.nil_append, Nat.mul_zero, List.cons_append, Nat.zero_add, Nat.reduceAdd, Nat.reduceMul, decOwnRemote, List.length_drop, Nat.min_self, encChange, encEntry, ceqChange, ceqEntry, etaChange, etaEntry, zfChange, zfEntry, decChange, decEntry, seq_dec, encRemote, decRemote, encPacket, decPacket, encRAct, decRAct, etaRemote, zfRemote, etaPacket, zfPacket, ceqPacket, etaRAct, zfRAct, ceqRAct, getDz_Packet, getDz_RAct, dL_Packet, dL_RAct, dM_Entry, dM_Packet, getDz_Entry, dL_Entry, List.length_map, Int.toNat_natCast, Int.toNat_zero, Nat.sub_zero, ← List.map_take, ← List.map_drop, List.length_take, decL_sl, decM_cons, decM_nil, decM_append, take_map_snoc, dM_Entry, dM_Packet, dM_RAct]
  repeat' first
    | (with_reducible refine thenS_n ?_)
    | (with_reducible refine inBlockS_n ?_)
    | (with_reducible refine AW.seq ?_)
    | (with_reducible refine AW.block ?_)
    | (refine AW.atR 9 rfl ?_; obtain ⟨q1, q2, q3, q4⟩ := actR_ok (x := x) (a := a) (by assumption); clear q4; have hb := q3 (by omega); obtain ⟨n, hn⟩ : ∃ n : Nat, a.n = n := ⟨a.n.toNat, by omega⟩; have hn2 : n < x.wire.length := (by omega); have hl2 : x.wire.length ≤ 12 := (remoteErr_good (x := x) (by assumption)).w; have e0 : IntKind.i64.wrap ((n : Int) + 1) = (n : Int) + 1 := w64 (by omega) (by omega); have e1 : ¬ n = x.wire.length := (by omega); have e3 : ((n : Int) + 1).toNat = n + 1 := (by omega); have e4 : n + 1 + (x.wire.length - (n + 1)) ≤ x.wire.length := (by omega); have e5 : min n x.wire.length = n := (by omega); have e6 : n + (x.wire.length - (n + 1)) ≤ n + (x.wire.length - (n + 1)) + (x.wire.length - (n + (x.wire.length - (n + 1)))) := (by omega); have hE := take_erase hn2)
    | (with_reducible refine AWh.runK hC ?_; intro K hK)
    | (with_reducible refine AWh.drawK hC (by kernel_rfl) ?_; intro K hK)
    | (with_reducible refine AW.runK hC ?_; intro K hK)
    | (with_reducible refine AW.drawK hC (by kernel_rfl) ?_; intro K hK)
    | ((first | (with_reducible refine erun_g ?_) | (with_reducible refine edraw_g ?_) | (with_reducible refine exitS_g ?_)); (first | (simp (maxSteps := 1000000) only [go_sem, ↓reduceIte, reduceCtorEq, Nat.reduceEqDiff, Nat.reduceLT, Nat.reduceLeDiff, Nat.reduceMul, Nat.reduceAdd, Nat.reduceSub, reduceDIte, Nat.reduceBEq, Nat.reduceBNe, decOwnRemote, List.length_drop, Nat.min_self, encChange, encEntry, ceqChange, ceqEntry, etaChange, etaEntry, zfChange, zfEntry, decChange, decEntry, seq_dec, encRemote, decRemote, encPacket, decPacket, encRAct, decRAct, etaRemote, zfRemote, etaPacket, zfPacket, ceqPacket, etaRAct, zfRAct, ceqRAct, getDz_Packet, getDz_RAct, dL_Packet, dL_RAct, dM_Entry, dM_Packet, getDz_Entry, dL_Entry, List.length_map, Int.toNat_natCast, Int.toNat_zero, Nat.sub_zero, ← List.map_take, ← List.map_drop, List.length_take, decL_sl, decM_cons, decM_nil, decM_append, take_map_snoc, dM_Entry, dM_Packet, dM_RAct, hn, e0, e1, e3, e4, e5, e6, hE]) | (simp (maxSteps := 1000000) only [go_sem, ↓reduceIte, reduceCtorEq, Nat.reduceEqDiff, Nat.reduceLT, Nat.reduceLeDiff, Nat.reduceMul, Nat.reduceAdd, Nat.reduceSub, reduceDIte, Nat.reduceBEq, Nat.reduceBNe, decOwnRemote, List.length_drop, Nat.min_self, encChange, encEntry, ceqChange, ceqEntry, etaChange, etaEntry, zfChange, zfEntry, decChange, decEntry, seq_dec, encRemote, decRemote, encPacket, decPacket, encRAct, decRAct, etaRemote, zfRemote, etaPacket, zfPacket, ceqPacket, etaRAct, zfRAct, ceqRAct, getDz_Packet, getDz_RAct, dL_Packet, dL_RAct, dM_Entry, dM_Packet, getDz_Entry, dL_Entry, List.length_map, Int.toNat_natCast, Int.toNat_zero, Nat.sub_zero, ← List.map_take, ← List.map_drop, List.length_take, decL_sl, decM_cons, decM_nil, decM_append, take_map_snoc, dM_Entry, dM_Packet, dM_RAct])); (try simp (disch := omega) only [w64, wu8]))
    | (with_reducible refine hCheck_g (by kernel_rfl) ?_)
    | ((first | (refine AW.cond rfl (fun h => ?_) (fun h => ?_)) | (refine AW.cond_ub rfl (fun h => ?_) ?_) | (refine AW.cond_nb rfl ?_ (fun h => ?_))) <;> (try simp only [Bool.or_eq_true, Bool.and_eq_true, Bool.or_eq_false_iff, Bool.and_eq_false_iff, Bool.not_eq_true', Bool.not_eq_false', Bool.not_eq_true, Bool.not_eq_false, decide_eq_true_eq, decide_eq_false_iff_not, beq_iff_eq, bne_iff_ne, beq_eq_false_iff_ne, bne_eq_false_iff_eq, ne_eq, Int.not_lt, Int.not_le, D.b.injEq, D.i.injEq, D.s.injEq, D.agg.injEq, D.sl.injEq, true_and, and_true, List.cons.injEq, gt_iff_lt, ge_iff_le,  Bool.cond_true_left, Bool.cond_false_right, Bool.cond_true_right, Bool.cond_false_left, seq_iff, seq_dec, dec_f, dec_t, eqB_t, eqB_f] at h) <;> (try (exfalso; first | omega | exact absurd h (by decide))))
    | (with_reducible refine AW.skip ?_)
    | (with_reducible refine AW.exit ?_)
    | (with_reducible refine AW.ret ?_)
    | (with_reducible refine thenS_r ?_)
    | (with_reducible refine thenS_e ?_)
    | (with_reducible refine inBlockS_r ?_)
    | (with_reducible refine inBlockS_e ?_)
    | (with_reducible refine inBlockS_e2 rfl ?_)
    | (with_reducible refine exitQ_r ?_)
    | (with_reducible refine exitQ_n ?_)
    | (refine sub_auto ?_; simp (maxSteps := 1000000) only [forall_eq, V.ptr.injEq, V.row.injEq, V.rp.injEq, V.mref.injEq, exists_eq_left', and_assoc, rhoV, rhoVs, rhoSl, rhoO, rhoHp, rhoDd, rho1, HS.obj?, forall_eq', slSub, hpSub, hpSub1, nfL, vs, vss, vds, vd1, os, aget, go_sem, ↓reduceIte, reduceCtorEq, Nat.reduceEqDiff, Nat.reduceLT, Nat.reduceLeDiff, Nat.reduceMul, Nat.reduceAdd, Nat.reduceSub, reduceDIte, Nat.reduceBEq, Nat.reduceBNe, decOwnRemote, List.length_drop, Nat.min_self, encChange, encEntry, ceqChange, ceqEntry, etaChange, etaEntry, zfChange, zfEntry, decChange, decEntry, seq_dec, encRemote, decRemote, encPacket, decPacket, encRAct, decRAct, etaRemote, zfRemote, etaPacket, zfPacket, ceqPacket, etaRAct, zfRAct, ceqRAct, getDz_Packet, getDz_RAct, dL_Packet, dL_RAct, dM_Entry, dM_Packet, getDz_Entry, dL_Entry, List.length_map, Int.toNat_natCast, Int.toNat_zero, Nat.sub_zero, ← List.map_take, ← List.map_drop, List.length_take, decL_sl, decM_cons, decM_nil, decM_append, take_map_snoc, dM_Entry, dM_Packet, dM_RAct])
    | (with_reducible refine And.intro ?_ ?_)
    | (subst hK)
  all_goals (try (intros; assumption))
  all_goals (try simp only [Bool.or_eq_true, Bool.and_eq_true, Bool.or_eq_false_iff, Bool.and_eq_false_iff, Bool.not_eq_true', Bool.not_eq_false', Bool.not_eq_true, Bool.not_eq_false, decide_eq_true_eq, decide_eq_false_iff_not, beq_iff_eq, bne_iff_ne, beq_eq_false_iff_ne, bne_eq_false_iff_eq, ne_eq, Int.not_lt, Int.not_le, D.b.injEq, D.i.injEq, D.s.injEq, D.agg.injEq, D.sl.injEq, true_and, and_true, List.cons.injEq, gt_iff_lt, ge_iff_le,  Bool.cond_true_left, Bool.cond_false_right, Bool.cond_true_right, Bool.cond_false_left, seq_iff, seq_dec, dec_f, dec_t, eqB_t, eqB_f] at *)
  all_goals (try (intros; trivial))
  all_goals (try (intros; omega))
  all_goals (try (rw [w64 (by omega) (by omega)]; first | done | omega))
  all_goals first
    | exact remoteErr_good (by assumption)
    | exact ((actR_ok (x := x) (a := a) (by assumption)).2.2.1 (by omega)).1
    | exact ((actR_ok (x := x) (a := a) (by assumption)).2.2.1 (by omega)).2
    | (rw [List.length_eraseIdx]; split <;> omega)
    | (intro hk hn'; have := (remoteErr_good (x := x) (by assumption)).p n hn2 hk; omega)
    | (rw [actC, if_neg (by omega), (actR_ok (x := x) (a := a) (by assumption)).2.2.2, if_neg (by omega), if_neg (by omega), if_pos (by omega), show a.n.toNat = n by omega]; first | done | rfl | exact dles_refl _)
    | (rw [actC, if_neg (by omega), (actR_ok (x := x) (a := a) (by assumption)).2.2.2, if_neg (by omega), if_neg (by omega), if_neg (by omega), if_pos (by omega), show a.n.toNat = n by omega]; exact dles_refl _)
    | (intro d hd; subst hd; exact ⟨rfl, by simp [D.cells, D.one]⟩)
    | (rw [actC, if_pos (by omega)]; done)
    | (rw [actC, if_pos (by omega)]; rfl)
    | (rw [actC, if_neg (by omega), actR_err (by assumption)]; done)
    | (rw [actC, if_neg (by omega), actR_err (by assumption)]; rfl)
    | (rw [actC, if_neg (by omega)]; done)
    | (rw [actC, if_neg (by omega)]; assumption)
    | (obtain ⟨q1, q2, q3, q4⟩ := actR_ok (x := x) (a := a) (by assumption)
       rw [actC, if_neg (by omega), q4]
       clear hC q4
       (repeat' split) <;> first | rfl | omega | (exfalso; omega) | exact dles_refl _ | (refine dles_of_eq ?_; simp [encEntry, encPacket]; done))

end
/- midrange/midrangeref36.Own -/
noncomputable def cfg14d : Cfg := ⟨Try.prog, 16, tab20, mvs, [], (fun _ => none)⟩
theorem cfg14d_ti38 : cfg14d.ti 38 = none := rfl
theorem cfg14d_pins : cfg14d.pins = [] := rfl
theorem cfg14d_P : cfg14d.P = Try.prog := rfl
theorem cfg14d_N : cfg14d.N = 16 := rfl
theorem cfg14d_T38 : cfg14d.T 38 = e38 := rfl
theorem cfg14d_mv38 : cfg14d.mv 38 = (fun _ => []) := rfl
section
attribute [local go_sem] cfg14d_P cfg14d_N cfg14d_pins cfg14d_ti38 cfg14d_T38 e38 cfg14d_mv38 sz3 ag3 zr3 zo3 zd3 by3 sl3 st3 bo3 pt3 sz4 ag4 zr4 zo4 zd4 by4 sl4 st4 bo4 pt4 sz9 ag9 zr9 zo9 zd9 by9 sl9 un9 st9 bo9 pt9 sz22 ag22 zr22 zo22 zd22 by22 el22 sl22 un22 st22 bo22 pt22 sz23 ag23 zr23 zo23 zd23 by23 el23 sl23 un23 st23 bo23 pt23 sz25 ag25 zr25 zd25 by25 sl25 st25 bo25 pt25 of25_0 fa25_0 of25_1 fa25_1 of25_2 fa25_2 of25_3 fa25_3 of25_4 fa25_4 of25_5 fa25_5 pl25 sz40 ag40 zr40 zd40 by40 sl40 st40 bo40 pt40 of40_0 fa40_0 of40_1 fa40_1 of40_2 fa40_2 of40_3 fa40_3 of40_4 fa40_4 pl40 ek40 sz42 ag42 zr42 zd42 by42 sl42 st42 bo42 pt42 of42_0 fa42_0 of42_1 fa42_1 of42_2 fa42_2 of42_3 fa42_3 pl42 ek42 sz66 ag66 zr66 zd66 by66 sl66 st66 bo66 pt66 of66_0 fa66_0 of66_1 fa66_1 pl66 ek66 
theorem con14d (hC : COk cfg14d) (x : Remote) (hp : x.source.length ≤ 1000000 ∧ x.target.length ≤ 1000000 ∧ x.wire.length ≤ 1000000) : Sem Try.prog 14 [.d (encRemote x)] (.d (encRemote x)) := by
  refine sem_of_awR (C := cfg14d) (rs := [.cell 2 25]) (fun _ => []) Try.func14 rfl rfl rfl rfl rfl rfl ?_
  simp only [enterSl, enterHp, inO, inO2, inO1, inOs, List.append_nil, List.nil_append, Nat.mul_zero, List.cons_append, Nat.zero_add, Nat.reduceAdd, Nat.reduceMul, encChange, encEntry, ceqChange, ceqEntry, etaChange, etaEntry, zfChange, zfEntry, decChange, decEntry, seq_dec, encRemote, decRemote, encPacket, decPacket, encRAct, decRAct, etaRemote, zfRemote, etaPacket, zfPacket, ceqPacket, etaRAct, zfRAct, ceqRAct, getDz_Packet, getDz_RAct, dL_Packet, dL_RAct, dM_Entry, dM_Packet, getDz_Entry, dL_Entry, List.length_map, Int.toNat_natCast, Int.toNat_zero, Nat.sub_zero, ← List.map_take, ← List.map_drop, List.length_take, decL_sl, decM_cons, decM_nil, decM_append, take_map_snoc, dM_Entry, dM_Packet, dM_RAct]
  repeat' first
    | (with_reducible refine thenS_n ?_)
    | (with_reducible refine inBlockS_n ?_)
    | (with_reducible refine AW.seq ?_)
    | (with_reducible refine AW.block ?_)
    | (with_reducible refine AW.runK hC ?_; intro K hK)
    | (with_reducible refine AW.drawK hC (by kernel_rfl) ?_; intro K hK)
    | ((first | (with_reducible refine erun_g ?_) | (with_reducible refine edraw_g ?_) | (with_reducible refine exitS_g ?_)); simp (maxSteps := 1000000) only [go_sem, ↓reduceIte, reduceCtorEq, Nat.reduceEqDiff, Nat.reduceLT, Nat.reduceLeDiff, Nat.reduceMul, Nat.reduceAdd, Nat.reduceSub, reduceDIte, Nat.reduceBEq, Nat.reduceBNe, encChange, encEntry, ceqChange, ceqEntry, etaChange, etaEntry, zfChange, zfEntry, decChange, decEntry, seq_dec, encRemote, decRemote, encPacket, decPacket, encRAct, decRAct, etaRemote, zfRemote, etaPacket, zfPacket, ceqPacket, etaRAct, zfRAct, ceqRAct, getDz_Packet, getDz_RAct, dL_Packet, dL_RAct, dM_Entry, dM_Packet, getDz_Entry, dL_Entry, List.length_map, Int.toNat_natCast, Int.toNat_zero, Nat.sub_zero, ← List.map_take, ← List.map_drop, List.length_take, decL_sl, decM_cons, decM_nil, decM_append, take_map_snoc, dM_Entry, dM_Packet, dM_RAct]; (try simp (disch := omega) only [w64, wu8]))
    | (with_reducible refine hCheck_g (by kernel_rfl) ?_)
    | ((first | (refine AW.cond rfl (fun h => ?_) (fun h => ?_)) | (refine AW.cond_ub rfl (fun h => ?_) ?_) | (refine AW.cond_nb rfl ?_ (fun h => ?_))) <;> (try simp only [Bool.or_eq_true, Bool.and_eq_true, Bool.or_eq_false_iff, Bool.and_eq_false_iff, Bool.not_eq_true', Bool.not_eq_false', Bool.not_eq_true, Bool.not_eq_false, decide_eq_true_eq, decide_eq_false_iff_not, beq_iff_eq, bne_iff_ne, beq_eq_false_iff_ne, bne_eq_false_iff_eq, ne_eq, Int.not_lt, Int.not_le, D.b.injEq, D.i.injEq, D.s.injEq, D.agg.injEq, D.sl.injEq, true_and, and_true, List.cons.injEq, gt_iff_lt, ge_iff_le,  Bool.cond_true_left, Bool.cond_false_right, Bool.cond_true_right, Bool.cond_false_left, seq_iff, seq_dec, dec_f, dec_t, eqB_t, eqB_f] at h) <;> (try (exfalso; first | omega | exact absurd h (by decide))))
    | (with_reducible refine AW.skip ?_)
    | (with_reducible refine AW.exit ?_)
    | (with_reducible refine AW.ret ?_)
    | (with_reducible refine thenS_r ?_)
    | (with_reducible refine thenS_e ?_)
    | (with_reducible refine inBlockS_r ?_)
    | (with_reducible refine inBlockS_e ?_)
    | (with_reducible refine inBlockS_e2 rfl ?_)
    | (with_reducible refine exitQ_r ?_)
    | (with_reducible refine exitQ_n ?_)
    | (refine sub_auto ?_; simp (maxSteps := 1000000) only [forall_eq, V.ptr.injEq, V.row.injEq, V.rp.injEq, V.mref.injEq, exists_eq_left', and_assoc, rhoV, rhoVs, rhoSl, rhoO, rhoHp, rhoDd, rho1, HS.obj?, forall_eq', slSub, hpSub, hpSub1, nfL, vs, vss, vds, vd1, os, aget, go_sem, ↓reduceIte, reduceCtorEq, Nat.reduceEqDiff, Nat.reduceLT, Nat.reduceLeDiff, Nat.reduceMul, Nat.reduceAdd, Nat.reduceSub, reduceDIte, Nat.reduceBEq, Nat.reduceBNe, encChange, encEntry, ceqChange, ceqEntry, etaChange, etaEntry, zfChange, zfEntry, decChange, decEntry, seq_dec, encRemote, decRemote, encPacket, decPacket, encRAct, decRAct, etaRemote, zfRemote, etaPacket, zfPacket, ceqPacket, etaRAct, zfRAct, ceqRAct, getDz_Packet, getDz_RAct, dL_Packet, dL_RAct, dM_Entry, dM_Packet, getDz_Entry, dL_Entry, List.length_map, Int.toNat_natCast, Int.toNat_zero, Nat.sub_zero, ← List.map_take, ← List.map_drop, List.length_take, decL_sl, decM_cons, decM_nil, decM_append, take_map_snoc, dM_Entry, dM_Packet, dM_RAct])
    | (with_reducible refine And.intro ?_ ?_)
    | (subst hK)
  all_goals (try (intros; assumption))
  all_goals (try simp only [Bool.or_eq_true, Bool.and_eq_true, Bool.or_eq_false_iff, Bool.and_eq_false_iff, Bool.not_eq_true', Bool.not_eq_false', Bool.not_eq_true, Bool.not_eq_false, decide_eq_true_eq, decide_eq_false_iff_not, beq_iff_eq, bne_iff_ne, beq_eq_false_iff_ne, bne_eq_false_iff_eq, ne_eq, Int.not_lt, Int.not_le, D.b.injEq, D.i.injEq, D.s.injEq, D.agg.injEq, D.sl.injEq, true_and, and_true, List.cons.injEq, gt_iff_lt, ge_iff_le,  Bool.cond_true_left, Bool.cond_false_right, Bool.cond_true_right, Bool.cond_false_left, seq_iff, seq_dec, dec_f, dec_t, eqB_t, eqB_f] at *)
  all_goals (try (intros; trivial))
  all_goals (try (intros; omega))
  all_goals (try (rw [w64 (by omega) (by omega)]; first | done | omega))
  all_goals first | omega | (simp_all [dles]; done)

end
/- midrange/midrangeref36.Delivered -/
noncomputable def cfg34 : Cfg := ⟨Try.prog, 20, tab14d, mvs, [], (fun _ => none)⟩
theorem cfg34_ti14 : cfg34.ti 14 = none := rfl
theorem cfg34_ti38 : cfg34.ti 38 = none := rfl
theorem cfg34_pins : cfg34.pins = [] := rfl
theorem cfg34_P : cfg34.P = Try.prog := rfl
theorem cfg34_N : cfg34.N = 20 := rfl
theorem cfg34_T14 : cfg34.T 14 = e14d := rfl
theorem cfg34_mv14 : cfg34.mv 14 = (fun _ => []) := rfl
theorem cfg34_T38 : cfg34.T 38 = e38 := rfl
theorem cfg34_mv38 : cfg34.mv 38 = (fun _ => []) := rfl
section
attribute [local go_sem] cfg34_P cfg34_N cfg34_pins cfg34_ti14 cfg34_ti38 cfg34_T14 e14d cfg34_mv14 cfg34_T38 e38 cfg34_mv38 sz3 ag3 zr3 zo3 zd3 by3 sl3 st3 bo3 pt3 sz4 ag4 zr4 zo4 zd4 by4 sl4 st4 bo4 pt4 sz9 ag9 zr9 zo9 zd9 by9 sl9 un9 st9 bo9 pt9 sz22 ag22 zr22 zo22 zd22 by22 el22 sl22 un22 st22 bo22 pt22 sz23 ag23 zr23 zo23 zd23 by23 el23 sl23 un23 st23 bo23 pt23 sz25 ag25 zr25 zd25 by25 sl25 st25 bo25 pt25 of25_0 fa25_0 of25_1 fa25_1 of25_2 fa25_2 of25_3 fa25_3 of25_4 fa25_4 of25_5 fa25_5 pl25 sz40 ag40 zr40 zd40 by40 sl40 st40 bo40 pt40 of40_0 fa40_0 of40_1 fa40_1 of40_2 fa40_2 of40_3 fa40_3 of40_4 fa40_4 pl40 ek40 sz42 ag42 zr42 zd42 by42 sl42 st42 bo42 pt42 of42_0 fa42_0 of42_1 fa42_1 of42_2 fa42_2 of42_3 fa42_3 pl42 ek42 sz66 ag66 zr66 zd66 by66 sl66 st66 bo66 pt66 of66_0 fa66_0 of66_1 fa66_1 pl66 ek66 
theorem con34 (hC : COk cfg34) (x : Remote) (hp : x.source.length ≤ 1000000 ∧ x.target.length ≤ 1000000 ∧ x.wire.length ≤ 1000000) : Sem Try.prog 34 [.d (encRemote x)] (.d (encRemote ⟨x.sync, x.source, x.source, x.source.length, x.source.length, []⟩)) := by
  refine sem_of_awR (C := cfg34) (rs := [.cell 2 25]) (fun _ => []) Try.func34 rfl rfl rfl rfl rfl rfl ?_
  simp only [enterSl, enterHp, inO, inO2, inO1, inOs, List.append_nil, List.nil_append, Nat.mul_zero, List.cons_append, Nat.zero_add, Nat.reduceAdd, Nat.reduceMul, encChange, encEntry, ceqChange, ceqEntry, etaChange, etaEntry, zfChange, zfEntry, decChange, decEntry, seq_dec, encRemote, decRemote, encPacket, decPacket, encRAct, decRAct, etaRemote, zfRemote, etaPacket, zfPacket, ceqPacket, etaRAct, zfRAct, ceqRAct, getDz_Packet, getDz_RAct, dL_Packet, dL_RAct, dM_Entry, dM_Packet, getDz_Entry, dL_Entry, List.length_map, Int.toNat_natCast, Int.toNat_zero, Nat.sub_zero, ← List.map_take, ← List.map_drop, List.length_take, decL_sl, decM_cons, decM_nil, decM_append, take_map_snoc, dM_Entry, dM_Packet, dM_RAct]
  repeat' first
    | (with_reducible refine thenS_n ?_)
    | (with_reducible refine inBlockS_n ?_)
    | (with_reducible refine AW.seq ?_)
    | (with_reducible refine AW.block ?_)
    | (with_reducible refine AW.runK hC ?_; intro K hK)
    | (with_reducible refine AW.drawK hC (by kernel_rfl) ?_; intro K hK)
    | ((first | (with_reducible refine erun_g ?_) | (with_reducible refine edraw_g ?_) | (with_reducible refine exitS_g ?_)); simp (maxSteps := 1000000) only [go_sem, ↓reduceIte, reduceCtorEq, Nat.reduceEqDiff, Nat.reduceLT, Nat.reduceLeDiff, Nat.reduceMul, Nat.reduceAdd, Nat.reduceSub, reduceDIte, Nat.reduceBEq, Nat.reduceBNe, encChange, encEntry, ceqChange, ceqEntry, etaChange, etaEntry, zfChange, zfEntry, decChange, decEntry, seq_dec, encRemote, decRemote, encPacket, decPacket, encRAct, decRAct, etaRemote, zfRemote, etaPacket, zfPacket, ceqPacket, etaRAct, zfRAct, ceqRAct, getDz_Packet, getDz_RAct, dL_Packet, dL_RAct, dM_Entry, dM_Packet, getDz_Entry, dL_Entry, List.length_map, Int.toNat_natCast, Int.toNat_zero, Nat.sub_zero, ← List.map_take, ← List.map_drop, List.length_take, decL_sl, decM_cons, decM_nil, decM_append, take_map_snoc, dM_Entry, dM_Packet, dM_RAct]; (try simp (disch := omega) only [w64, wu8]))
    | (with_reducible refine hCheck_g (by kernel_rfl) ?_)
    | ((first | (refine AW.cond rfl (fun h => ?_) (fun h => ?_)) | (refine AW.cond_ub rfl (fun h => ?_) ?_) | (refine AW.cond_nb rfl ?_ (fun h => ?_))) <;> (try simp only [Bool.or_eq_true, Bool.and_eq_true, Bool.or_eq_false_iff, Bool.and_eq_false_iff, Bool.not_eq_true', Bool.not_eq_false', Bool.not_eq_true, Bool.not_eq_false, decide_eq_true_eq, decide_eq_false_iff_not, beq_iff_eq, bne_iff_ne, beq_eq_false_iff_ne, bne_eq_false_iff_eq, ne_eq, Int.not_lt, Int.not_le, D.b.injEq, D.i.injEq, D.s.injEq, D.agg.injEq, D.sl.injEq, true_and, and_true, List.cons.injEq, gt_iff_lt, ge_iff_le,  Bool.cond_true_left, Bool.cond_false_right, Bool.cond_true_right, Bool.cond_false_left, seq_iff, seq_dec, dec_f, dec_t, eqB_t, eqB_f] at h) <;> (try (exfalso; first | omega | exact absurd h (by decide))))
    | (with_reducible refine AW.skip ?_)
    | (with_reducible refine AW.exit ?_)
    | (with_reducible refine AW.ret ?_)
    | (with_reducible refine thenS_r ?_)
    | (with_reducible refine thenS_e ?_)
    | (with_reducible refine inBlockS_r ?_)
    | (with_reducible refine inBlockS_e ?_)
    | (with_reducible refine inBlockS_e2 rfl ?_)
    | (with_reducible refine exitQ_r ?_)
    | (with_reducible refine exitQ_n ?_)
    | (refine sub_auto ?_; simp (maxSteps := 1000000) only [forall_eq, V.ptr.injEq, V.row.injEq, V.rp.injEq, V.mref.injEq, exists_eq_left', and_assoc, rhoV, rhoVs, rhoSl, rhoO, rhoHp, rhoDd, rho1, HS.obj?, forall_eq', slSub, hpSub, hpSub1, nfL, vs, vss, vds, vd1, os, aget, go_sem, ↓reduceIte, reduceCtorEq, Nat.reduceEqDiff, Nat.reduceLT, Nat.reduceLeDiff, Nat.reduceMul, Nat.reduceAdd, Nat.reduceSub, reduceDIte, Nat.reduceBEq, Nat.reduceBNe, encChange, encEntry, ceqChange, ceqEntry, etaChange, etaEntry, zfChange, zfEntry, decChange, decEntry, seq_dec, encRemote, decRemote, encPacket, decPacket, encRAct, decRAct, etaRemote, zfRemote, etaPacket, zfPacket, ceqPacket, etaRAct, zfRAct, ceqRAct, getDz_Packet, getDz_RAct, dL_Packet, dL_RAct, dM_Entry, dM_Packet, getDz_Entry, dL_Entry, List.length_map, Int.toNat_natCast, Int.toNat_zero, Nat.sub_zero, ← List.map_take, ← List.map_drop, List.length_take, decL_sl, decM_cons, decM_nil, decM_append, take_map_snoc, dM_Entry, dM_Packet, dM_RAct])
    | (with_reducible refine And.intro ?_ ?_)
    | (subst hK)
  all_goals (try (intros; assumption))
  all_goals (try simp only [Bool.or_eq_true, Bool.and_eq_true, Bool.or_eq_false_iff, Bool.and_eq_false_iff, Bool.not_eq_true', Bool.not_eq_false', Bool.not_eq_true, Bool.not_eq_false, decide_eq_true_eq, decide_eq_false_iff_not, beq_iff_eq, bne_iff_ne, beq_eq_false_iff_ne, bne_eq_false_iff_eq, ne_eq, Int.not_lt, Int.not_le, D.b.injEq, D.i.injEq, D.s.injEq, D.agg.injEq, D.sl.injEq, true_and, and_true, List.cons.injEq, gt_iff_lt, ge_iff_le,  Bool.cond_true_left, Bool.cond_false_right, Bool.cond_true_right, Bool.cond_false_left, seq_iff, seq_dec, dec_f, dec_t, eqB_t, eqB_f] at *)
  all_goals (try (intros; trivial))
  all_goals (try (intros; omega))
  all_goals (try (rw [w64 (by omega) (by omega)]; first | done | omega))
  all_goals first
    | (intro d hd; rcases hd with rfl | rfl | rfl | rfl | rfl | rfl | rfl <;> exact ⟨rfl, by simp [D.cells, D.one]⟩)
    | (simp; done)
    | (simp; omega)

end
end Go.Ev
