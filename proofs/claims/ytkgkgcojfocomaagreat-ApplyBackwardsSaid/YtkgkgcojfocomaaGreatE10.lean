/- Tools and contracts under the laws of this seat: Dyc41 to Dyc103. -/
import Derived.Test.YtkgkgcojfocomaaGreatE05
set_option linter.unusedVariables false
set_option linter.unusedSimpArgs false
namespace Go.Ev
open Go.Proofs Ty
set_option maxRecDepth 10000
set_option maxHeartbeats 4000000
set_option linter.unusedSimpArgs false
set_option linter.unusedVariables false
attribute [local go_sem] erun_nil erun_cons edraw_eq edrun_nil edrun_cons e1_n e1_g guardSlot_eq lkAll_tmp lkAll_nil lkAll_const lkAll_func val_tmp val_const val_func aget getBox_mk getRow_mk liveRow_mk hp_mk eU_move_n eU_assign_n eU_move eU_assign eU_pick eU_alloc eU_box eU_load eU_store eU_nilCheck eU_binOp eU_unOp eU_fieldAddr eU_field eU_indexAddr eU_index eU_build eU_buildSlice eU_slice eU_extract eU_makeFunc eU_builtin eU_call eU_callv V.cells V.one D.one D.cells newObj nm HS.isFree HS.isLive andOk_some andOk_none List.map_cons List.map_nil Option.bind_some Option.bind_none putL List.cons_append List.nil_append thenS_normal thenS_ret thenS_exit inBlockS_normal inBlockS_ret inBlockS_exit true_and and_true justV justO cval Option.map_some Option.map_none loadAt storeAt ldV ldD mkAgg V.asD spliceL List.take_succ_cons List.take_zero List.drop_succ_cons List.drop_zero List.getElem?_cons_zero List.getElem?_cons_succ List.getElem?_nil List.all_cons List.all_nil Bool.and_true Bool.true_and Bool.and_self List.length_cons List.length_nil vals aopCall argsO argO toD3 toD2 toD1 toDs O.ok O.ok2 O.ok1 O.flat O.flat1 D.flat D.flatA inO inO2 inO1 inOs List.filterMap_nil List.filterMap_cons List.filter_nil List.filter_cons List.nodup_nil decide_true decide_false Bool.not_true Bool.not_false not_true_eq_false not_false_eq_true or_false false_or and_false false_and ne_eq List.append_nil optB guardQ guardRes beq_self_eq_true List.mapM_cons List.mapM_nil Option.pure_def Option.bind_eq_bind true_or or_true or_self callHp ite_self not_true not_false_iff ite_true ite_false if_true if_false Bool.false_eq_true Bool.true_eq_false List.any_nil List.any_cons List.contains_nil List.contains_cons eq_self aopAppend builtinV elems aopBin nilEqS nilEqP aopSlice bound natOf lenOf binD intBin unD bindEq eU_makeMap eU_convert eU_makeSlice aopConv aopMake isShift shiftD eU_lookup eU_mapUpdate getMp_mk List.range_zero Nat.zero_le Nat.zero_mul Nat.zero_add Nat.add_zero List.length_append List.take_length List.isEmpty_nil List.isEmpty_cons V.neg List.flatMap_nil and_self List.range_succ forall_const implies_true Nat.not_lt_zero exitQ_normal exitQ_ret exitS_eq exitO resVs resV_tmp resV_cell takeRow argCells mvAt dle_same dles_same ole_same ole oles dle dles List.nodup_cons List.mem_cons List.not_mem_nil List.drop_length Nat.le_refl Nat.lt_irrefl id_eq Option.some.injEq Bool.or_false Bool.false_or Bool.or_self Bool.or_true Bool.true_or false_implies Bool.and_false Bool.false_and List.reverse_cons List.reverse_nil sh1 mget1 mget aopLookup aopMapUpdate mapOf msetK msetV Option.isSome_some Option.isSome_none Bool.cond_true_left Bool.cond_false_right Bool.cond_true_right Bool.cond_false_left beq_true beq_false Bool.not_not imp_self guardVal notB strBin aopSliceS buildV argOk D.splice kEq Option.toList_some Option.toList_none adel List.getD_cons_zero List.getD_cons_succ bxIds bxId backHp hget one1 aopCall0 aopTurn
attribute [local go_sem] sz3 ag3 zr3 zo3 zd3 by3 sl3 st3 bo3 pt3 ck3 sz5 ag5 zr5 zo5 zd5 by5 sl5 st5 bo5 pt5 ck5 sz4 ag4 zr4 zo4 zd4 by4 sl4 st4 bo4 pt4 sz9 ag9 zr9 zo9 zd9 by9 sl9 un9 st9 bo9 pt9 ck9 sz48 ag48 zr48 zd48 by48 sl48 st48 bo48 pt48 of48_0 fa48_0 of48_1 fa48_1 of48_2 fa48_2 of48_3 fa48_3 of48_4 fa48_4 pl48 ek48 sz50 ag50 zr50 zd50 by50 sl50 st50 bo50 pt50 of50_0 fa50_0 of50_1 fa50_1 of50_2 fa50_2 of50_3 fa50_3 pl50 ek50 sz23 ag23 zr23 zo23 zd23 by23 el23 sl23 un23 st23 bo23 pt23
noncomputable def cfg41 : Cfg := ⟨Tryz.prog, 15, (fun _ _ => none), (fun _ _ => []), [], (fun _ => none)⟩
theorem cfg41_l : cfg41.pins = [] ∧ cfg41.P = Tryz.prog ∧ cfg41.N = 15 := ⟨rfl, rfl, rfl⟩
section
attribute [local go_sem] cfg41_l
theorem con41 (hC : COk cfg41) (n : Int) (least : Int) (most : Int) : Sem Tryz.prog 41 [.d (.i .i64 n), .d (.i .i64 least), .d (.i .i64 most)] (.d (.b (decide (least ≤ n) && decide (n ≤ most)))) := by
  refine sem_of_awR (C := cfg41) (rs := [.tmp 6]) (fun _ => []) Tryz.func41 rfl rfl rfl rfl rfl rfl ?_
  refine inQ ?_
  repeat' first
    | (with_reducible first | refine thenS_n ?_ | refine inBlockS_n ?_ | refine AW.seq ?_ | refine AW.block ?_)
    | (with_reducible first | (refine AW.runK hC ?_; intro K hK) | (refine AW.drawK hC (by kernel_rfl) ?_; intro K hK))
    | ((with_reducible first | refine erun_g ?_ | refine edraw_g ?_ | refine exitS_g ?_); refine siQ ?_; (try simp (disch := omega) only [w64, wu8]))
    | (with_reducible refine hCheck_g (by kernel_rfl) ?_)
    | ((first | (refine AW.cond rfl (fun h => ?_) (fun h => ?_)) | (refine AW.cond_ub rfl (fun h => ?_) ?_) | (refine AW.cond_nb rfl ?_ (fun h => ?_))) <;> (try replace h := boolH h) <;> (try (exfalso; first | omega | exact absurd h (by decide))))
    | (with_reducible first | refine AW.skip ?_ | refine AW.exit ?_ | refine AW.ret ?_ | refine thenS_r ?_ | refine thenS_e ?_ | refine inBlockS_r ?_ | refine inBlockS_e ?_ | refine inBlockS_e2 rfl ?_ | refine exitQ_r ?_ | refine exitQ_n ?_)
    | (refine sub_auto ?_; refine subQ ?_)
    | (with_reducible refine And.intro ?_ ?_)
    | (subst hK)
    | exact trivial
  all_goals (try (intros; assumption))
  all_goals (try refine boolG ?_)
  all_goals (try replace hp := boolH hp)
  all_goals (try replace hi := boolH hi)
  all_goals (try replace hj := boolH hj)
  all_goals (try replace hk := boolH hk)
  all_goals (try (intros; trivial))
  all_goals (try (intros; omega))
  all_goals (try (rw [w64 (by omega) (by omega)]; first | done | omega))
 
end
noncomputable def cfg100 : Cfg := ⟨Tryz.prog, 15, tab41, (fun _ _ => []), [], (fun _ => none)⟩
theorem cfg100_l : cfg100.pins = [] ∧ cfg100.P = Tryz.prog ∧ cfg100.N = 15 := ⟨rfl, rfl, rfl⟩
section
attribute [local go_sem] cfg100_l
theorem con100 (hC : COk cfg100) (n : Int) (least : Int) (most : Int) : Sem Tryz.prog 100 [.d (.i .i64 n), .d (.i .i64 least), .d (.i .i64 most)] (.d (.b (decide (least ≤ n) && decide (n ≤ most)))) := by
  refine sem_of_awR (C := cfg100) (rs := [.tmp 6]) (fun _ => []) Tryz.func100 rfl rfl rfl rfl rfl rfl ?_
  refine inQ ?_
  repeat' first
    | (with_reducible first | refine thenS_n ?_ | refine inBlockS_n ?_ | refine AW.seq ?_ | refine AW.block ?_)
    | (with_reducible first | (refine AW.runK hC ?_; intro K hK) | (refine AW.drawK hC (by kernel_rfl) ?_; intro K hK))
    | ((with_reducible first | refine erun_g ?_ | refine edraw_g ?_ | refine exitS_g ?_); refine siQ ?_; (try simp (disch := omega) only [w64, wu8]))
    | (with_reducible refine hCheck_g (by kernel_rfl) ?_)
    | ((first | (refine AW.cond rfl (fun h => ?_) (fun h => ?_)) | (refine AW.cond_ub rfl (fun h => ?_) ?_) | (refine AW.cond_nb rfl ?_ (fun h => ?_))) <;> (try replace h := boolH h) <;> (try (exfalso; first | omega | exact absurd h (by decide))))
    | (with_reducible first | refine AW.skip ?_ | refine AW.exit ?_ | refine AW.ret ?_ | refine thenS_r ?_ | refine thenS_e ?_ | refine inBlockS_r ?_ | refine inBlockS_e ?_ | refine inBlockS_e2 rfl ?_ | refine exitQ_r ?_ | refine exitQ_n ?_)
    | (refine sub_auto ?_; refine subQ ?_)
    | (with_reducible refine And.intro ?_ ?_)
    | (subst hK)
    | exact trivial
  all_goals (try (intros; assumption))
  all_goals (try refine boolG ?_)
  all_goals (try replace hp := boolH hp)
  all_goals (try replace hi := boolH hi)
  all_goals (try replace hj := boolH hj)
  all_goals (try replace hk := boolH hk)
  all_goals (try (intros; trivial))
  all_goals (try (intros; omega))
  all_goals (try (rw [w64 (by omega) (by omega)]; first | done | omega))
 
end
noncomputable def cfg76 : Cfg := ⟨Tryz.prog, 4, tab100, (fun _ _ => []), [], (fun _ => none)⟩
theorem cfg76_l : cfg76.pins = [] ∧ cfg76.P = Tryz.prog ∧ cfg76.N = 4 := ⟨rfl, rfl, rfl⟩
section
attribute [local go_sem] cfg76_l
theorem con76 (hC : COk cfg76) (b : Bool) : Sem Tryz.prog 76 [.d (.b b)] (.d (.i .i64 (if b = true then 1 else 0))) := by
  refine sem_of_awR (C := cfg76) (rs := [.tmp 2]) (fun _ => []) Tryz.func76 rfl rfl rfl rfl rfl rfl ?_
  refine inQ ?_
  repeat' first
    | (with_reducible first | refine thenS_n ?_ | refine inBlockS_n ?_ | refine AW.seq ?_ | refine AW.block ?_)
    | (with_reducible first | (refine AW.runK hC ?_; intro K hK) | (refine AW.drawK hC (by kernel_rfl) ?_; intro K hK))
    | ((with_reducible first | refine erun_g ?_ | refine edraw_g ?_ | refine exitS_g ?_); refine siQ ?_; (try simp (disch := omega) only [w64, wu8]))
    | (with_reducible refine hCheck_g (by kernel_rfl) ?_)
    | ((first | (refine AW.cond rfl (fun h => ?_) (fun h => ?_)) | (refine AW.cond_ub rfl (fun h => ?_) ?_) | (refine AW.cond_nb rfl ?_ (fun h => ?_))) <;> (try replace h := boolH h) <;> (try (exfalso; first | omega | exact absurd h (by decide))))
    | (with_reducible first | refine AW.skip ?_ | refine AW.exit ?_ | refine AW.ret ?_ | refine thenS_r ?_ | refine thenS_e ?_ | refine inBlockS_r ?_ | refine inBlockS_e ?_ | refine inBlockS_e2 rfl ?_ | refine exitQ_r ?_ | refine exitQ_n ?_)
    | (refine sub_auto ?_; refine subQ ?_)
    | (with_reducible refine And.intro ?_ ?_)
    | (subst hK)
    | exact trivial
  all_goals (try (intros; assumption))
  all_goals (try refine boolG ?_)
  all_goals (try replace hp := boolH hp)
  all_goals (try replace hi := boolH hi)
  all_goals (try replace hj := boolH hj)
  all_goals (try replace hk := boolH hk)
  all_goals (try (intros; trivial))
  all_goals (try (intros; omega))
  all_goals (try (rw [w64 (by omega) (by omega)]; first | done | omega))
  all_goals simp [*]
end
noncomputable def cfg81 : Cfg := ⟨Tryz.prog, 9, tab76, (fun _ _ => []), [], (fun _ => none)⟩
theorem cfg81_l : cfg81.pins = [] ∧ cfg81.P = Tryz.prog ∧ cfg81.N = 9 := ⟨rfl, rfl, rfl⟩
section
attribute [local go_sem] cfg81_l
theorem con81 (hC : COk cfg81) (c : Int) : Sem Tryz.prog 81 [.d (.i .u8 c)] (.d (.b (decide (65 ≤ c) && decide (c ≤ 90)))) := by
  refine sem_of_awR (C := cfg81) (rs := [.tmp 2]) (fun _ => []) Tryz.func81 rfl rfl rfl rfl rfl rfl ?_
  refine inQ ?_
  repeat' first
    | (with_reducible first | refine thenS_n ?_ | refine inBlockS_n ?_ | refine AW.seq ?_ | refine AW.block ?_)
    | (with_reducible first | (refine AW.runK hC ?_; intro K hK) | (refine AW.drawK hC (by kernel_rfl) ?_; intro K hK))
    | ((with_reducible first | refine erun_g ?_ | refine edraw_g ?_ | refine exitS_g ?_); refine siQ ?_; (try simp (disch := omega) only [w64, wu8]))
    | (with_reducible refine hCheck_g (by kernel_rfl) ?_)
    | ((first | (refine AW.cond rfl (fun h => ?_) (fun h => ?_)) | (refine AW.cond_ub rfl (fun h => ?_) ?_) | (refine AW.cond_nb rfl ?_ (fun h => ?_))) <;> (try replace h := boolH h) <;> (try (exfalso; first | omega | exact absurd h (by decide))))
    | (with_reducible first | refine AW.skip ?_ | refine AW.exit ?_ | refine AW.ret ?_ | refine thenS_r ?_ | refine thenS_e ?_ | refine inBlockS_r ?_ | refine inBlockS_e ?_ | refine inBlockS_e2 rfl ?_ | refine exitQ_r ?_ | refine exitQ_n ?_)
    | (refine sub_auto ?_; refine subQ ?_)
    | (with_reducible refine And.intro ?_ ?_)
    | (subst hK)
    | exact trivial
  all_goals (try (intros; assumption))
  all_goals (try refine boolG ?_)
  all_goals (try replace hp := boolH hp)
  all_goals (try replace hi := boolH hi)
  all_goals (try replace hj := boolH hj)
  all_goals (try replace hk := boolH hk)
  all_goals (try (intros; trivial))
  all_goals (try (intros; omega))
  all_goals (try (rw [w64 (by omega) (by omega)]; first | done | omega))
 
end
noncomputable def cfg82 : Cfg := ⟨Tryz.prog, 9, tab81, (fun _ _ => []), [], (fun _ => none)⟩
theorem cfg82_l : cfg82.pins = [] ∧ cfg82.P = Tryz.prog ∧ cfg82.N = 9 := ⟨rfl, rfl, rfl⟩
section
attribute [local go_sem] cfg82_l
theorem con82 (hC : COk cfg82) (c : Int) : Sem Tryz.prog 82 [.d (.i .u8 c)] (.d (.b (decide (48 ≤ c) && decide (c ≤ 57)))) := by
  refine sem_of_awR (C := cfg82) (rs := [.tmp 2]) (fun _ => []) Tryz.func82 rfl rfl rfl rfl rfl rfl ?_
  refine inQ ?_
  repeat' first
    | (with_reducible first | refine thenS_n ?_ | refine inBlockS_n ?_ | refine AW.seq ?_ | refine AW.block ?_)
    | (with_reducible first | (refine AW.runK hC ?_; intro K hK) | (refine AW.drawK hC (by kernel_rfl) ?_; intro K hK))
    | ((with_reducible first | refine erun_g ?_ | refine edraw_g ?_ | refine exitS_g ?_); refine siQ ?_; (try simp (disch := omega) only [w64, wu8]))
    | (with_reducible refine hCheck_g (by kernel_rfl) ?_)
    | ((first | (refine AW.cond rfl (fun h => ?_) (fun h => ?_)) | (refine AW.cond_ub rfl (fun h => ?_) ?_) | (refine AW.cond_nb rfl ?_ (fun h => ?_))) <;> (try replace h := boolH h) <;> (try (exfalso; first | omega | exact absurd h (by decide))))
    | (with_reducible first | refine AW.skip ?_ | refine AW.exit ?_ | refine AW.ret ?_ | refine thenS_r ?_ | refine thenS_e ?_ | refine inBlockS_r ?_ | refine inBlockS_e ?_ | refine inBlockS_e2 rfl ?_ | refine exitQ_r ?_ | refine exitQ_n ?_)
    | (refine sub_auto ?_; refine subQ ?_)
    | (with_reducible refine And.intro ?_ ?_)
    | (subst hK)
    | exact trivial
  all_goals (try (intros; assumption))
  all_goals (try refine boolG ?_)
  all_goals (try replace hp := boolH hp)
  all_goals (try replace hi := boolH hi)
  all_goals (try replace hj := boolH hj)
  all_goals (try replace hk := boolH hk)
  all_goals (try (intros; trivial))
  all_goals (try (intros; omega))
  all_goals (try (rw [w64 (by omega) (by omega)]; first | done | omega))
 
end
noncomputable def cfg51 : Cfg := ⟨Tryz.prog, 52, tab82, (fun _ _ => []), [], (fun _ => none)⟩
theorem cfg51_l : cfg51.pins = [] ∧ cfg51.P = Tryz.prog ∧ cfg51.N = 52 ∧ cfg51.ti 41 = none ∧ cfg51.T 41 = e41 ∧ cfg51.mv 41 = (fun _ => []) ∧ cfg51.ti 81 = none ∧ cfg51.T 81 = e81 ∧ cfg51.mv 81 = (fun _ => []) ∧ cfg51.ti 82 = none ∧ cfg51.T 82 = e82 ∧ cfg51.mv 82 = (fun _ => []) := ⟨rfl, rfl, rfl, rfl, rfl, rfl, rfl, rfl, rfl, rfl, rfl, rfl⟩
section
attribute [local go_sem] cfg51_l e41 e81 e82
attribute [local go_sem] Int.toNat_natCast chr_eq
theorem con51 (hC : COk cfg51) (s : ByteArray) : Sem Tryz.prog 51 [.d (.s s)] (.d (.b (isName s))) := by
  refine sem_of_awR (C := cfg51) (rs := [.tmp 2]) (fun _ => []) Tryz.func51 rfl rfl rfl rfl rfl rfl ?_
  refine inQ ?_
  repeat' first
    | (with_reducible first | refine thenS_n ?_ | refine inBlockS_n ?_ | refine AW.seq ?_ | refine AW.block ?_)
    | (with_reducible first | (refine AW.runK hC ?_; intro K hK) | (refine AW.drawK hC (by kernel_rfl) ?_; intro K hK))
    | ((with_reducible first | refine erun_g ?_ | refine edraw_g ?_ | refine exitS_g ?_); refine siQ ?_; (try simp (disch := omega) only [w64, wu8]))
    | (with_reducible refine hCheck_g (by kernel_rfl) ?_)
    | ((first | (refine AW.cond rfl (fun h => ?_) (fun h => ?_)) | (refine AW.cond_ub rfl (fun h => ?_) ?_) | (refine AW.cond_nb rfl ?_ (fun h => ?_))) <;> (try replace h := boolH h) <;> (try (exfalso; first | omega | exact absurd h (by decide))))
    | (with_reducible first | refine AW.skip ?_ | refine AW.exit ?_ | refine AW.ret ?_ | refine thenS_r ?_ | refine thenS_e ?_ | refine inBlockS_r ?_ | refine inBlockS_e ?_ | refine inBlockS_e2 rfl ?_ | refine exitQ_r ?_ | refine exitQ_n ?_)
    | (refine AW.loopN 4 rfl (ι := Nat) (fun i => mkS [(0, V.d (.s s)), (3, V.d (.i .i64 (i : Int)))] ([])) (fun i => i ≤ s.size ∧ 1 ≤ s.size ∧ s.size ≤ 10 ∧ ∀ j, j < i → nameC (j == 0) (chr s j) = true) (fun i => s.size - i) (0) ?_ ?_ (fun i hi => ?_) <;> (try dsimp only) <;> (try dsimp only at hi))
    | (refine LoopNext.mk1 4 (i + 1) ?_ ?_ ?_ <;> (try dsimp only))
    | (refine sub_auto ?_; refine subQ ?_)
    | (with_reducible refine And.intro ?_ ?_)
    | (subst hK)
    | exact trivial
  all_goals (try (intros; assumption))
  all_goals (try refine boolG ?_)
  all_goals (try replace hp := boolH hp)
  all_goals (try replace hi := boolH hi)
  all_goals (try replace hj := boolH hj)
  all_goals (try replace hk := boolH hk)
  all_goals (try (intros; trivial))
  all_goals (try (intros; omega))
  all_goals (try (rw [w64 (by omega) (by omega)]; first | done | omega))
  all_goals (try simp only [ba_empty] at *)
  all_goals first
    | omega
    | exact isName_len (by omega)
    | exact isName_no (i := i) (by omega) (by rw [← Bool.not_eq_true, nameC_iff]; omega)
    | exact fun j hj => if e : j < i then hi.2.2.2 j e else by
        have : j = i := by omega
        subst this
        rw [nameC_iff]
        omega
    | exact isName_yes (by omega) (by omega) fun j hj => hi.2.2.2 j (by omega)
end
noncomputable def cfg101 : Cfg := ⟨Tryz.prog, 62, tab51, (fun _ _ => []), [], (fun _ => none)⟩
theorem cfg101_l : cfg101.pins = [] ∧ cfg101.P = Tryz.prog ∧ cfg101.N = 62 := ⟨rfl, rfl, rfl⟩
section
attribute [local go_sem] cfg101_l
attribute [local go_sem] Int.toNat_natCast chr_eq
theorem con101 (hC : COk cfg101) (s : ByteArray) : Sem Tryz.prog 101 [.d (.s s)] (.d (.b (isName s))) := by
  refine sem_of_awR (C := cfg101) (rs := [.tmp 2]) (fun _ => []) Tryz.func101 rfl rfl rfl rfl rfl rfl ?_
  refine inQ ?_
  repeat' first
    | (with_reducible first | refine thenS_n ?_ | refine inBlockS_n ?_ | refine AW.seq ?_ | refine AW.block ?_)
    | (with_reducible first | (refine AW.runK hC ?_; intro K hK) | (refine AW.drawK hC (by kernel_rfl) ?_; intro K hK))
    | ((with_reducible first | refine erun_g ?_ | refine edraw_g ?_ | refine exitS_g ?_); refine siQ ?_; (try simp (disch := omega) only [w64, wu8]))
    | (with_reducible refine hCheck_g (by kernel_rfl) ?_)
    | ((first | (refine AW.cond rfl (fun h => ?_) (fun h => ?_)) | (refine AW.cond_ub rfl (fun h => ?_) ?_) | (refine AW.cond_nb rfl ?_ (fun h => ?_))) <;> (try replace h := boolH h) <;> (try (exfalso; first | omega | exact absurd h (by decide))))
    | (with_reducible first | refine AW.skip ?_ | refine AW.exit ?_ | refine AW.ret ?_ | refine thenS_r ?_ | refine thenS_e ?_ | refine inBlockS_r ?_ | refine inBlockS_e ?_ | refine inBlockS_e2 rfl ?_ | refine exitQ_r ?_ | refine exitQ_n ?_)
    | (refine AW.loopN 4 rfl (ι := Nat) (fun i => mkS [(0, V.d (.s s)), (14, V.d (.i .i64 (s.size : Int))), (15, V.d (.i .i64 (i : Int)))] ([])) (fun i => i ≤ s.size ∧ 1 ≤ s.size ∧ s.size ≤ 10 ∧ ∀ j, j < i → nameC (j == 0) (chr s j) = true) (fun i => s.size - i) (0) ?_ ?_ (fun i hi => ?_) <;> (try dsimp only) <;> (try dsimp only at hi))
    | (refine LoopNext.mk1 4 (i + 1) ?_ ?_ ?_ <;> (try dsimp only))
    | (refine sub_auto ?_; refine subQ ?_)
    | (with_reducible refine And.intro ?_ ?_)
    | (subst hK)
    | exact trivial
  all_goals (try (intros; assumption))
  all_goals (try refine boolG ?_)
  all_goals (try replace hp := boolH hp)
  all_goals (try replace hi := boolH hi)
  all_goals (try replace hj := boolH hj)
  all_goals (try replace hk := boolH hk)
  all_goals (try (intros; trivial))
  all_goals (try (intros; omega))
  all_goals (try (rw [w64 (by omega) (by omega)]; first | done | omega))
  all_goals (try simp only [ba_empty] at *)
  all_goals first
    | omega
    | exact isName_len (by omega)
    | exact isName_no (i := i) (by omega) (by rw [← Bool.not_eq_true, nameC_iff]; omega)
    | exact fun j hj => if e : j < i then hi.2.2.2 j e else by
        have : j = i := by omega
        subst this
        rw [nameC_iff]
        omega
    | exact isName_yes (by omega) (by omega) fun j hj => hi.2.2.2 j (by omega)
end
noncomputable def cfg128 : Cfg := ⟨Tryz.prog, 41, tab101, (fun _ _ => []), [], (fun _ => none)⟩
theorem cfg128_l : cfg128.pins = [] ∧ cfg128.P = Tryz.prog ∧ cfg128.N = 41 ∧ cfg128.ti 41 = none ∧ cfg128.T 41 = e41 ∧ cfg128.mv 41 = (fun _ => []) ∧ cfg128.ti 76 = none ∧ cfg128.T 76 = e76 ∧ cfg128.mv 76 = (fun _ => []) := ⟨rfl, rfl, rfl, rfl, rfl, rfl, rfl, rfl, rfl⟩
section
attribute [local go_sem] cfg128_l e41 e76
attribute [local go_sem] encChange encEntry ceqChange ceqEntry etaChange etaEntry zfChange zfEntry decChange decEntry seq_dec
theorem con128 (hC : COk cfg128) (c : Change) : Sem Tryz.prog 128 [.d (encChange c)] (.d (.i .i64 (changeErr c))) := by
  refine sem_of_awR (C := cfg128) (rs := [.tmp 2]) (fun _ => []) Tryz.func128 rfl rfl rfl rfl rfl rfl ?_
  refine inQ ?_
  repeat' first
    | (with_reducible first | refine thenS_n ?_ | refine inBlockS_n ?_ | refine AW.seq ?_ | refine AW.block ?_)
    | (with_reducible first | (refine AW.runK hC ?_; intro K hK) | (refine AW.drawK hC (by kernel_rfl) ?_; intro K hK))
    | ((with_reducible first | refine erun_g ?_ | refine edraw_g ?_ | refine exitS_g ?_); refine siQ ?_; (try simp (disch := omega) only [w64, wu8]))
    | (with_reducible refine hCheck_g (by kernel_rfl) ?_)
    | ((first | (refine AW.cond rfl (fun h => ?_) (fun h => ?_)) | (refine AW.cond_ub rfl (fun h => ?_) ?_) | (refine AW.cond_nb rfl ?_ (fun h => ?_))) <;> (try replace h := boolH h) <;> (try (exfalso; first | omega | exact absurd h (by decide))))
    | (with_reducible first | refine AW.skip ?_ | refine AW.exit ?_ | refine AW.ret ?_ | refine thenS_r ?_ | refine thenS_e ?_ | refine inBlockS_r ?_ | refine inBlockS_e ?_ | refine inBlockS_e2 rfl ?_ | refine exitQ_r ?_ | refine exitQ_n ?_)
    | (refine sub_auto ?_; refine subQ ?_)
    | (with_reducible refine And.intro ?_ ?_)
    | (subst hK)
    | exact trivial
  all_goals (try (intros; assumption))
  all_goals (try refine boolG ?_)
  all_goals (try replace hp := boolH hp)
  all_goals (try replace hi := boolH hi)
  all_goals (try replace hj := boolH hj)
  all_goals (try replace hk := boolH hk)
  all_goals (try (intros; trivial))
  all_goals (try (intros; omega))
  all_goals (try (rw [w64 (by omega) (by omega)]; first | done | omega))
  all_goals grind [changeErr]
end
noncomputable def cfg127 : Cfg := ⟨Tryz.prog, 38, tab128, (fun _ _ => []), [], (fun _ => none)⟩
theorem cfg127_l : cfg127.pins = [] ∧ cfg127.P = Tryz.prog ∧ cfg127.N = 38 ∧ cfg127.ti 76 = none ∧ cfg127.T 76 = e76 ∧ cfg127.mv 76 = (fun _ => []) := ⟨rfl, rfl, rfl, rfl, rfl, rfl⟩
section
attribute [local go_sem] cfg127_l e76
attribute [local go_sem] encChange encEntry ceqChange ceqEntry etaChange etaEntry zfChange zfEntry decChange decEntry seq_dec
theorem con127 (hC : COk cfg127) (e : Entry) : Sem Tryz.prog 127 [.d (encEntry e)] (.d (.i .i64 (formErr e))) := by
  refine sem_of_awR (C := cfg127) (rs := [.tmp 2]) (fun _ => []) Tryz.func127 rfl rfl rfl rfl rfl rfl ?_
  refine inQ ?_
  repeat' first
    | (with_reducible first | refine thenS_n ?_ | refine inBlockS_n ?_ | refine AW.seq ?_ | refine AW.block ?_)
    | (with_reducible first | (refine AW.runK hC ?_; intro K hK) | (refine AW.drawK hC (by kernel_rfl) ?_; intro K hK))
    | ((with_reducible first | refine erun_g ?_ | refine edraw_g ?_ | refine exitS_g ?_); refine siQ ?_; (try simp (disch := omega) only [w64, wu8]))
    | (with_reducible refine hCheck_g (by kernel_rfl) ?_)
    | ((first | (refine AW.cond rfl (fun h => ?_) (fun h => ?_)) | (refine AW.cond_ub rfl (fun h => ?_) ?_) | (refine AW.cond_nb rfl ?_ (fun h => ?_))) <;> (try replace h := boolH h) <;> (try (exfalso; first | omega | exact absurd h (by decide))))
    | (with_reducible first | refine AW.skip ?_ | refine AW.exit ?_ | refine AW.ret ?_ | refine thenS_r ?_ | refine thenS_e ?_ | refine inBlockS_r ?_ | refine inBlockS_e ?_ | refine inBlockS_e2 rfl ?_ | refine exitQ_r ?_ | refine exitQ_n ?_)
    | (refine sub_auto ?_; refine subQ ?_)
    | (with_reducible refine And.intro ?_ ?_)
    | (subst hK)
    | exact trivial
  all_goals (try (intros; assumption))
  all_goals (try refine boolG ?_)
  all_goals (try replace hp := boolH hp)
  all_goals (try replace hi := boolH hi)
  all_goals (try replace hj := boolH hj)
  all_goals (try replace hk := boolH hk)
  all_goals (try (intros; trivial))
  all_goals (try (intros; omega))
  all_goals (try (rw [w64 (by omega) (by omega)]; first | done | omega))
  all_goals simp only [formErr, formUsed, entry_ext, change_ext, zChange, decide_eq_false_iff_not]
  all_goals grind
end
noncomputable def cfg102 : Cfg := ⟨Tryz.prog, 64, tab127, (fun _ _ => []), [], (fun _ => none)⟩
theorem cfg102_l : cfg102.pins = [] ∧ cfg102.P = Tryz.prog ∧ cfg102.N = 64 ∧ cfg102.ti 41 = none ∧ cfg102.T 41 = e41 ∧ cfg102.mv 41 = (fun _ => []) ∧ cfg102.ti 51 = none ∧ cfg102.T 51 = e51 ∧ cfg102.mv 51 = (fun _ => []) ∧ cfg102.ti 76 = none ∧ cfg102.T 76 = e76 ∧ cfg102.mv 76 = (fun _ => []) ∧ cfg102.ti 127 = none ∧ cfg102.T 127 = e127 ∧ cfg102.mv 127 = (fun _ => []) ∧ cfg102.ti 128 = none ∧ cfg102.T 128 = e128 ∧ cfg102.mv 128 = (fun _ => []) := ⟨rfl, rfl, rfl, rfl, rfl, rfl, rfl, rfl, rfl, rfl, rfl, rfl, rfl, rfl, rfl, rfl, rfl, rfl⟩
section
attribute [local go_sem] cfg102_l e41 e51 e76 e127 e128
attribute [local go_sem] encChange encEntry ceqChange ceqEntry etaChange etaEntry zfChange zfEntry decChange decEntry seq_dec
theorem con102 (hC : COk cfg102) (e : Entry) : Sem Tryz.prog 102 [.d (encEntry e)] (.d (.i .i64 (entryErr e))) := by
  refine sem_of_awR (C := cfg102) (rs := [.tmp 2]) (fun _ => []) Tryz.func102 rfl rfl rfl rfl rfl rfl ?_
  refine inQ ?_
  repeat' first
    | (with_reducible first | refine thenS_n ?_ | refine inBlockS_n ?_ | refine AW.seq ?_ | refine AW.block ?_)
    | (with_reducible first | (refine AW.runK hC ?_; intro K hK) | (refine AW.drawK hC (by kernel_rfl) ?_; intro K hK))
    | ((with_reducible first | refine erun_g ?_ | refine edraw_g ?_ | refine exitS_g ?_); refine siQ ?_; (try simp (disch := omega) only [w64, wu8]))
    | (with_reducible refine hCheck_g (by kernel_rfl) ?_)
    | ((first | (refine AW.cond rfl (fun h => ?_) (fun h => ?_)) | (refine AW.cond_ub rfl (fun h => ?_) ?_) | (refine AW.cond_nb rfl ?_ (fun h => ?_))) <;> (try replace h := boolH h) <;> (try (exfalso; first | omega | exact absurd h (by decide))))
    | (with_reducible first | refine AW.skip ?_ | refine AW.exit ?_ | refine AW.ret ?_ | refine thenS_r ?_ | refine thenS_e ?_ | refine inBlockS_r ?_ | refine inBlockS_e ?_ | refine inBlockS_e2 rfl ?_ | refine exitQ_r ?_ | refine exitQ_n ?_)
    | (refine sub_auto ?_; refine subQ ?_)
    | (with_reducible refine And.intro ?_ ?_)
    | (subst hK)
    | exact trivial
  all_goals (try (intros; assumption))
  all_goals (try refine boolG ?_)
  all_goals (try replace hp := boolH hp)
  all_goals (try replace hi := boolH hi)
  all_goals (try replace hj := boolH hj)
  all_goals (try replace hk := boolH hk)
  all_goals (try (intros; trivial))
  all_goals (try (intros; omega))
  all_goals (try (rw [w64 (by omega) (by omega)]; first | done | omega))
  all_goals grind [entryErr, formErr]
end
noncomputable def cfg79 : Cfg := ⟨Tryz.prog, 112, tab102, (fun _ _ => []), [], (fun _ => none)⟩
theorem cfg79_l : cfg79.pins = [] ∧ cfg79.P = Tryz.prog ∧ cfg79.N = 112 ∧ cfg79.ti 100 = none ∧ cfg79.T 100 = e100 ∧ cfg79.mv 100 = (fun _ => []) ∧ cfg79.ti 101 = none ∧ cfg79.T 101 = e101 ∧ cfg79.mv 101 = (fun _ => []) := ⟨rfl, rfl, rfl, rfl, rfl, rfl, rfl, rfl, rfl⟩
section
attribute [local go_sem] cfg79_l e100 e101
attribute [local go_sem] encChange encEntry ceqChange ceqEntry etaChange etaEntry zfChange zfEntry decChange decEntry seq_dec
set_option maxHeartbeats 2000000 in
theorem con79 (hC : COk cfg79) (e : Entry) : Sem Tryz.prog 79 [.d (encEntry e)] (.d (.i .i64 (entryErr e))) := by
  refine sem_of_awR (C := cfg79) (rs := [.tmp 2]) (fun _ => []) Tryz.func79 rfl rfl rfl rfl rfl rfl ?_
  refine inQ ?_
  repeat' first
    | (with_reducible first | refine thenS_n ?_ | refine inBlockS_n ?_ | refine AW.seq ?_ | refine AW.block ?_)
    | (with_reducible first | (refine AW.runK hC ?_; intro K hK) | (refine AW.drawK hC (by kernel_rfl) ?_; intro K hK))
    | ((with_reducible first | refine erun_g ?_ | refine edraw_g ?_ | refine exitS_g ?_); refine siQ ?_; (try simp (disch := omega) only [w64, wu8]))
    | (with_reducible refine hCheck_g (by kernel_rfl) ?_)
    | ((first | (refine AW.cond rfl (fun h => ?_) (fun h => ?_)) | (refine AW.cond_ub rfl (fun h => ?_) ?_) | (refine AW.cond_nb rfl ?_ (fun h => ?_))) <;> (try replace h := boolH h) <;> (try (exfalso; first | omega | exact absurd h (by decide))))
    | (with_reducible first | refine AW.skip ?_ | refine AW.exit ?_ | refine AW.ret ?_ | refine thenS_r ?_ | refine thenS_e ?_ | refine inBlockS_r ?_ | refine inBlockS_e ?_ | refine inBlockS_e2 rfl ?_ | refine exitQ_r ?_ | refine exitQ_n ?_)
    | (refine sub_auto ?_; refine subQ ?_)
    | (with_reducible refine And.intro ?_ ?_)
    | (subst hK)
    | exact trivial
  all_goals (try (intros; assumption))
  all_goals (try refine boolG ?_)
  all_goals (try replace hp := boolH hp)
  all_goals (try replace hi := boolH hi)
  all_goals (try replace hj := boolH hj)
  all_goals (try replace hk := boolH hk)
  all_goals (try (intros; trivial))
  all_goals (try (intros; omega))
  all_goals (try (rw [w64 (by omega) (by omega)]; first | done | omega))
  all_goals simp only [entryErr, formUsed, entry_ext, change_ext, decide_eq_false_iff_not, decide_eq_true_eq, zChange, changeErr] at *
  all_goals grind
end
noncomputable def cfg33 : Cfg := ⟨Tryz.prog, 32, tab79, (fun _ _ => []), [], (fun _ => none)⟩
theorem cfg33_l : cfg33.pins = [] ∧ cfg33.P = Tryz.prog ∧ cfg33.N = 32 := ⟨rfl, rfl, rfl⟩
section
attribute [local go_sem] cfg33_l
attribute [local go_sem] encChange encEntry ceqChange ceqEntry etaChange etaEntry zfChange zfEntry decChange decEntry seq_dec getDz_Entry dL_Entry List.length_map Int.toNat_natCast Int.toNat_zero Nat.sub_zero List.length_take decL_sl decM_cons decM_nil decM_append take_map_snoc dM_Entry dM_Packet dM_RAct
attribute [local go_sem ←] List.map_take List.map_drop
theorem con33 (hC : COk cfg33) (l : List Entry) : Sem Tryz.prog 33 [.d (.sl 8 (l.map encEntry))] (.d (.b (few35 l))) := by
  refine sem_of_awR (C := cfg33) (rs := [.tmp 2]) (fun _ => []) Tryz.func33 rfl rfl rfl rfl rfl rfl ?_
  refine inQ ?_
  repeat' first
    | (with_reducible first | refine thenS_n ?_ | refine inBlockS_n ?_ | refine AW.seq ?_ | refine AW.block ?_)
    | (with_reducible first | (refine AW.runK hC ?_; intro K hK) | (refine AW.drawK hC (by kernel_rfl) ?_; intro K hK))
    | ((with_reducible first | refine erun_g ?_ | refine edraw_g ?_ | refine exitS_g ?_); refine siQ ?_; (try simp (disch := omega) only [w64, wu8]))
    | (with_reducible refine hCheck_g (by kernel_rfl) ?_)
    | ((first | (refine AW.cond rfl (fun h => ?_) (fun h => ?_)) | (refine AW.cond_ub rfl (fun h => ?_) ?_) | (refine AW.cond_nb rfl ?_ (fun h => ?_))) <;> (try replace h := boolH h) <;> (try (exfalso; first | omega | exact absurd h (by decide))))
    | (with_reducible first | refine AW.skip ?_ | refine AW.exit ?_ | refine AW.ret ?_ | refine thenS_r ?_ | refine thenS_e ?_ | refine inBlockS_r ?_ | refine inBlockS_e ?_ | refine inBlockS_e2 rfl ?_ | refine exitQ_r ?_ | refine exitQ_n ?_)
    | (refine AW.loopN 2 rfl (ι := Nat) (fun i => mkS [(0, V.d (.sl 8 (l.map encEntry))), (3, V.d (.i .i64 (i : Int)))] ([])) (fun i => i ≤ l.length ∧ fewGo i (l.drop i) = few35 l) (fun i => l.length - i) (0) ?_ ?_ (fun i hi => ?_) <;> (try dsimp only) <;> (try dsimp only at hi))
    | (refine LoopNext.mk1 2 (i + 1) ?_ ?_ ?_ <;> (try dsimp only))
    | (refine sub_auto ?_; refine subQ ?_)
    | (with_reducible refine And.intro ?_ ?_)
    | (subst hK)
    | exact trivial
  all_goals (try (intros; assumption))
  all_goals (try refine boolG ?_)
  all_goals (try replace hp := boolH hp)
  all_goals (try replace hi := boolH hi)
  all_goals (try replace hj := boolH hj)
  all_goals (try replace hk := boolH hk)
  all_goals (try (intros; trivial))
  all_goals (try (intros; omega))
  all_goals (try (rw [w64 (by omega) (by omega)]; first | done | omega))
  all_goals first
    | rfl
    | (rw [← hi.2, drop_getD zEntry (by omega), fewGo]; grind)
    | (rw [← hi.2, List.drop_of_length_le (by omega)]; rfl)
    | (have := hi.2; rw [drop_getD zEntry (by omega), fewGo] at this; grind)
end
noncomputable def cfg86 : Cfg := ⟨Tryz.prog, 27, tab33, (fun _ _ => []), [], (fun _ => none)⟩
theorem cfg86_l : cfg86.pins = [] ∧ cfg86.P = Tryz.prog ∧ cfg86.N = 27 := ⟨rfl, rfl, rfl⟩
section
attribute [local go_sem] cfg86_l
attribute [local go_sem] encChange encEntry ceqChange ceqEntry etaChange etaEntry zfChange zfEntry decChange decEntry seq_dec getDz_Entry dL_Entry List.length_map Int.toNat_natCast Int.toNat_zero Nat.sub_zero List.length_take decL_sl decM_cons decM_nil decM_append take_map_snoc dM_Entry dM_Packet dM_RAct
attribute [local go_sem ←] List.map_take List.map_drop
theorem con86 (hC : COk cfg86) (l : List Entry) (unit : Int) (hp : l.length ≤ 1000000) : Sem Tryz.prog 86 [.d (.sl 8 (l.map encEntry)), .d (.i .i64 unit)] (.d (.b (begins l unit))) := by
  refine sem_of_awR (C := cfg86) (rs := [.tmp 4]) (fun _ => []) Tryz.func86 rfl rfl rfl rfl rfl rfl ?_
  refine inQ ?_
  repeat' first
    | (with_reducible first | refine thenS_n ?_ | refine inBlockS_n ?_ | refine AW.seq ?_ | refine AW.block ?_)
    | (with_reducible first | (refine AW.runK hC ?_; intro K hK) | (refine AW.drawK hC (by kernel_rfl) ?_; intro K hK))
    | ((with_reducible first | refine erun_g ?_ | refine edraw_g ?_ | refine exitS_g ?_); refine siQ ?_; (try simp (disch := omega) only [w64, wu8]))
    | (with_reducible refine hCheck_g (by kernel_rfl) ?_)
    | ((first | (refine AW.cond rfl (fun h => ?_) (fun h => ?_)) | (refine AW.cond_ub rfl (fun h => ?_) ?_) | (refine AW.cond_nb rfl ?_ (fun h => ?_))) <;> (try replace h := boolH h) <;> (try (exfalso; first | omega | exact absurd h (by decide))))
    | (with_reducible first | refine AW.skip ?_ | refine AW.exit ?_ | refine AW.ret ?_ | refine thenS_r ?_ | refine thenS_e ?_ | refine inBlockS_r ?_ | refine inBlockS_e ?_ | refine inBlockS_e2 rfl ?_ | refine exitQ_r ?_ | refine exitQ_n ?_)
    | (refine AW.loopN 2 rfl (ι := Nat) (fun i => mkS [(0, V.d (.sl 8 (l.map encEntry))), (1, V.d (.i .i64 unit)), (5, V.d (.i .i64 (i : Int)))] ([])) (fun i => i ≤ l.length ∧ begins (l.take i) unit = false) (fun i => l.length - i) (0) ?_ ?_ (fun i hi => ?_) <;> (try dsimp only) <;> (try dsimp only at hi))
    | (refine LoopNext.mk1 2 (i + 1) ?_ ?_ ?_ <;> (try dsimp only))
    | (refine sub_auto ?_; refine subQ ?_)
    | (with_reducible refine And.intro ?_ ?_)
    | (subst hK)
    | exact trivial
  all_goals (try (intros; assumption))
  all_goals (try refine boolG ?_)
  all_goals (try replace hp := boolH hp)
  all_goals (try replace hi := boolH hi)
  all_goals (try replace hj := boolH hj)
  all_goals (try replace hk := boolH hk)
  all_goals (try (intros; trivial))
  all_goals (try (intros; omega))
  all_goals (try (rw [w64 (by omega) (by omega)]; first | done | omega))
  all_goals first
    | rfl
    | exact begins_yes (i := i) (by omega) (by omega) (by omega)
    | exact begins_step hi.2 (by omega) (by omega)
    | exact begins_end hi.2 (by omega)
end
noncomputable def cfg87 : Cfg := ⟨Tryz.prog, 40, tab86, (fun _ _ => []), [], (fun _ => none)⟩
theorem cfg87_l : cfg87.pins = [] ∧ cfg87.P = Tryz.prog ∧ cfg87.N = 40 := ⟨rfl, rfl, rfl⟩
section
attribute [local go_sem] cfg87_l
attribute [local go_sem] encChange encEntry ceqChange ceqEntry etaChange etaEntry zfChange zfEntry decChange decEntry seq_dec getDz_Entry dL_Entry List.length_map Int.toNat_natCast Int.toNat_zero Nat.sub_zero List.length_take decL_sl decM_cons decM_nil decM_append take_map_snoc dM_Entry dM_Packet dM_RAct
attribute [local go_sem ←] List.map_take List.map_drop
theorem con87 (hC : COk cfg87) (l : List Entry) (unit : Int) (hp : l.length ≤ 1000000) : Sem Tryz.prog 87 [.d (.sl 8 (l.map encEntry)), .d (.i .i64 unit)] (.d (.i .i64 (ends l unit))) := by
  refine sem_of_awR (C := cfg87) (rs := [.tmp 4]) (fun _ => []) Tryz.func87 rfl rfl rfl rfl rfl rfl ?_
  refine inQ ?_
  repeat' first
    | (with_reducible first | refine thenS_n ?_ | refine inBlockS_n ?_ | refine AW.seq ?_ | refine AW.block ?_)
    | (with_reducible first | (refine AW.runK hC ?_; intro K hK) | (refine AW.drawK hC (by kernel_rfl) ?_; intro K hK))
    | ((with_reducible first | refine erun_g ?_ | refine edraw_g ?_ | refine exitS_g ?_); refine siQ ?_; (try simp (disch := omega) only [w64, wu8]))
    | (with_reducible refine hCheck_g (by kernel_rfl) ?_)
    | ((first | (refine AW.cond rfl (fun h => ?_) (fun h => ?_)) | (refine AW.cond_ub rfl (fun h => ?_) ?_) | (refine AW.cond_nb rfl ?_ (fun h => ?_))) <;> (try replace h := boolH h) <;> (try (exfalso; first | omega | exact absurd h (by decide))))
    | (with_reducible first | refine AW.skip ?_ | refine AW.exit ?_ | refine AW.ret ?_ | refine thenS_r ?_ | refine thenS_e ?_ | refine inBlockS_r ?_ | refine inBlockS_e ?_ | refine inBlockS_e2 rfl ?_ | refine exitQ_r ?_ | refine exitQ_n ?_)
    | (refine AW.loopN 2 rfl (ι := Nat) (fun i => mkS [(0, V.d (.sl 8 (l.map encEntry))), (1, V.d (.i .i64 unit)), (5, V.d (.i .i64 (i : Int)))] ([])) (fun i => i ≤ l.length ∧ ends? (l.take i) unit = none) (fun i => l.length - i) (0) ?_ ?_ (fun i hi => ?_) <;> (try dsimp only) <;> (try dsimp only at hi))
    | (refine LoopNext.mk1 2 (i + 1) ?_ ?_ ?_ <;> (try dsimp only))
    | (refine sub_auto ?_; refine subQ ?_)
    | (with_reducible refine And.intro ?_ ?_)
    | (subst hK)
    | exact trivial
  all_goals (try (intros; assumption))
  all_goals (try refine boolG ?_)
  all_goals (try replace hp := boolH hp)
  all_goals (try replace hi := boolH hi)
  all_goals (try replace hj := boolH hj)
  all_goals (try replace hk := boolH hk)
  all_goals (try (intros; trivial))
  all_goals (try (intros; omega))
  all_goals (try (rw [w64 (by omega) (by omega)]; first | done | omega))
  all_goals first
    | rfl
    | exact ends_yes (i := i) hi.2 (by omega) (by omega) (by omega)
    | exact (ends_yes (i := i) hi.2 (by omega) (by omega) (by omega)).symm
    | exact ends_step hi.2 (by omega) (by omega)
    | exact ends_end hi.2 (by omega)
end
noncomputable def cfg57 : Cfg := ⟨Tryz.prog, 14, tab87, (fun _ _ => []), [], (fun _ => none)⟩
theorem cfg57_l : cfg57.pins = [] ∧ cfg57.P = Tryz.prog ∧ cfg57.N = 14 ∧ cfg57.ti 86 = none ∧ cfg57.T 86 = e86 ∧ cfg57.mv 86 = (fun _ => []) ∧ cfg57.ti 87 = none ∧ cfg57.T 87 = e87 ∧ cfg57.mv 87 = (fun _ => []) := ⟨rfl, rfl, rfl, rfl, rfl, rfl, rfl, rfl, rfl⟩
section
attribute [local go_sem] cfg57_l e86 e87
attribute [local go_sem] encChange encEntry ceqChange ceqEntry etaChange etaEntry zfChange zfEntry decChange decEntry seq_dec getDz_Entry dL_Entry List.length_map Int.toNat_natCast Int.toNat_zero Nat.sub_zero List.length_take decL_sl decM_cons decM_nil decM_append take_map_snoc dM_Entry dM_Packet dM_RAct
attribute [local go_sem ←] List.map_take List.map_drop
theorem con57 (hC : COk cfg57) (l : List Entry) (unit : Int) (hp : l.length ≤ 1000000) : Sem Tryz.prog 57 [.d (.sl 8 (l.map encEntry)), .d (.i .i64 unit)] (.d (.b (isOpen l unit))) := by
  refine sem_of_awR (C := cfg57) (rs := [.tmp 4]) (fun _ => []) Tryz.func57 rfl rfl rfl rfl rfl rfl ?_
  refine inQ ?_
  repeat' first
    | (with_reducible first | refine thenS_n ?_ | refine inBlockS_n ?_ | refine AW.seq ?_ | refine AW.block ?_)
    | (with_reducible first | (refine AW.runK hC ?_; intro K hK) | (refine AW.drawK hC (by kernel_rfl) ?_; intro K hK))
    | ((with_reducible first | refine erun_g ?_ | refine edraw_g ?_ | refine exitS_g ?_); refine siQ ?_; (try simp (disch := omega) only [w64, wu8]))
    | (with_reducible refine hCheck_g (by kernel_rfl) ?_)
    | ((first | (refine AW.cond rfl (fun h => ?_) (fun h => ?_)) | (refine AW.cond_ub rfl (fun h => ?_) ?_) | (refine AW.cond_nb rfl ?_ (fun h => ?_))) <;> (try replace h := boolH h) <;> (try (exfalso; first | omega | exact absurd h (by decide))))
    | (with_reducible first | refine AW.skip ?_ | refine AW.exit ?_ | refine AW.ret ?_ | refine thenS_r ?_ | refine thenS_e ?_ | refine inBlockS_r ?_ | refine inBlockS_e ?_ | refine inBlockS_e2 rfl ?_ | refine exitQ_r ?_ | refine exitQ_n ?_)
    | (refine sub_auto ?_; refine subQ ?_)
    | (with_reducible refine And.intro ?_ ?_)
    | (subst hK)
    | exact trivial
  all_goals (try (intros; assumption))
  all_goals (try refine boolG ?_)
  all_goals (try replace hp := boolH hp)
  all_goals (try replace hi := boolH hi)
  all_goals (try replace hj := boolH hj)
  all_goals (try replace hk := boolH hk)
  all_goals (try (intros; trivial))
  all_goals (try (intros; omega))
  all_goals (try (rw [w64 (by omega) (by omega)]; first | done | omega))
  all_goals grind [isOpen]
end
noncomputable def cfg103 : Cfg := ⟨Tryz.prog, 39, tab57, (fun _ _ => []), [], (fun _ => none)⟩
theorem cfg103_l : cfg103.pins = [] ∧ cfg103.P = Tryz.prog ∧ cfg103.N = 39 ∧ cfg103.ti 57 = none ∧ cfg103.T 57 = e57 ∧ cfg103.mv 57 = (fun _ => []) ∧ cfg103.ti 76 = none ∧ cfg103.T 76 = e76 ∧ cfg103.mv 76 = (fun _ => []) ∧ cfg103.ti 86 = none ∧ cfg103.T 86 = e86 ∧ cfg103.mv 86 = (fun _ => []) := ⟨rfl, rfl, rfl, rfl, rfl, rfl, rfl, rfl, rfl, rfl, rfl, rfl⟩
section
attribute [local go_sem] cfg103_l e57 e76 e86
attribute [local go_sem] encChange encEntry ceqChange ceqEntry etaChange etaEntry zfChange zfEntry decChange decEntry seq_dec getDz_Entry dL_Entry List.length_map Int.toNat_natCast Int.toNat_zero Nat.sub_zero List.length_take decL_sl decM_cons decM_nil decM_append take_map_snoc dM_Entry dM_Packet dM_RAct
attribute [local go_sem ←] List.map_take List.map_drop
theorem con103 (hC : COk cfg103) (l : List Entry) (e : Entry) (hp : l.length ≤ 1000000) : Sem Tryz.prog 103 [.d (.sl 8 (l.map encEntry)), .d (encEntry e)] (.d (.i .i64 (stateErr l e))) := by
  refine sem_of_awR (C := cfg103) (rs := [.tmp 4]) (fun _ => []) Tryz.func103 rfl rfl rfl rfl rfl rfl ?_
  refine inQ ?_
  repeat' first
    | (with_reducible first | refine thenS_n ?_ | refine inBlockS_n ?_ | refine AW.seq ?_ | refine AW.block ?_)
    | (with_reducible first | (refine AW.runK hC ?_; intro K hK) | (refine AW.drawK hC (by kernel_rfl) ?_; intro K hK))
    | ((with_reducible first | refine erun_g ?_ | refine edraw_g ?_ | refine exitS_g ?_); refine siQ ?_; (try simp (disch := omega) only [w64, wu8]))
    | (with_reducible refine hCheck_g (by kernel_rfl) ?_)
    | ((first | (refine AW.cond rfl (fun h => ?_) (fun h => ?_)) | (refine AW.cond_ub rfl (fun h => ?_) ?_) | (refine AW.cond_nb rfl ?_ (fun h => ?_))) <;> (try replace h := boolH h) <;> (try (exfalso; first | omega | exact absurd h (by decide))))
    | (with_reducible first | refine AW.skip ?_ | refine AW.exit ?_ | refine AW.ret ?_ | refine thenS_r ?_ | refine thenS_e ?_ | refine inBlockS_r ?_ | refine inBlockS_e ?_ | refine inBlockS_e2 rfl ?_ | refine exitQ_r ?_ | refine exitQ_n ?_)
    | (refine sub_auto ?_; refine subQ ?_)
    | (with_reducible refine And.intro ?_ ?_)
    | (subst hK)
    | exact trivial
  all_goals (try (intros; assumption))
  all_goals (try refine boolG ?_)
  all_goals (try replace hp := boolH hp)
  all_goals (try replace hi := boolH hi)
  all_goals (try replace hj := boolH hj)
  all_goals (try replace hk := boolH hk)
  all_goals (try (intros; trivial))
  all_goals (try (intros; omega))
  all_goals (try (rw [w64 (by omega) (by omega)]; first | done | omega))
  all_goals grind [stateErr]
end
end Go.Ev
