/- Tools and contracts under the laws of this seat: Dyc197 to Dyc118. -/
import Derived.Test.YtkgkgcojfocomaaGreatE05
set_option linter.unusedVariables false
set_option linter.unusedSimpArgs false
namespace Go.Ev
open Go.Proofs Ty
set_option maxRecDepth 10000
set_option maxHeartbeats 4000000
set_option linter.unusedSimpArgs false
set_option linter.unusedVariables false
attribute [local go_sem] erun_nil erun_cons edraw_eq edrun_nil edrun_cons e1_n e1_g guardSlot_eq lkAll_tmp lkAll_nil lkAll_const lkAll_func val_tmp val_const val_func aget getBox_mk getRow_mk liveRow_mk hp_mk eU_move_n eU_assign_n eU_move eU_assign eU_pick eU_alloc eU_box eU_load eU_store eU_nilCheck eU_binOp eU_unOp eU_fieldAddr eU_field eU_indexAddr eU_index eU_build eU_buildSlice eU_slice eU_extract eU_makeFunc eU_builtin eU_call eU_callv V.cells V.one D.one D.cells newObj nm HS.isFree HS.isLive andOk_some andOk_none List.map_cons List.map_nil Option.bind_some Option.bind_none putL List.cons_append List.nil_append thenS_normal thenS_ret thenS_exit inBlockS_normal inBlockS_ret inBlockS_exit true_and and_true justV justO cval Option.map_some Option.map_none loadAt storeAt ldV ldD mkAgg V.asD spliceL List.take_succ_cons List.take_zero List.drop_succ_cons List.drop_zero List.getElem?_cons_zero List.getElem?_cons_succ List.getElem?_nil List.all_cons List.all_nil Bool.and_true Bool.true_and Bool.and_self List.length_cons List.length_nil vals aopCall argsO argO toD3 toD2 toD1 toDs O.ok O.ok2 O.ok1 O.flat O.flat1 D.flat D.flatA inO inO2 inO1 inOs List.filterMap_nil List.filterMap_cons List.filter_nil List.filter_cons List.nodup_nil decide_true decide_false Bool.not_true Bool.not_false not_true_eq_false not_false_eq_true or_false false_or and_false false_and ne_eq List.append_nil optB guardQ guardRes beq_self_eq_true List.mapM_cons List.mapM_nil Option.pure_def Option.bind_eq_bind true_or or_true or_self callHp ite_self not_true not_false_iff ite_true ite_false if_true if_false Bool.false_eq_true Bool.true_eq_false List.any_nil List.any_cons List.contains_nil List.contains_cons eq_self aopAppend builtinV elems aopBin nilEqS nilEqP aopSlice bound natOf lenOf binD intBin unD bindEq eU_makeMap eU_convert eU_makeSlice aopConv aopMake isShift shiftD eU_lookup eU_mapUpdate getMp_mk List.range_zero Nat.zero_le Nat.zero_mul Nat.zero_add Nat.add_zero List.length_append List.take_length List.isEmpty_nil List.isEmpty_cons V.neg List.flatMap_nil and_self List.range_succ forall_const implies_true Nat.not_lt_zero exitQ_normal exitQ_ret exitS_eq exitO resVs resV_tmp resV_cell takeRow argCells mvAt dle_same dles_same ole_same ole oles dle dles List.nodup_cons List.mem_cons List.not_mem_nil List.drop_length Nat.le_refl Nat.lt_irrefl id_eq Option.some.injEq Bool.or_false Bool.false_or Bool.or_self Bool.or_true Bool.true_or false_implies Bool.and_false Bool.false_and List.reverse_cons List.reverse_nil sh1 mget1 mget aopLookup aopMapUpdate mapOf msetK msetV Option.isSome_some Option.isSome_none Bool.cond_true_left Bool.cond_false_right Bool.cond_true_right Bool.cond_false_left beq_true beq_false Bool.not_not imp_self guardVal notB strBin aopSliceS buildV argOk D.splice kEq Option.toList_some Option.toList_none adel List.getD_cons_zero List.getD_cons_succ bxIds bxId backHp hget one1 aopCall0 aopTurn
attribute [local go_sem] sz3 ag3 zr3 zo3 zd3 by3 sl3 st3 bo3 pt3 ck3 encDType decDType etaDType zfDType encVal decVal etaVal zfVal Int.toNat_natCast chr_eq dL_int dM_int getDz_int decL_sl decM_cons decM_nil decI List.length_map nc0 bytesD_len bytesD_get sz4 ag4 zr4 zo4 zd4 by4 sl4 st4 bo4 pt4 sz9 ag9 zr9 zo9 zd9 by9 sl9 un9 st9 bo9 pt9 ck9 sz26 ag26 zr26 zo26 zd26 by26 sl26 st26 bo26 pt26 ck26 sz108 ag108 zr108 zd108 by108 sl108 st108 bo108 pt108 of108_0 fa108_0 of108_1 fa108_1 of108_2 fa108_2 pl108 ek108 sz182 ag182 zr182 zo182 zd182 by182 el182 sl182 un182 st182 bo182 pt182 sz212 ag212 zr212 zd212 by212 sl212 st212 bo212 pt212 of212_0 fa212_0 of212_1 fa212_1 pl212 ek212 sz5 ag5 zr5 zo5 zd5 by5 sl5 st5 bo5 pt5 ck5 sz206 ag206 zr206 zo206 zd206 by206 el206 sl206 un206 st206 bo206 pt206 ck206 sz232 ag232 zr232 zo232 zd232 by232 sl232 st232 bo232 pt232 ck232 sz31 ag31 zr31 zo31 zd31 by31 el31 sl31 un31 st31 bo31 pt31 sz110 ag110 zr110 zd110 by110 sl110 st110 bo110 pt110 of110_0 fa110_0 of110_1 fa110_1 pl110 ek110 sz72 ag72 zr72 zo72 zd72 by72 el72 sl72 un72 st72 bo72 pt72 sz74 ag74 zr74 zd74 by74 sl74 st74 bo74 pt74 of74_0 fa74_0 of74_1 fa74_1 pl74 sz75 ag75 zr75 zo75 zd75 by75 el75 sl75 un75 st75 bo75 pt75 sz77 ag77 zr77 zd77 by77 sl77 st77 bo77 pt77 of77_0 fa77_0 of77_1 fa77_1 of77_2 fa77_2 of77_3 fa77_3 pl77 sz113 ag113 zr113 zd113 by113 sl113 st113 bo113 pt113 of113_0 fa113_0 of113_1 fa113_1 pl113 ek113 sz197 ag197 by197 sl197 st197 bo197 pt197 mt197
noncomputable def cfg197 : Cfg := ⟨Tryz.prog, 12, tab173, (fun _ _ => []), [], (fun _ => none)⟩
theorem cfg197_l : cfg197.pins = [] ∧ cfg197.P = Tryz.prog ∧ cfg197.N = 12 := ⟨rfl, rfl, rfl⟩
section
attribute [local go_sem] cfg197_l
attribute [local go_sem] firstE
theorem con197 (hC : COk cfg197) (n : Int) : Sem Tryz.prog 197 [.d (.i .i64 n)] (.d (.i .i64 (p10 n))) := by
  refine sem_of_awR (C := cfg197) (rs := [.tmp 2]) (fun _ => []) Tryz.func197 rfl rfl rfl rfl rfl rfl ?_
  refine inQ ?_
  repeat' first
    | (with_reducible first | refine thenS_n ?_ | refine inBlockS_n ?_ | refine AW.seq ?_ | refine AW.block ?_)
    | (with_reducible first | (refine AW.runK hC ?_; intro K hK) | (refine AW.drawK hC (by kernel_rfl) ?_; intro K hK))
    | ((with_reducible first | refine erun_g ?_ | refine edraw_g ?_ | refine exitS_g ?_); refine siQ ?_; (try simp (disch := omega) only [w64, wu8]))
    | (with_reducible refine hCheck_g (by kernel_rfl) ?_)
    | ((first | (refine AW.cond rfl (fun h => ?_) (fun h => ?_)) | (refine AW.cond_ub rfl (fun h => ?_) ?_) | (refine AW.cond_nb rfl ?_ (fun h => ?_))) <;> (try replace h := boolH h) <;> (try (exfalso; first | omega | exact absurd h (by decide))))
    | (with_reducible first | refine AW.skip ?_ | refine AW.exit ?_ | refine AW.ret ?_ | refine thenS_r ?_ | refine thenS_e ?_ | refine inBlockS_r ?_ | refine inBlockS_e ?_ | refine inBlockS_e2 rfl ?_ | refine exitQ_r ?_ | refine exitQ_n ?_)
    | (refine AW.loopN 3 rfl (ι := Nat) (fun i => mkS [(3, V.d (.i .i64 (10 ^ i : Int))), (5, V.d (.i .i64 (min n 18))), (6, V.d (.i .i64 (i : Int)))] ([])) (fun i => (i : Int) ≤ max 0 (min n 18)) (fun i => (min n 18).toNat - i) (0) ?_ ?_ (fun i hi => ?_) <;> (try dsimp only) <;> (try dsimp only at hi))
    | (refine LoopNext.mk1 3 (i + 1) ?_ ?_ ?_ <;> (try dsimp only))
    | (refine sub_auto ?_; refine subQ ?_)
    | (with_reducible refine And.intro ?_ ?_)
    | (subst hK)
    | exact trivial
  all_goals (try (intros; assumption))
  all_goals (try refine boolG ?_)
  all_goals (try replace hp := boolH hp)
  all_goals (try replace hi := boolH hi)
  all_goals (try replace hj := boolH hj)
  all_goals (try replace hk := boolH hk)
  all_goals (try (intros; trivial))
  all_goals (try (intros; omega))
  all_goals (try (rw [w64 (by omega) (by omega)]; first | done | omega))
  all_goals clear hC
  all_goals first
    | omega
    | exact p10_step (by omega)
    | exact p10_end hi h
    | (intro d hd; first | (subst hd; exact ⟨rfl, by simp [D.cells, D.one]⟩) | (rcases hd with rfl | rfl <;> exact ⟨rfl, by simp [D.cells, D.one]⟩) | (rcases hd with rfl | rfl | rfl <;> exact ⟨rfl, by simp [D.cells, D.one]⟩) | (rcases hd with rfl | rfl | rfl | rfl <;> exact ⟨rfl, by simp [D.cells, D.one]⟩))
end
noncomputable def cfg190 : Cfg := ⟨Tryz.prog, 52, tab197, (fun _ _ => []), [], (fun _ => none)⟩
theorem cfg190_l : cfg190.pins = [] ∧ cfg190.P = Tryz.prog ∧ cfg190.N = 52 ∧ cfg190.ti 172 = none ∧ cfg190.T 172 = e172 ∧ cfg190.mv 172 = (fun _ => []) ∧ cfg190.ti 185 = none ∧ cfg190.T 185 = e185 ∧ cfg190.mv 185 = (fun _ => []) ∧ cfg190.ti 186 = none ∧ cfg190.T 186 = e186 ∧ cfg190.mv 186 = (fun _ => []) ∧ cfg190.ti 187 = none ∧ cfg190.T 187 = e187 ∧ cfg190.mv 187 = (fun _ => []) ∧ cfg190.ti 197 = none ∧ cfg190.T 197 = e197 ∧ cfg190.mv 197 = (fun _ => []) := ⟨rfl, rfl, rfl, rfl, rfl, rfl, rfl, rfl, rfl, rfl, rfl, rfl, rfl, rfl, rfl, rfl, rfl, rfl⟩
section
attribute [local go_sem] cfg190_l e172 e185 e186 e187 e197
attribute [local go_sem] firstE
theorem con190 (hC : COk cfg190) (t : DType) (v : Val) : Sem Tryz.prog 190 [.d (encDType t), .d (encVal v)] (.d (.i .i64 (valueErr t v))) := by
  refine sem_of_awR (C := cfg190) (rs := [.tmp 4]) (fun _ => []) Tryz.func190 rfl rfl rfl rfl rfl rfl ?_
  refine inQ ?_
  repeat' first
    | (with_reducible first | refine thenS_n ?_ | refine inBlockS_n ?_ | refine AW.seq ?_ | refine AW.block ?_)
    | (with_reducible first | (refine AW.runK hC ?_; intro K hK) | (refine AW.drawK hC (by kernel_rfl) ?_; intro K hK))
    | ((with_reducible first | refine erun_g ?_ | refine edraw_g ?_ | refine exitS_g ?_); refine siQ ?_; (try simp (disch := omega) only [w64, wu8]))
    | (with_reducible refine hCheck_g (by kernel_rfl) ?_)
    | ((first | (refine AW.cond rfl (fun h => ?_) (fun h => ?_)) | (refine AW.cond_ub rfl (fun h => ?_) ?_) | (refine AW.cond_nb rfl ?_ (fun h => ?_))) <;> (try replace h := boolH h) <;> (try (exfalso; first | omega | exact absurd h (by decide))))
    | (with_reducible first | refine AW.skip ?_ | refine AW.exit ?_ | refine AW.ret ?_ | refine thenS_r ?_ | refine thenS_e ?_ | refine inBlockS_r ?_ | refine inBlockS_e ?_ | refine inBlockS_e2 rfl ?_ | refine exitQ_r ?_ | refine exitQ_n ?_)
    | (refine sub_auto ?_; refine subQ ?_)
    | (with_reducible refine And.intro ?_ ?_)
    | (subst hK)
    | exact trivial
  all_goals (try (intros; assumption))
  all_goals (try refine boolG ?_)
  all_goals (try replace hp := boolH hp)
  all_goals (try replace hi := boolH hi)
  all_goals (try replace hj := boolH hj)
  all_goals (try replace hk := boolH hk)
  all_goals (try (intros; trivial))
  all_goals (try (intros; omega))
  all_goals (try (rw [w64 (by omega) (by omega)]; first | done | omega))
  all_goals clear hC
  all_goals have PW := p10_le t.length
  all_goals (try simp only [valueErr])
  all_goals first
    | omega
    | grind
    | (rename_i hq; simp (disch := omega) only [w64]; revert hq; (repeat' split) <;> intros <;> first | rfl | omega | (exfalso; omega) | (simp_all; done))
    | (intro d hd; first | (subst hd; exact ⟨rfl, by simp [D.cells, D.one]⟩) | (rcases hd with rfl | rfl <;> exact ⟨rfl, by simp [D.cells, D.one]⟩) | (rcases hd with rfl | rfl | rfl <;> exact ⟨rfl, by simp [D.cells, D.one]⟩) | (rcases hd with rfl | rfl | rfl | rfl <;> exact ⟨rfl, by simp [D.cells, D.one]⟩))
end
noncomputable def cfg189 : Cfg := ⟨Tryz.prog, 25, tab190, (fun _ _ => []), [], (fun _ => none)⟩
theorem cfg189_l : cfg189.pins = [] ∧ cfg189.P = Tryz.prog ∧ cfg189.N = 25 := ⟨rfl, rfl, rfl⟩
section
attribute [local go_sem] cfg189_l
attribute [local go_sem] firstE
theorem con189 (hC : COk cfg189) (b : ByteArray) (hp : 0 < b.size ∧ b.size ≤ 1000) : Sem Tryz.prog 189 [.d (.s b)] (.d (.i .i64 (binN b))) := by
  refine sem_of_awR (C := cfg189) (rs := [.tmp 2]) (fun _ => []) Tryz.func189 rfl rfl rfl rfl rfl rfl ?_
  refine inQ ?_
  repeat' first
    | (with_reducible first | refine thenS_n ?_ | refine inBlockS_n ?_ | refine AW.seq ?_ | refine AW.block ?_)
    | (with_reducible first | (refine AW.runK hC ?_; intro K hK) | (refine AW.drawK hC (by kernel_rfl) ?_; intro K hK))
    | ((with_reducible first | refine erun_g ?_ | refine edraw_g ?_ | refine exitS_g ?_); refine siQ ?_; (try simp (disch := omega) only [w64, wu8]))
    | (with_reducible refine hCheck_g (by kernel_rfl) ?_)
    | ((first | (refine AW.cond rfl (fun h => ?_) (fun h => ?_)) | (refine AW.cond_ub rfl (fun h => ?_) ?_) | (refine AW.cond_nb rfl ?_ (fun h => ?_))) <;> (try replace h := boolH h) <;> (try (exfalso; first | omega | exact absurd h (by decide))))
    | (with_reducible first | refine AW.skip ?_ | refine AW.exit ?_ | refine AW.ret ?_ | refine thenS_r ?_ | refine thenS_e ?_ | refine inBlockS_r ?_ | refine inBlockS_e ?_ | refine inBlockS_e2 rfl ?_ | refine exitQ_r ?_ | refine exitQ_n ?_)
    | (refine AW.loopN 3 rfl (ι := Nat) (fun i => mkS [(3, V.d (.i .i64 (binTo b i))), (12, V.d (.sl 1 (bytesD (b.extract 1 b.size)))), (13, V.d (.i .i64 ((b.size - 1 : Nat) : Int))), (14, V.d (.i .i64 (i : Int)))] ([])) (fun i => i ≤ b.size - 1) (fun i => b.size - 1 - i) (0) ?_ ?_ (fun i hi => ?_) <;> (try dsimp only) <;> (try dsimp only at hi))
    | (refine LoopNext.mk1 3 (i + 1) ?_ ?_ ?_ <;> (try dsimp only))
    | (refine sub_auto ?_; refine subQ ?_)
    | (with_reducible refine And.intro ?_ ?_)
    | (subst hK)
    | exact trivial
  all_goals (try (intros; assumption))
  all_goals (try refine boolG ?_)
  all_goals (try replace hp := boolH hp)
  all_goals (try replace hi := boolH hi)
  all_goals (try replace hj := boolH hj)
  all_goals (try replace hk := boolH hk)
  all_goals (try (intros; trivial))
  all_goals (try (intros; omega))
  all_goals (try (rw [w64 (by omega) (by omega)]; first | done | omega))
  all_goals clear hC
  all_goals first
    | omega
    | exact dles_refl _
    | (rw [ext_size]; omega)
    | (rw [ext_size]; done)
    | (show binTo b 0 = IntKind.i64.wrap (IntKind.i8.wrap (chr b 0)); rw [w64 (by have := wrap_i8 (chr b 0); omega) (by have := wrap_i8 (chr b 0); omega)]; rfl)
    | (show ((b.size - 1 : Nat) : Int) = ((b.extract 1 b.size).size : Int); rw [ext_size])
    | (rw [binTo_succ b i (by omega), ext_chr b i (by omega), w64 (n := chr b (i + 1)) (by have := chr_u8 b (i + 1); omega) (by have := chr_u8 b (i + 1); omega)]; rfl)
    | (rw [binTo_end b i (by omega)]; done)
    | (intro d hd; first | (subst hd; exact ⟨rfl, by simp [D.cells, D.one]⟩) | (rcases hd with rfl | rfl <;> exact ⟨rfl, by simp [D.cells, D.one]⟩) | (rcases hd with rfl | rfl | rfl <;> exact ⟨rfl, by simp [D.cells, D.one]⟩) | (rcases hd with rfl | rfl | rfl | rfl <;> exact ⟨rfl, by simp [D.cells, D.one]⟩))
end
noncomputable def cfg198 : Cfg := ⟨Tryz.prog, 65, tab189, (fun _ _ => []), [], (fun _ => none)⟩
theorem cfg198_l : cfg198.pins = [] ∧ cfg198.P = Tryz.prog ∧ cfg198.N = 65 := ⟨rfl, rfl, rfl⟩
section
attribute [local go_sem] cfg198_l
attribute [local go_sem] firstE
theorem con198 (hC : COk cfg198) (t : DType) (b : ByteArray) (hp : 0 < b.size ∧ b.size ≤ 1000) : Sem Tryz.prog 198 [.d (encDType t), .d (.s b)] (.tup [.d (.sl 1 ((halves t b).1.map (D.i .u8))), .d (.sl 1 ((halves t b).2.map (D.i .i64)))]) := by
  refine sem_of_awR (C := cfg198) (rs := [.tmp 4, .tmp 5]) (fun _ => []) Tryz.func198 rfl rfl rfl rfl rfl rfl ?_
  refine inQ ?_
  repeat' first
    | (with_reducible first | refine thenS_n ?_ | refine inBlockS_n ?_ | refine AW.seq ?_ | refine AW.block ?_)
    | (with_reducible first | (refine AW.runK hC ?_; intro K hK) | (refine AW.drawK hC (by kernel_rfl) ?_; intro K hK))
    | ((with_reducible first | refine erun_g ?_ | refine edraw_g ?_ | refine exitS_g ?_); refine siQ ?_; (try simp (disch := omega) only [w64, wu8]))
    | (with_reducible refine hCheck_g (by kernel_rfl) ?_)
    | ((first | (refine AW.cond rfl (fun h => ?_) (fun h => ?_)) | (refine AW.cond_ub rfl (fun h => ?_) ?_) | (refine AW.cond_nb rfl ?_ (fun h => ?_))) <;> (try replace h := boolH h) <;> (try (exfalso; first | omega | exact absurd h (by decide))))
    | (with_reducible first | refine AW.skip ?_ | refine AW.exit ?_ | refine AW.ret ?_ | refine thenS_r ?_ | refine thenS_e ?_ | refine inBlockS_r ?_ | refine inBlockS_e ?_ | refine inBlockS_e2 rfl ?_ | refine exitQ_r ?_ | refine exitQ_n ?_)
    | (refine AW.loopN 2 rfl (ι := Nat) (fun i => mkS [(1, V.d (.s b)), (2, V.ptr 32 0), (4, V.row 64 1 0 (halvL t b i).length), (5, V.row 80 1 0 (halvA t i).length), (10, V.d (.i .i64 (b.size : Int))), (11, V.d (.i .i64 (i : Int)))] ([(32, .live (.box 108 [.d (.i .i64 t.kind), .d (.i .i64 t.length), .d (.i .i64 t.scale)])), (64, .live (.row 5 1 false ((halvL t b i).map (D.i .u8)))), (80, .live (.row 3 1 false ((halvA t i).map (D.i .i64))))])) (fun i => i ≤ b.size) (fun i => b.size - i) (0) ?_ ?_ (fun i hi => ?_) <;> (try dsimp only) <;> (try dsimp only at hi))
    | (refine LoopNext.mk1 2 (i + 1) ?_ ?_ ?_ <;> (try dsimp only))
    | (refine sub_auto ?_; refine subQ ?_)
    | (with_reducible refine And.intro ?_ ?_)
    | (subst hK)
    | exact trivial
  all_goals (try (intros; assumption))
  all_goals (try refine boolG ?_)
  all_goals (try replace hp := boolH hp)
  all_goals (try replace hi := boolH hi)
  all_goals (try replace hj := boolH hj)
  all_goals (try replace hk := boolH hk)
  all_goals (try (intros; trivial))
  all_goals (try (intros; omega))
  all_goals (try (rw [w64 (by omega) (by omega)]; first | done | omega))
  all_goals (try have L1 := halvL_len t b i)
  all_goals (try have L2 := halvA_len t i)
  all_goals clear hC
  all_goals first
    | omega
    | (split at L1 <;> split at L2 <;> omega)
    | (rw [halvL_p (by assumption)]; simp; done)
    | (rw [halvL_z (by assumption)]; simp; done)
    | (rw [halvA_p (by assumption)]; simp; done)
    | (rw [halvA_z (by assumption)]; simp; done)
    | (rw [halvL_p (by assumption), List.map_append]; exact dles_refl _)
    | (rw [halvL_z (by assumption), List.map_append]; exact dles_refl _)
    | (rw [halvA_p (by assumption), List.map_append]; exact dles_refl _)
    | (rw [halvA_z (by assumption), List.map_append]; exact dles_refl _)
    | (rw [List.take_of_length_le (by simp), halves_2 (by assumption), show i = b.size by omega, int_pred, List.map_append]; exact dles_refl _)
    | (rw [List.take_of_length_le (by simp), halves_2 (by assumption), show i = b.size by omega, List.map_append]; exact dles_refl _)
    | (rw [List.take_of_length_le (by simp), halves_n (by assumption), show i = b.size by omega]; exact dles_refl _)
    | (intro d hd; first | (subst hd; exact ⟨rfl, by simp [D.cells, D.one]⟩) | (rcases hd with rfl | rfl <;> exact ⟨rfl, by simp [D.cells, D.one]⟩) | (rcases hd with rfl | rfl | rfl <;> exact ⟨rfl, by simp [D.cells, D.one]⟩) | (rcases hd with rfl | rfl | rfl | rfl <;> exact ⟨rfl, by simp [D.cells, D.one]⟩))
end
noncomputable def cfg191 : Cfg := ⟨Tryz.prog, 81, tab198, (fun _ _ => []), [], (fun _ => none)⟩
theorem cfg191_l : cfg191.pins = [] ∧ cfg191.P = Tryz.prog ∧ cfg191.N = 81 ∧ cfg191.ti 198 = none ∧ cfg191.T 198 = e198 ∧ cfg191.mv 198 = (fun _ => []) := ⟨rfl, rfl, rfl, rfl, rfl, rfl⟩
section
attribute [local go_sem] cfg191_l e198
attribute [local go_sem] firstE getDz_u8 List.length_take
attribute [local go_sem ←] List.map_take
theorem con191 (hC : COk cfg191) (t : DType) (b : ByteArray) (hp : 0 < b.size ∧ b.size ≤ 1000 ∧ 0 ≤ t.length ∧ t.length ≤ 1000) : Sem Tryz.prog 191 [.d (encDType t), .d (.s b)] (.tup [.d (.i .i64 (decN t b).1), .d (.i .i64 (decN t b).2.1), .d (.i .i64 (decN t b).2.2)]) := by
  obtain ⟨q1, q2, q3, q4⟩ := hp
  have HLN := halves_len t b
  have HL1 : 1 ≤ (halves t b).1.length ∧ (halves t b).1.length ≤ 3000 := by rw [HLN.1]; (repeat' split) <;> omega
  refine sem_of_awR (C := cfg191) (rs := [.tmp 4, .tmp 5, .tmp 6]) (fun _ => []) Tryz.func191 rfl rfl rfl rfl rfl rfl ?_
  refine inQ ?_
  repeat' first
    | (with_reducible first | refine thenS_n ?_ | refine inBlockS_n ?_ | refine AW.seq ?_ | refine AW.block ?_)
    | (with_reducible first | (refine AW.runK hC ?_; intro K hK) | (refine AW.drawK hC (by kernel_rfl) ?_; intro K hK))
    | ((with_reducible first | refine erun_g ?_ | refine edraw_g ?_ | refine exitS_g ?_); refine siQ ?_; (try simp (disch := omega) only [w64, wu8]))
    | (with_reducible refine hCheck_g (by kernel_rfl) ?_)
    | ((first | (refine AW.cond rfl (fun h => ?_) (fun h => ?_)) | (refine AW.cond_ub rfl (fun h => ?_) ?_) | (refine AW.cond_nb rfl ?_ (fun h => ?_))) <;> (try replace h := boolH h) <;> (try (exfalso; first | omega | exact absurd h (by decide))))
    | (with_reducible first | refine AW.skip ?_ | refine AW.exit ?_ | refine AW.ret ?_ | refine thenS_r ?_ | refine thenS_e ?_ | refine inBlockS_r ?_ | refine inBlockS_e ?_ | refine inBlockS_e2 rfl ?_ | refine exitQ_r ?_ | refine exitQ_n ?_)
    | (refine AW.loopN 5 rfl (ι := Nat × Int) (fun p => mkS [(2, V.ptr 32 0), (7, V.d (.sl 1 ((halves t b).1.map (D.i .u8)))), (8, V.d (.sl 1 ((halves t b).2.map (D.i .i64)))), (9, V.d (.i .i64 (((halves t b).1.length : Int) - 1))), (10, V.d (.i .i64 p.2)), (24, V.d (.sl 1 (((halves t b).1.take ((halves t b).1.length - 1)).map (D.i .u8)))), (25, V.d (.i .i64 (((halves t b).1.length - 1 : Nat) : Int))), (26, V.d (.i .i64 (p.1 : Int)))] ([(32, .live (.box 108 [.d (.i .i64 t.kind), .d (.i .i64 t.length), .d (.i .i64 t.scale)]))])) (fun p => p.1 ≤ (halves t b).1.length - 1 ∧ decGo t.length (halves t b).1 (halves t b).2 (((halves t b).1.length : Int) - 1) (((halves t b).1.take ((halves t b).1.length - 1)).drop p.1) p.1 p.2 = decN t b) (fun p => (halves t b).1.length - 1 - p.1) ((0, 0)) ?_ ?_ (fun p hi => ?_) <;> (try dsimp only) <;> (try dsimp only at hi))
    | (refine LoopNext.mk1 5 ((p.1 + 1, IntKind.i64.wrap (IntKind.i64.wrap (p.2 * 10) + IntKind.i64.wrap (((halves t b).1.take ((halves t b).1.length - 1)).getD p.1 0)))) ?_ ?_ ?_ <;> (try dsimp only))
    | (refine sub_auto ?_; refine subQ ?_)
    | (with_reducible refine And.intro ?_ ?_)
    | (subst hK)
    | exact trivial
  all_goals (try (intros; assumption))
  all_goals (try refine boolG ?_)
  all_goals (try replace hp := boolH hp)
  all_goals (try replace hi := boolH hi)
  all_goals (try replace hj := boolH hj)
  all_goals (try replace hk := boolH hk)
  all_goals (try (intros; trivial))
  all_goals (try (intros; omega))
  all_goals (try (rw [w64 (by omega) (by omega)]; first | done | omega))
  all_goals clear hC
  all_goals have RL : ((halves t b).1.take ((halves t b).1.length - 1)).length = (halves t b).1.length - 1 := by rw [List.length_take]; omega
  all_goals first
    | omega
    | (refine dles_of_eq ?_; simp only [Int.toNat_zero, List.drop_zero, Nat.sub_zero, int_pred, List.map_take])
    | (simp only [Int.toNat_zero, List.drop_zero, Nat.sub_zero, int_pred, List.length_map]; omega)
    | rfl
    | (rw [decGo_bad hi.2 (by omega) (by omega)]; done)
    | exact decGo_next hi.2 (by omega) (by omega)
    | (rw [decGo_end1 hi.2 (by omega) (by omega)]; done)
    | (rw [decGo_end2 hi.2 (by omega) (by omega) (by omega)]; done)
    | (rw [decGo_end3 hi.2 (by omega) (by omega) (by omega)]; done)
    | (intro d hd; first | (subst hd; exact ⟨rfl, by simp [D.cells, D.one]⟩) | (rcases hd with rfl | rfl <;> exact ⟨rfl, by simp [D.cells, D.one]⟩) | (rcases hd with rfl | rfl | rfl <;> exact ⟨rfl, by simp [D.cells, D.one]⟩) | (rcases hd with rfl | rfl | rfl | rfl <;> exact ⟨rfl, by simp [D.cells, D.one]⟩))
end
noncomputable def cfg174 : Cfg := ⟨Tryz.prog, 63, tab191, (fun _ _ => []), [], (fun _ => none)⟩
theorem cfg174_l : cfg174.pins = [] ∧ cfg174.P = Tryz.prog ∧ cfg174.N = 63 ∧ cfg174.ti 172 = none ∧ cfg174.T 172 = e172 ∧ cfg174.mv 172 = (fun _ => []) ∧ cfg174.ti 186 = none ∧ cfg174.T 186 = e186 ∧ cfg174.mv 186 = (fun _ => []) ∧ cfg174.ti 187 = none ∧ cfg174.T 187 = e187 ∧ cfg174.mv 187 = (fun _ => []) ∧ cfg174.ti 188 = none ∧ cfg174.T 188 = e188 ∧ cfg174.mv 188 = (fun _ => []) ∧ cfg174.ti 189 = none ∧ cfg174.T 189 = e189 ∧ cfg174.mv 189 = (fun _ => []) ∧ cfg174.ti 190 = none ∧ cfg174.T 190 = e190 ∧ cfg174.mv 190 = (fun _ => []) ∧ cfg174.ti 191 = none ∧ cfg174.T 191 = e191 ∧ cfg174.mv 191 = (fun _ => []) := ⟨rfl, rfl, rfl, rfl, rfl, rfl, rfl, rfl, rfl, rfl, rfl, rfl, rfl, rfl, rfl, rfl, rfl, rfl, rfl, rfl, rfl, rfl, rfl, rfl⟩
section
attribute [local go_sem] cfg174_l e172 e186 e187 e188 e189 e190 e191
attribute [local go_sem] firstE
theorem con174 (hC : COk cfg174) (t : DType) (b : ByteArray) : Sem Tryz.prog 174 [.d (encDType t), .d (.s b)] (.tup [.d (encVal (decodeV t b).1), .d (.i .i64 (decodeV t b).2.1), .d (.i .i64 (decodeV t b).2.2)]) := by
  refine sem_of_awR (C := cfg174) (rs := [.cell 4 212, .tmp 5, .tmp 6]) (fun _ => []) Tryz.func174 rfl rfl rfl rfl rfl rfl ?_
  refine inQ ?_
  repeat' first
    | (with_reducible first | refine thenS_n ?_ | refine inBlockS_n ?_ | refine AW.seq ?_ | refine AW.block ?_)
    | (with_reducible first | (refine AW.runK hC ?_; intro K hK) | (refine AW.drawK hC (by kernel_rfl) ?_; intro K hK))
    | ((with_reducible first | refine erun_g ?_ | refine edraw_g ?_ | refine exitS_g ?_); refine siQ ?_; (try simp (disch := omega) only [w64, wu8]))
    | (with_reducible refine hCheck_g (by kernel_rfl) ?_)
    | ((first | (refine AW.cond rfl (fun h => ?_) (fun h => ?_)) | (refine AW.cond_ub rfl (fun h => ?_) ?_) | (refine AW.cond_nb rfl ?_ (fun h => ?_))) <;> (try replace h := boolH h) <;> (try (exfalso; first | omega | exact absurd h (by decide))))
    | (with_reducible first | refine AW.skip ?_ | refine AW.exit ?_ | refine AW.ret ?_ | refine thenS_r ?_ | refine thenS_e ?_ | refine inBlockS_r ?_ | refine inBlockS_e ?_ | refine inBlockS_e2 rfl ?_ | refine exitQ_r ?_ | refine exitQ_n ?_)
    | (refine sub_auto ?_; refine subQ ?_)
    | (with_reducible refine And.intro ?_ ?_)
    | (subst hK)
    | exact trivial
  all_goals (try (intros; assumption))
  all_goals (try refine boolG ?_)
  all_goals (try replace hp := boolH hp)
  all_goals (try replace hi := boolH hi)
  all_goals (try replace hj := boolH hj)
  all_goals (try replace hk := boolH hk)
  all_goals (try (intros; trivial))
  all_goals (try (intros; omega))
  all_goals (try (rw [w64 (by omega) (by omega)]; first | done | omega))
  all_goals clear hC
  all_goals (try have T0 : typeErr t = 0 := by grind)
  all_goals (try (have SZ := sizeN_ok T0; have TO := typeErr_ok T0))
  all_goals first
    | omega
    | (simp only [decodeV, zVal]; grind)
    | (exact T0)
    | grind
    | ((try split at h) <;> omega)
    | (intro d hd; first | (subst hd; exact ⟨rfl, by simp [D.cells, D.one]⟩) | (rcases hd with rfl | rfl <;> exact ⟨rfl, by simp [D.cells, D.one]⟩) | (rcases hd with rfl | rfl | rfl <;> exact ⟨rfl, by simp [D.cells, D.one]⟩) | (rcases hd with rfl | rfl | rfl | rfl <;> exact ⟨rfl, by simp [D.cells, D.one]⟩))
end
noncomputable def cfg163 : Cfg := ⟨Tryz.prog, 12, tab174, (fun _ _ => []), [], (fun _ => none)⟩
theorem cfg163_l : cfg163.pins = [] ∧ cfg163.P = Tryz.prog ∧ cfg163.N = 12 ∧ cfg163.ti 173 = none ∧ cfg163.T 173 = e173 ∧ cfg163.mv 173 = (fun _ => []) := ⟨rfl, rfl, rfl, rfl, rfl, rfl⟩
section
attribute [local go_sem] cfg163_l e173
attribute [local go_sem] encField decField etaField zfField encFmt decFmt etaFmt zfFmt encKField decKField etaKField zfKField encFile decFile etaFile zfFile encRec decRec etaRec zfRec getDz_Field getDz_KField getDz_Rec dL_Field dL_KField dL_Rec dM_Field dM_KField dM_Rec ceqField ceqKField ceqRec List.length_take decL_nil Int.toNat_zero Nat.sub_zero List.drop_zero
attribute [local go_sem ←] List.map_take List.map_drop
theorem con163 (hC : COk cfg163) (x : Field) : Sem Tryz.prog 163 [.d (encField x)] (.d (.i .i64 (widthF x))) := by
  refine sem_of_awR (C := cfg163) (rs := [.tmp 2]) (fun _ => []) Tryz.func163 rfl rfl rfl rfl rfl rfl ?_
  refine inQ ?_
  repeat' first
    | (with_reducible first | refine thenS_n ?_ | refine inBlockS_n ?_ | refine AW.seq ?_ | refine AW.block ?_)
    | (with_reducible first | (refine AW.runK hC ?_; intro K hK) | (refine AW.drawK hC (by kernel_rfl) ?_; intro K hK))
    | ((with_reducible first | refine erun_g ?_ | refine edraw_g ?_ | refine exitS_g ?_); refine siQ ?_; (try simp (disch := omega) only [w64, wu8]))
    | (with_reducible refine hCheck_g (by kernel_rfl) ?_)
    | ((first | (refine AW.cond rfl (fun h => ?_) (fun h => ?_)) | (refine AW.cond_ub rfl (fun h => ?_) ?_) | (refine AW.cond_nb rfl ?_ (fun h => ?_))) <;> (try replace h := boolH h) <;> (try (exfalso; first | omega | exact absurd h (by decide))))
    | (with_reducible first | refine AW.skip ?_ | refine AW.exit ?_ | refine AW.ret ?_ | refine thenS_r ?_ | refine thenS_e ?_ | refine inBlockS_r ?_ | refine inBlockS_e ?_ | refine inBlockS_e2 rfl ?_ | refine exitQ_r ?_ | refine exitQ_n ?_)
    | (refine sub_auto ?_; refine subQ ?_)
    | (with_reducible refine And.intro ?_ ?_)
    | (subst hK)
    | exact trivial
  all_goals (try (intros; assumption))
  all_goals (try refine boolG ?_)
  all_goals (try replace hp := boolH hp)
  all_goals (try replace hi := boolH hi)
  all_goals (try replace hj := boolH hj)
  all_goals (try replace hk := boolH hk)
  all_goals (try (intros; trivial))
  all_goals (try (intros; omega))
  all_goals (try (rw [w64 (by omega) (by omega)]; first | done | omega))
  all_goals first
    | rfl
end
noncomputable def cfg154 : Cfg := ⟨Tryz.prog, 29, tab163, (fun _ _ => []), [], (fun _ => none)⟩
theorem cfg154_l : cfg154.pins = [] ∧ cfg154.P = Tryz.prog ∧ cfg154.N = 29 ∧ cfg154.ti 163 = none ∧ cfg154.T 163 = e163 ∧ cfg154.mv 163 = (fun _ => []) := ⟨rfl, rfl, rfl, rfl, rfl, rfl⟩
section
attribute [local go_sem] cfg154_l e163
attribute [local go_sem] encField decField etaField zfField encFmt decFmt etaFmt zfFmt encKField decKField etaKField zfKField encFile decFile etaFile zfFile encRec decRec etaRec zfRec getDz_Field getDz_KField getDz_Rec dL_Field dL_KField dL_Rec dM_Field dM_KField dM_Rec ceqField ceqKField ceqRec List.length_take decL_nil Int.toNat_zero Nat.sub_zero List.drop_zero
attribute [local go_sem ←] List.map_take List.map_drop
theorem con154 (hC : COk cfg154) (f : Fmt) (name : ByteArray) (hp : f.fields.length ≤ 1000000) : Sem Tryz.prog 154 [.d (encFmt f), .d (.s name)] (.tup [.d (.i .i64 (atF f.fields name).1), .d (.i .i64 (atF f.fields name).2.1), .d (.b (atF f.fields name).2.2)]) := by
  refine sem_of_awR (C := cfg154) (rs := [.tmp 4, .tmp 5, .tmp 6]) (fun _ => []) Tryz.func154 rfl rfl rfl rfl rfl rfl ?_
  refine inQ ?_
  repeat' first
    | (with_reducible first | refine thenS_n ?_ | refine inBlockS_n ?_ | refine AW.seq ?_ | refine AW.block ?_)
    | (with_reducible first | (refine AW.runK hC ?_; intro K hK) | (refine AW.drawK hC (by kernel_rfl) ?_; intro K hK))
    | ((with_reducible first | refine erun_g ?_ | refine edraw_g ?_ | refine exitS_g ?_); refine siQ ?_; (try simp (disch := omega) only [w64, wu8]))
    | (with_reducible refine hCheck_g (by kernel_rfl) ?_)
    | ((first | (refine AW.cond rfl (fun h => ?_) (fun h => ?_)) | (refine AW.cond_ub rfl (fun h => ?_) ?_) | (refine AW.cond_nb rfl ?_ (fun h => ?_))) <;> (try replace h := boolH h) <;> (try (exfalso; first | omega | exact absurd h (by decide))))
    | (with_reducible first | refine AW.skip ?_ | refine AW.exit ?_ | refine AW.ret ?_ | refine thenS_r ?_ | refine thenS_e ?_ | refine inBlockS_r ?_ | refine inBlockS_e ?_ | refine inBlockS_e2 rfl ?_ | refine exitQ_r ?_ | refine exitQ_n ?_)
    | (refine AW.loopN 3 rfl (ι := Nat) (fun i => mkS [(1, V.d (.s name)), (7, V.d (.i .i64 (offTo f.fields i))), (11, V.d (.sl 4 (f.fields.map encField))), (12, V.d (.i .i64 (f.fields.length : Int))), (13, V.d (.i .i64 (i : Int)))] ([])) (fun i => i ≤ f.fields.length ∧ idxF (f.fields.take i) name = none) (fun i => f.fields.length - i) (0) ?_ ?_ (fun i hi => ?_) <;> (try dsimp only) <;> (try dsimp only at hi))
    | (refine LoopNext.mk1 3 (i + 1) ?_ ?_ ?_ <;> (try dsimp only))
    | (refine sub_auto ?_; refine subQ ?_)
    | (with_reducible refine And.intro ?_ ?_)
    | (subst hK)
    | exact trivial
  all_goals (try (intros; assumption))
  all_goals (try refine boolG ?_)
  all_goals (try replace hp := boolH hp)
  all_goals (try replace hi := boolH hi)
  all_goals (try replace hj := boolH hj)
  all_goals (try replace hk := boolH hk)
  all_goals (try (intros; trivial))
  all_goals (try (intros; omega))
  all_goals (try (rw [w64 (by omega) (by omega)]; first | done | omega))
  all_goals (try have O1 := offTo_ok f.fields i)
  all_goals (try have W1 := widthF_ok (f.fields.getD i zField))
  all_goals clear hC
  all_goals first
    | rfl
    | (rw [atF_yes hi.2 (by omega) (by assumption)]; done)
    | exact idxF_step hi.2 (by omega) (by assumption)
    | (rw [atF_no hi.2 (by omega)]; done)
    | (rw [offTo, w64 (by omega) (by omega)]; done)
end
noncomputable def cfg164 : Cfg := ⟨Tryz.prog, 19, tab154, (fun _ _ => []), [], (fun _ => none)⟩
theorem cfg164_l : cfg164.pins = [] ∧ cfg164.P = Tryz.prog ∧ cfg164.N = 19 ∧ cfg164.ti 163 = none ∧ cfg164.T 163 = e163 ∧ cfg164.mv 163 = (fun _ => []) := ⟨rfl, rfl, rfl, rfl, rfl, rfl⟩
section
attribute [local go_sem] cfg164_l e163
attribute [local go_sem] encField decField etaField zfField encFmt decFmt etaFmt zfFmt encKField decKField etaKField zfKField encFile decFile etaFile zfFile encRec decRec etaRec zfRec getDz_Field getDz_KField getDz_Rec dL_Field dL_KField dL_Rec dM_Field dM_KField dM_Rec ceqField ceqKField ceqRec List.length_take decL_nil Int.toNat_zero Nat.sub_zero List.drop_zero
attribute [local go_sem ←] List.map_take List.map_drop
theorem con164 (hC : COk cfg164) (f : Fmt) (hp : f.fields.length ≤ 1000000) : Sem Tryz.prog 164 [.d (encFmt f)] (.d (.i .i64 (sizeF f))) := by
  refine sem_of_awR (C := cfg164) (rs := [.tmp 2]) (fun _ => []) Tryz.func164 rfl rfl rfl rfl rfl rfl ?_
  refine inQ ?_
  repeat' first
    | (with_reducible first | refine thenS_n ?_ | refine inBlockS_n ?_ | refine AW.seq ?_ | refine AW.block ?_)
    | (with_reducible first | (refine AW.runK hC ?_; intro K hK) | (refine AW.drawK hC (by kernel_rfl) ?_; intro K hK))
    | ((with_reducible first | refine erun_g ?_ | refine edraw_g ?_ | refine exitS_g ?_); refine siQ ?_; (try simp (disch := omega) only [w64, wu8]))
    | (with_reducible refine hCheck_g (by kernel_rfl) ?_)
    | ((first | (refine AW.cond rfl (fun h => ?_) (fun h => ?_)) | (refine AW.cond_ub rfl (fun h => ?_) ?_) | (refine AW.cond_nb rfl ?_ (fun h => ?_))) <;> (try replace h := boolH h) <;> (try (exfalso; first | omega | exact absurd h (by decide))))
    | (with_reducible first | refine AW.skip ?_ | refine AW.exit ?_ | refine AW.ret ?_ | refine thenS_r ?_ | refine thenS_e ?_ | refine inBlockS_r ?_ | refine inBlockS_e ?_ | refine inBlockS_e2 rfl ?_ | refine exitQ_r ?_ | refine exitQ_n ?_)
    | (refine AW.loopN 3 rfl (ι := Nat) (fun i => mkS [(3, V.d (.i .i64 (offTo f.fields i))), (7, V.d (.sl 4 (f.fields.map encField))), (8, V.d (.i .i64 (f.fields.length : Int))), (9, V.d (.i .i64 (i : Int)))] ([])) (fun i => i ≤ f.fields.length) (fun i => f.fields.length - i) (0) ?_ ?_ (fun i hi => ?_) <;> (try dsimp only) <;> (try dsimp only at hi))
    | (refine LoopNext.mk1 3 (i + 1) ?_ ?_ ?_ <;> (try dsimp only))
    | (refine sub_auto ?_; refine subQ ?_)
    | (with_reducible refine And.intro ?_ ?_)
    | (subst hK)
    | exact trivial
  all_goals (try (intros; assumption))
  all_goals (try refine boolG ?_)
  all_goals (try replace hp := boolH hp)
  all_goals (try replace hi := boolH hi)
  all_goals (try replace hj := boolH hj)
  all_goals (try replace hk := boolH hk)
  all_goals (try (intros; trivial))
  all_goals (try (intros; omega))
  all_goals (try (rw [w64 (by omega) (by omega)]; first | done | omega))
  all_goals (try have O1 := offTo_ok f.fields i)
  all_goals (try have W1 := widthF_ok (f.fields.getD i zField))
  all_goals clear hC
  all_goals first
    | rfl
    | (rw [offTo, w64 (by omega) (by omega)]; done)
    | (rw [sizeF, show i = f.fields.length by omega]; done)
end
noncomputable def cfg162 : Cfg := ⟨Tryz.prog, 81, tab164, (fun _ _ => []), [], (fun _ => none)⟩
theorem cfg162_l : cfg162.pins = [] ∧ cfg162.P = Tryz.prog ∧ cfg162.N = 81 ∧ cfg162.ti 117 = none ∧ cfg162.T 117 = e117 ∧ cfg162.mv 117 = (fun _ => []) ∧ cfg162.ti 119 = none ∧ cfg162.T 119 = e119 ∧ cfg162.mv 119 = (fun _ => []) ∧ cfg162.ti 152 = none ∧ cfg162.T 152 = e152 ∧ cfg162.mv 152 = (fun _ => []) ∧ cfg162.ti 154 = none ∧ cfg162.T 154 = e154 ∧ cfg162.mv 154 = (fun _ => []) ∧ cfg162.ti 163 = none ∧ cfg162.T 163 = e163 ∧ cfg162.mv 163 = (fun _ => []) ∧ cfg162.ti 172 = none ∧ cfg162.T 172 = e172 ∧ cfg162.mv 172 = (fun _ => []) := ⟨rfl, rfl, rfl, rfl, rfl, rfl, rfl, rfl, rfl, rfl, rfl, rfl, rfl, rfl, rfl, rfl, rfl, rfl, rfl, rfl, rfl⟩
section
attribute [local go_sem] cfg162_l e117 e119 e152 e154 e163 e172
attribute [local go_sem] encField decField etaField zfField encFmt decFmt etaFmt zfFmt encKField decKField etaKField zfKField encFile decFile etaFile zfFile encRec decRec etaRec zfRec getDz_Field getDz_KField getDz_Rec dL_Field dL_KField dL_Rec dM_Field dM_KField dM_Rec ceqField ceqKField ceqRec List.length_take decL_nil Int.toNat_zero Nat.sub_zero List.drop_zero
attribute [local go_sem ←] List.map_take List.map_drop
theorem con162 (hC : COk cfg162) (f : Fmt) (hp : f.fields.length ≤ 1000000) : Sem Tryz.prog 162 [.d (encFmt f)] (.tup [.d (.i .i64 (fmtErr f).1), .d (.i .i64 (fmtErr f).2)]) := by
  refine sem_of_awR (C := cfg162) (rs := [.tmp 2, .tmp 3]) (fun _ => []) Tryz.func162 rfl rfl rfl rfl rfl rfl ?_
  refine inQ ?_
  repeat' first
    | (with_reducible first | refine thenS_n ?_ | refine inBlockS_n ?_ | refine AW.seq ?_ | refine AW.block ?_)
    | (with_reducible first | (refine AW.runK hC ?_; intro K hK) | (refine AW.drawK hC (by kernel_rfl) ?_; intro K hK))
    | ((with_reducible first | refine erun_g ?_ | refine edraw_g ?_ | refine exitS_g ?_); refine siQ ?_; (try simp (disch := omega) only [w64, wu8]))
    | (with_reducible refine hCheck_g (by kernel_rfl) ?_)
    | ((first | (refine AW.cond rfl (fun h => ?_) (fun h => ?_)) | (refine AW.cond_ub rfl (fun h => ?_) ?_) | (refine AW.cond_nb rfl ?_ (fun h => ?_))) <;> (try replace h := boolH h) <;> (try (exfalso; first | omega | exact absurd h (by decide))))
    | (with_reducible first | refine AW.skip ?_ | refine AW.exit ?_ | refine AW.ret ?_ | refine thenS_r ?_ | refine thenS_e ?_ | refine inBlockS_r ?_ | refine inBlockS_e ?_ | refine inBlockS_e2 rfl ?_ | refine exitQ_r ?_ | refine exitQ_n ?_)
    | (refine AW.loopN 6 rfl (ι := Nat) (fun i => mkS [(1, V.ptr 16 0), (5, V.d (.i .i64 (offTo f.fields i))), (33, V.d (.sl 4 (f.fields.map encField))), (34, V.d (.i .i64 (f.fields.length : Int))), (35, V.d (.i .i64 (i : Int)))] ([(16, .live (.box 74 [.d (.s f.name), .d (.sl 4 (f.fields.map encField))]))])) (fun i => i ≤ f.fields.length ∧ (isName f.name = true ∧ 1 ≤ f.fields.length ∧ f.fields.length ≤ 20) ∧ ∀ j, j < i → fieldE f.fields j = 0) (fun i => f.fields.length - i) (0) ?_ ?_ (fun i hi => ?_) <;> (try dsimp only) <;> (try dsimp only at hi))
    | (refine LoopNext.mk1 6 (i + 1) ?_ ?_ ?_ <;> (try dsimp only))
    | (refine sub_auto ?_; refine subQ ?_)
    | (with_reducible refine And.intro ?_ ?_)
    | (subst hK)
    | exact trivial
  all_goals (try (intros; assumption))
  all_goals (try refine boolG ?_)
  all_goals (try replace hp := boolH hp)
  all_goals (try replace hi := boolH hi)
  all_goals (try replace hj := boolH hj)
  all_goals (try replace hk := boolH hk)
  all_goals (try (intros; trivial))
  all_goals (try (intros; omega))
  all_goals (try (rw [w64 (by omega) (by omega)]; first | done | omega))
  all_goals (try have O1 := offTo_ok f.fields i)
  all_goals (try have W1 := widthF_ok (f.fields.getD i zField))
  all_goals clear hC
  all_goals (try simp only [head_eq, fld_eq] at *)
  all_goals first
    | rfl
    | (rw [fmt_head (by assumption)]; done)
    | (rw [fmt_head (by assumption)]; rfl)
    | exact (head_ok (by assumption)).1
    | exact (head_ok (by assumption)).2.1
    | exact (head_ok (by assumption)).2.2
    | exact hi.2.1.1
    | exact hi.2.1.2.1
    | exact hi.2.1.2.2
    | (rw [fmt_bad hi.2.1 hi.2.2 (by omega) (by assumption)]; done)
    | exact all_step hi.2.2 (by assumption)
    | (rw [fmt_end hi.2.1 hi.2.2 (by omega)]; done)
    | (rw [fmt_end hi.2.1 hi.2.2 (by omega), show f.fields.length = i by omega]; done)
    | (intro d hd; first | (subst hd; exact ⟨rfl, by simp [D.cells, D.one]⟩) | (rcases hd with rfl | rfl <;> exact ⟨rfl, by simp [D.cells, D.one]⟩) | (rcases hd with rfl | rfl | rfl <;> exact ⟨rfl, by simp [D.cells, D.one]⟩) | (rcases hd with rfl | rfl | rfl | rfl <;> exact ⟨rfl, by simp [D.cells, D.one]⟩))
    | (rw [offTo, w64 (by omega) (by omega)]; done)
end
noncomputable def cfg153 : Cfg := ⟨Tryz.prog, 11, tab162, (fun _ _ => []), [], (fun _ => none)⟩
theorem cfg153_l : cfg153.pins = [] ∧ cfg153.P = Tryz.prog ∧ cfg153.N = 11 ∧ cfg153.ti 162 = none ∧ cfg153.T 162 = e162 ∧ cfg153.mv 162 = (fun _ => []) := ⟨rfl, rfl, rfl, rfl, rfl, rfl⟩
section
attribute [local go_sem] cfg153_l e162
attribute [local go_sem] encField decField etaField zfField encFmt decFmt etaFmt zfFmt encKField decKField etaKField zfKField encFile decFile etaFile zfFile encRec decRec etaRec zfRec getDz_Field getDz_KField getDz_Rec dL_Field dL_KField dL_Rec dM_Field dM_KField dM_Rec ceqField ceqKField ceqRec List.length_take decL_nil Int.toNat_zero Nat.sub_zero List.drop_zero
attribute [local go_sem ←] List.map_take List.map_drop
theorem con153 (hC : COk cfg153) (f : Fmt) (hp : f.fields.length ≤ 1000000) : Sem Tryz.prog 153 [.d (encFmt f)] (.d (.i .i64 (fmtErr f).2)) := by
  refine sem_of_awR (C := cfg153) (rs := [.tmp 2]) (fun _ => []) Tryz.func153 rfl rfl rfl rfl rfl rfl ?_
  refine inQ ?_
  repeat' first
    | (with_reducible first | refine thenS_n ?_ | refine inBlockS_n ?_ | refine AW.seq ?_ | refine AW.block ?_)
    | (with_reducible first | (refine AW.runK hC ?_; intro K hK) | (refine AW.drawK hC (by kernel_rfl) ?_; intro K hK))
    | ((with_reducible first | refine erun_g ?_ | refine edraw_g ?_ | refine exitS_g ?_); refine siQ ?_; (try simp (disch := omega) only [w64, wu8]))
    | (with_reducible refine hCheck_g (by kernel_rfl) ?_)
    | ((first | (refine AW.cond rfl (fun h => ?_) (fun h => ?_)) | (refine AW.cond_ub rfl (fun h => ?_) ?_) | (refine AW.cond_nb rfl ?_ (fun h => ?_))) <;> (try replace h := boolH h) <;> (try (exfalso; first | omega | exact absurd h (by decide))))
    | (with_reducible first | refine AW.skip ?_ | refine AW.exit ?_ | refine AW.ret ?_ | refine thenS_r ?_ | refine thenS_e ?_ | refine inBlockS_r ?_ | refine inBlockS_e ?_ | refine inBlockS_e2 rfl ?_ | refine exitQ_r ?_ | refine exitQ_n ?_)
    | (refine sub_auto ?_; refine subQ ?_)
    | (with_reducible refine And.intro ?_ ?_)
    | (subst hK)
    | exact trivial
  all_goals (try (intros; assumption))
  all_goals (try refine boolG ?_)
  all_goals (try replace hp := boolH hp)
  all_goals (try replace hi := boolH hi)
  all_goals (try replace hj := boolH hj)
  all_goals (try replace hk := boolH hk)
  all_goals (try (intros; trivial))
  all_goals (try (intros; omega))
  all_goals (try (rw [w64 (by omega) (by omega)]; first | done | omega))
end
noncomputable def cfg136 : Cfg := ⟨Tryz.prog, 66, tab153, (fun _ _ => []), [], (fun _ => none)⟩
theorem cfg136_l : cfg136.pins = [] ∧ cfg136.P = Tryz.prog ∧ cfg136.N = 66 ∧ cfg136.ti 117 = none ∧ cfg136.T 117 = e117 ∧ cfg136.mv 117 = (fun _ => []) ∧ cfg136.ti 119 = none ∧ cfg136.T 119 = e119 ∧ cfg136.mv 119 = (fun _ => []) ∧ cfg136.ti 152 = none ∧ cfg136.T 152 = e152 ∧ cfg136.mv 152 = (fun _ => []) ∧ cfg136.ti 153 = none ∧ cfg136.T 153 = e153 ∧ cfg136.mv 153 = (fun _ => []) ∧ cfg136.ti 154 = none ∧ cfg136.T 154 = e154 ∧ cfg136.mv 154 = (fun _ => []) := ⟨rfl, rfl, rfl, rfl, rfl, rfl, rfl, rfl, rfl, rfl, rfl, rfl, rfl, rfl, rfl, rfl, rfl, rfl⟩
section
attribute [local go_sem] cfg136_l e117 e119 e152 e153 e154
attribute [local go_sem] encField decField etaField zfField encFmt decFmt etaFmt zfFmt encKField decKField etaKField zfKField encFile decFile etaFile zfFile encRec decRec etaRec zfRec getDz_Field getDz_KField getDz_Rec dL_Field dL_KField dL_Rec dM_Field dM_KField dM_Rec ceqField ceqKField ceqRec List.length_take decL_nil Int.toNat_zero Nat.sub_zero List.drop_zero isKs rhoVs_keys vss_keys
attribute [local go_sem ←] List.map_take List.map_drop
attribute [local go_sem ↓] look_any
theorem con136 (hC : COk cfg136) (f : File) (hp : f.format.fields.length ≤ 1000000 ∧ f.keys.length ≤ 1000000) : Sem Tryz.prog 136 [.d (encFile f)] (.tup [.d (.i .i64 (fileErr f).1), .d (.i .i64 (fileErr f).2)]) := by
  refine sem_of_awR (C := cfg136) (rs := [.tmp 2, .tmp 3]) (fun _ => []) Tryz.func136 rfl rfl rfl rfl rfl rfl ?_
  refine inQ ?_
  repeat' first
    | (with_reducible first | refine thenS_n ?_ | refine inBlockS_n ?_ | refine AW.seq ?_ | refine AW.block ?_)
    | (refine AW.atR 12 rfl ?_; have hE : keyE f i = 0 := (by rw [← key_eq]; exact h); have hk := keys_snoc (f := f) (i := i) (by omega) hE; have hv := keysV_snoc (f := f) (i := i) (by omega) hE; have hx := keyIdx_none (keyE_ok hE); have hy := keyVs_snoc2 (f := f) (i := i) (by omega); have hz := keyKs_snoc2 (f := f) (i := i) (by omega))
    | (with_reducible first | (refine AWh.runK hC ?_; intro K hK) | (refine AWh.drawK hC (by kernel_rfl) ?_; intro K hK))
    | (with_reducible first | (refine AW.runK hC ?_; intro K hK) | (refine AW.drawK hC (by kernel_rfl) ?_; intro K hK))
    | ((with_reducible first | refine erun_g ?_ | refine edraw_g ?_ | refine exitS_g ?_); (first | (simp (maxSteps := 1000000) only [go_sem, ↓reduceIte, reduceCtorEq, Nat.reduceEqDiff, Nat.reduceLT, Nat.reduceLeDiff, Nat.reduceMul, Nat.reduceAdd, Nat.reduceSub, reduceDIte, Nat.reduceBEq, Nat.reduceBNe, hk, hv, hx, hy, hz]) | (refine siQ ?_)); (try simp (disch := omega) only [w64, wu8]))
    | (with_reducible refine hCheck_g (by kernel_rfl) ?_)
    | ((first | (refine AW.cond rfl (fun h => ?_) (fun h => ?_)) | (refine AW.cond_ub rfl (fun h => ?_) ?_) | (refine AW.cond_nb rfl ?_ (fun h => ?_))) <;> (try replace h := boolH h) <;> (try (exfalso; first | omega | exact absurd h (by decide))))
    | (with_reducible first | refine AW.skip ?_ | refine AW.exit ?_ | refine AW.ret ?_ | refine thenS_r ?_ | refine thenS_e ?_ | refine inBlockS_r ?_ | refine inBlockS_e ?_ | refine inBlockS_e2 rfl ?_ | refine exitQ_r ?_ | refine exitQ_n ?_)
    | (refine AW.loopN 6 rfl (ι := Nat) (fun i => mkS [(1, V.ptr 16 0), (5, V.mref 80), (32, V.d (.sl 2 (f.keys.map encKField))), (33, V.d (.i .i64 (f.keys.length : Int))), (34, V.d (.i .i64 (i : Int)))] ([(16, .live (.box 77 [.d (.s f.name), .d (.s f.format.name), .d (.sl 4 (f.format.fields.map encField)), .d (.sl 2 (f.keys.map encKField)), .d (.b f.unique)])), (80, .live (.mp 197 ((f.keys.take i).map keyD) (keyVs (f.keys.take i))))])) (fun i => i ≤ f.keys.length ∧ (isName f.name = true ∧ (fmtErr f.format).2 = 0 ∧ f.keys.length ≤ 4) ∧ ∀ j, j < i → keyE f j = 0) (fun i => f.keys.length - i) (0) ?_ ?_ (fun i hi => ?_) <;> (try dsimp only) <;> (try dsimp only at hi))
    | (refine LoopNext.mk1 6 (i + 1) ?_ ?_ ?_ <;> (try dsimp only))
    | (refine sub_auto ?_; refine subQ ?_)
    | (with_reducible refine And.intro ?_ ?_)
    | (subst hK)
    | exact trivial
  all_goals (try (intros; assumption))
  all_goals (try refine boolG ?_)
  all_goals (try replace hp := boolH hp)
  all_goals (try replace hi := boolH hi)
  all_goals (try replace hj := boolH hj)
  all_goals (try replace hk := boolH hk)
  all_goals (try (intros; trivial))
  all_goals (try (intros; omega))
  all_goals (try (rw [w64 (by omega) (by omega)]; first | done | omega))
  all_goals clear hC
  all_goals (try simp only [fhead_eq, key_eq] at *)
  all_goals first
    | rfl
    | exact isKks _
    | exact sh1_keys _
    | (rw [file_head (by assumption)]; done)
    | (rw [file_head (by assumption)]; rfl)
    | exact (fhead_ok (by assumption)).1
    | exact (fhead_ok (by assumption)).2.1
    | exact (fhead_ok (by assumption)).2.2
    | exact hi.2.1.1
    | exact hi.2.1.2.1
    | exact hi.2.1.2.2
    | (rw [file_bad hi.2.1 hi.2.2 (by omega) (by assumption)]; done)
    | exact all_step hi.2.2 (by assumption)
    | (rw [file_end hi.2.1 hi.2.2 (by omega)]; done)
    | (rw [keys_snoc (by omega) (by assumption)]; exact dles_refl _)
    | (intro d hd; first | (subst hd; exact ⟨rfl, by simp [D.cells, D.one]⟩) | (rcases hd with rfl | rfl <;> exact ⟨rfl, by simp [D.cells, D.one]⟩) | (rcases hd with rfl | rfl | rfl <;> exact ⟨rfl, by simp [D.cells, D.one]⟩) | (rcases hd with rfl | rfl | rfl | rfl <;> exact ⟨rfl, by simp [D.cells, D.one]⟩))
end
noncomputable def cfg118 : Cfg := ⟨Tryz.prog, 11, tab136, (fun _ _ => []), [], (fun _ => none)⟩
theorem cfg118_l : cfg118.pins = [] ∧ cfg118.P = Tryz.prog ∧ cfg118.N = 11 ∧ cfg118.ti 136 = none ∧ cfg118.T 136 = e136 ∧ cfg118.mv 136 = (fun _ => []) := ⟨rfl, rfl, rfl, rfl, rfl, rfl⟩
section
attribute [local go_sem] cfg118_l e136
attribute [local go_sem] encField decField etaField zfField encFmt decFmt etaFmt zfFmt encKField decKField etaKField zfKField encFile decFile etaFile zfFile encRec decRec etaRec zfRec getDz_Field getDz_KField getDz_Rec dL_Field dL_KField dL_Rec dM_Field dM_KField dM_Rec ceqField ceqKField ceqRec List.length_take decL_nil Int.toNat_zero Nat.sub_zero List.drop_zero
attribute [local go_sem ←] List.map_take List.map_drop
theorem con118 (hC : COk cfg118) (f : File) (hp : f.format.fields.length ≤ 1000000 ∧ f.keys.length ≤ 1000000) : Sem Tryz.prog 118 [.d (encFile f)] (.d (.i .i64 (fileErr f).2)) := by
  refine sem_of_awR (C := cfg118) (rs := [.tmp 2]) (fun _ => []) Tryz.func118 rfl rfl rfl rfl rfl rfl ?_
  refine inQ ?_
  repeat' first
    | (with_reducible first | refine thenS_n ?_ | refine inBlockS_n ?_ | refine AW.seq ?_ | refine AW.block ?_)
    | (with_reducible first | (refine AW.runK hC ?_; intro K hK) | (refine AW.drawK hC (by kernel_rfl) ?_; intro K hK))
    | ((with_reducible first | refine erun_g ?_ | refine edraw_g ?_ | refine exitS_g ?_); refine siQ ?_; (try simp (disch := omega) only [w64, wu8]))
    | (with_reducible refine hCheck_g (by kernel_rfl) ?_)
    | ((first | (refine AW.cond rfl (fun h => ?_) (fun h => ?_)) | (refine AW.cond_ub rfl (fun h => ?_) ?_) | (refine AW.cond_nb rfl ?_ (fun h => ?_))) <;> (try replace h := boolH h) <;> (try (exfalso; first | omega | exact absurd h (by decide))))
    | (with_reducible first | refine AW.skip ?_ | refine AW.exit ?_ | refine AW.ret ?_ | refine thenS_r ?_ | refine thenS_e ?_ | refine inBlockS_r ?_ | refine inBlockS_e ?_ | refine inBlockS_e2 rfl ?_ | refine exitQ_r ?_ | refine exitQ_n ?_)
    | (refine sub_auto ?_; refine subQ ?_)
    | (with_reducible refine And.intro ?_ ?_)
    | (subst hK)
    | exact trivial
  all_goals (try (intros; assumption))
  all_goals (try refine boolG ?_)
  all_goals (try replace hp := boolH hp)
  all_goals (try replace hi := boolH hi)
  all_goals (try replace hj := boolH hj)
  all_goals (try replace hk := boolH hk)
  all_goals (try (intros; trivial))
  all_goals (try (intros; omega))
  all_goals (try (rw [w64 (by omega) (by omega)]; first | done | omega))
end
end Go.Ev
