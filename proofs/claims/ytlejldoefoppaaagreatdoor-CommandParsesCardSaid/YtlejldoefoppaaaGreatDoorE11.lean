/- Tools and contracts under the laws of this seat: DtT, DevRead, DevReadT37, DevRowX. -/
import Derived.Test.YtlejldoefoppaaaGreatDoorE07
import Derived.Test.YtlejldoefoppaaaGreatDoorE08
import Derived.Test.YtlejldoefoppaaaGreatDoorE09
import Derived.Test.YtlejldoefoppaaaGreatDoorE10
import Derived.Test.YtlejldoefoppaaaGreatDoorE02
import Derived.ProofKit
import Derived.ChangeArms
import Derived.Test.YtlejldoefoppaaaGreatDoorE00
import Derived.Test.YtlejldoefoppaaaGreatDoorE03
import Derived.Test.YtlejldoefoppaaaGreatDoorProg
import Derived.Handed
import Derived.Shelf.Vars
import Derived.KernelRfl
set_option linter.unusedVariables false
set_option linter.unusedSimpArgs false
namespace Go.Ev
open Go.Proofs Ty
set_option maxRecDepth 10000
set_option maxHeartbeats 4000000
theorem q4r : qdy Tryz.prog 127 := ⟨_, Tryz.func127, rfl, by kernel_rfl⟩
theorem q4s (args : List O) (p : Prop) (r : O) (h : e127 args = some (p, r)) (hp : p) : Sem Tryz.prog 127 args r := by
 unfold e127 at h; split at h
 ·cases h; exact qws hp.1 hp.2
 ·cases h
theorem qwy : TabOk Tryz.prog qru := Tad ((TabOk.nil _)) q4r q4s
theorem qwz : TabOk Tryz.prog qrv := Tad (f := 126) (e := e126) (qwy) ⟨_, Tryz.func126, rfl, rfl⟩ (fun args p r h hp => by
 unfold e126 at h; split at h
 ·cases h; exact q2x (q07 qwy follows) _
 ·cases h)
theorem qy2 : TabOk Tryz.prog quj := Tad (f := 96) (e := e96) (qwz) ⟨_, Tryz.func96, rfl, rfl⟩ (fun args p r h hp => by
 unfold e96 at h; split at h
 ·split at h
  ·rename_i h_r; cases h; exact (q33 (q07 qwz follows) _ _ hp).le ⟨qxu h_r, qck _, trivial⟩ (qbc _)
  ·cases h
 ·cases h)
theorem qy3 : TabOk Tryz.prog quk := Tad (f := 54) (e := e54) (qy2) ⟨_, Tryz.func54, rfl, rfl⟩ (fun args p r h hp => by
 unfold e54 at h; split at h
 ·split at h
  ·rename_i h_r; cases h; exact (q34 (q07 qy2 follows) _ _ _).le ⟨qb9 h_r, qck _, qck _, trivial⟩ (qbc _)
  ·cases h
 ·cases h)
theorem qy4 : TabOk Tryz.prog qul := Tad (f := 53) (e := e53) (qy3) ⟨_, Tryz.func53, rfl, rfl⟩ (fun args p r h hp => by
 unfold e53 at h; split at h
 ·split at h
  ·rename_i h_r; cases h; exact (q35 (q07 qy3 follows) _ hp).le ⟨qb9 h_r, trivial⟩ (qbc _)
  ·cases h
 ·cases h)
theorem qy5 : TabOk Tryz.prog qum := Tad (f := 95) (e := e95) (qy4) ⟨_, Tryz.func95, rfl, rfl⟩ (fun args p r h hp => by
 unfold e95 at h; split at h
 ·split at h
  ·rename_i h_r; cases h; exact (q36 (q07 qy4 follows) _ hp).le ⟨qb9 h_r, trivial⟩ (qbc _)
  ·cases h
 ·cases h)
theorem qy6 : TabOk Tryz.prog qun := Tad (f := 91) (e := e91) (qy5) ⟨_, Tryz.func91, rfl, rfl⟩ (fun args p r h hp => by
 unfold e91 at h; split at h
 ·cases h; exact q37 (q07 qy5 follows) _ _ _
 ·cases h)
theorem qy7 : TabOk Tryz.prog qup := Tad (f := 82) (e := e82) (qy6) ⟨_, Tryz.func82, rfl, rfl⟩ (fun args p r h hp => by
 unfold e82 at h; split at h
 ·cases h; exact q38 (q07 qy6 follows) _
 ·cases h)
theorem qy8 : TabOk Tryz.prog quq := Tad (f := 43) (e := e43) (qy7) ⟨_, Tryz.func43, rfl, rfl⟩ (fun args p r h hp => by
 unfold e43 at h; split at h
 ·cases h; exact q39 (q07 qy7 follows) _
 ·cases h)
theorem qy9 : TabOk Tryz.prog qur := Tad (f := 92) (e := e92) (qy8) ⟨_, Tryz.func92, rfl, rfl⟩ (fun args p r h hp => by
 unfold e92 at h; split at h
 ·cases h; exact q4a (q07 qy8 follows) _
 ·cases h)
theorem qza : TabOk Tryz.prog qus := Tad (f := 99) (e := e99) (qy9) ⟨_, Tryz.func99, rfl, rfl⟩ (fun args p r h hp => by
 unfold e99 at h; split at h
 ·cases h; exact q4b (q07 qy9 follows) _
 ·cases h)
theorem qzb : TabOk Tryz.prog qut := Tad (f := 48) (e := e48) (qza) ⟨_, Tryz.func48, rfl, rfl⟩ (fun args p r h hp => by
 unfold e48 at h; split at h
 ·cases h; exact q4c (q07 qza follows) _
 ·cases h)
theorem qzc : TabOk Tryz.prog quu := Tad (f := 87) (e := e87) (qzb) ⟨_, Tryz.func87, rfl, rfl⟩ (fun args p r h hp => by
 unfold e87 at h; split at h
 ·cases h; exact q4d (q07 qzb follows) _
 ·cases h)
theorem qzd : TabOk Tryz.prog quv := Tad (f := 51) (e := e51) (qzc) ⟨_, Tryz.func51, rfl, rfl⟩ (fun args p r h hp => by
 unfold e51 at h; split at h
 ·cases h; exact q4e (q07 qzc follows) _
 ·cases h)
theorem qze : TabOk Tryz.prog quw := Tad (f := 50) (e := e50) (qzd) ⟨_, Tryz.func50, rfl, rfl⟩ (fun args p r h hp => by
 unfold e50 at h; split at h
 ·split at h
  ·rename_i h_l; cases h; exact (q4f (q07 qzd follows) _ () hp).le ⟨qn5 q00c h_l, qck _, trivial⟩ (qbc _)
  ·cases h
 ·cases h)
theorem qw0 : TabOk Tryz.prog qrw := Tad (f := 128) (e := e128) (qze) ⟨_, Tryz.func128, rfl, rfl⟩ (fun args p r h hp => by
 unfold e128 at h; split at h
 ·split at h
  ·rename_i h_r; cases h; exact (q2y (q07 qze follows) _ hp).le ⟨qb9 h_r, trivial⟩ (qbc _)
  ·cases h
 ·cases h)
theorem qzf : TabOk Tryz.prog qux := Tad (f := 98) (e := e98) (qw0) ⟨_, Tryz.func98, rfl, rfl⟩ (fun args p r h hp => by
 unfold e98 at h; split at h
 ·split at h
  ·rename_i h_r; cases h; exact (q4g (q07 qw0 follows) _ _ hp).le ⟨qb9 h_r, qck _, trivial⟩ (qbc _)
  ·cases h
 ·cases h)
theorem qzg : TabOk Tryz.prog quy := Tad (f := 52) (e := e52) (qzf) ⟨_, Tryz.func52, rfl, rfl⟩ (fun args p r h hp => by
 unfold e52 at h; split at h
 ·split at h
  ·rename_i h_r; cases h; exact (q4h (q07 qzf follows) _ hp).le ⟨qb9 h_r, trivial⟩ (qbc _)
  ·cases h
 ·cases h)
theorem qzh : TabOk Tryz.prog quz := Tad (f := 97) (e := e97) (qzg) ⟨_, Tryz.func97, rfl, rfl⟩ (fun args p r h hp => by
 unfold e97 at h; split at h
 ·split at h
  ·rename_i h_r; cases h; exact (q4i (q07 qzg follows) _ hp).le ⟨qb9 h_r, trivial⟩ (qbc _)
  ·cases h
 ·cases h)
theorem qzi : TabOk Tryz.prog qu0 := Tad (f := 55) (e := e55) (qzh) ⟨_, Tryz.func55, rfl, rfl⟩ (fun args p r h hp => by
 unfold e55 at h; split at h
 ·split at h
  ·rename_i h_r; cases h; exact (q4j (q07 qzh follows) _ hp).le ⟨qb9 h_r, trivial⟩ (qbc _)
  ·cases h
 ·cases h)
theorem qzj : TabOk Tryz.prog qu1 := Tad (f := 18) (e := e18) (qzi) ⟨_, Tryz.func18, rfl, rfl⟩ (fun args p r h hp => by
 unfold e18 at h; split at h
 ·cases h; exact q4k (q07 qzi follows) _
 ·cases h)
theorem qzk : TabOk Tryz.prog qu2 := Tad (f := 59) (e := e59) (qzj) ⟨_, Tryz.func59, rfl, rfl⟩ (fun args p r h hp => by
 unfold e59 at h; split at h
 ·split at h
  ·rename_i h_r; cases h; exact (q4l (q07 qzj follows) _ _ _).le ⟨qb9 h_r, qck _, qck _, trivial⟩ (qbc _)
  ·cases h
 ·cases h)
theorem qzl : TabOk Tryz.prog qu3 := Tad (f := 56) (e := e56) (qzk) ⟨_, Tryz.func56, rfl, rfl⟩ (fun args p r h hp => by
 unfold e56 at h; split at h
 ·split at h
  ·rename_i h_r; cases h; exact (q4m (q07 qzk follows) _ hp).le ⟨qb9 h_r, trivial⟩ (qbc _)
  ·cases h
 ·cases h)
theorem q23 : TabOk Tryz.prog qww := Tad (f := 100) (e := e100) (qzl) ⟨_, Tryz.func100, rfl, rfl⟩ (fun args p r h hp => by
 unfold e100 at h; split at h
 ·cases h; exact q2z (q07 qzl follows) _
 ·cases h)
theorem en57 : qdy Tryz.prog 57 := ⟨_, Tryz.func57, rfl, by kernel_rfl⟩
theorem so57 (args : List O) (p : Prop) (r : O) (h : e57 args = some (p, r)) (hp : p) : Sem Tryz.prog 57 args r := by
 unfold e57 at h; split at h
 ·cases h; exact qyg hp.1 hp.2
 ·cases h
theorem qzm : TabOk Tryz.prog qu4 := Tad (q23) en57 so57
theorem qzn : TabOk Tryz.prog qu5 := Tad (f := 58) (e := e58) (qzm) ⟨_, Tryz.func58, rfl, rfl⟩ (fun args p r h hp => by
 unfold e58 at h; split at h
 ·split at h
  ·rename_i h_r; cases h; exact (q4n (q07 qzm follows) _ hp).le ⟨qb9 h_r, trivial⟩ (qbc _)
  ·cases h
 ·cases h)
theorem qw1 : TabOk Tryz.prog qrx := Tad (f := 102) (e := e102) (qzn) ⟨_, Tryz.func102, rfl, rfl⟩ (fun args p r h hp => by
 unfold e102 at h; split at h
 ·split at h
  ·rename_i h_r; cases h; exact (q20 (q07 qzn follows) _ hp).le ⟨qb9 h_r, trivial⟩ (qbc _)
  ·cases h
 ·cases h)
theorem qw2 : TabOk Tryz.prog qry := Tad (f := 101) (e := e101) (qw1) ⟨_, Tryz.func101, rfl, rfl⟩ (fun args p r h hp => by
 unfold e101 at h; split at h
 ·split at h
  ·rename_i h_r; cases h; exact (q21 (q07 qw1 follows) _ hp).le ⟨qb9 h_r, trivial⟩ (qbc _)
  ·cases h
 ·cases h)
theorem qzo : TabOk Tryz.prog qu6 := Tad (f := 60) (e := e60) (qw2) ⟨_, Tryz.func60, rfl, rfl⟩ (fun args p r h hp => by
 unfold e60 at h; split at h
 ·split at h
  ·rename_i h_r; cases h; exact (q4o (q07 qw2 follows) _ hp).le ⟨qb9 h_r, trivial⟩ (qbc _)
  ·cases h
 ·cases h)
theorem qzp : TabOk Tryz.prog qu7 := Tad (f := 19) (e := e19) (qzo) ⟨_, Tryz.func19, rfl, rfl⟩ (fun args p r h hp => by
 unfold e19 at h; split at h
 ·cases h; exact q4p (q07 qzo follows) _
 ·cases h)
theorem q4t : TabOk Tryz.prog qy0 := Tad (f := 20) (e := e20) (qzp) ⟨_, Tryz.func20, rfl, rfl⟩ (fun args p r h hp => by
 unfold e20 at h; split at h
 ·split at h
  ·rename_i h_a h_b; cases h; exact (q4q (q07 qzp follows) _ _ hp).le ⟨qmy h_a, qmy h_b, trivial⟩ (qbc _)
  ·cases h
 ·cases h)
theorem en13 : qdy Tryz.prog 13 := ⟨_, Tryz.func13, rfl, by kernel_rfl⟩
theorem so13 (args : List O) (p : Prop) (r : O) (h : e13 args = some (p, r)) (hp : p) : Sem Tryz.prog 13 args r := by
 unfold e13 at h; split at h
 ·cases h; exact qwu
 ·cases h
theorem q4u : TabOk Tryz.prog qy1 := Tad (q4t) en13 so13
end Go.Ev
namespace Go.Ev
open Go.ChangeShapes Go.WideShapes Go.ChangeAt Go.RowKit
section
variable {H : Type} {enc : TypeId × Value → H} {P : Program} {w : World} {sp : Nat → Bool} {held : Bool}
def RDs (w : World) (cs : List Value) (ds : List D) : Prop := cs.length = ds.length ∧ ∀ (j : Nat) (v : Value) (d : D), cs[j]? = some v → ds[j]? = some d → RD w (fun _ => False) v d ∧ d.one = true
theorem RDs.nil : RDs w [] [] := ⟨rfl, fun j v d h => by simp at h⟩
theorem RDs.one {v : Value} {d : D} (h : RD w (fun _ => False) v d) (h1 : d.one = true) : RDs w [v] [d] := ⟨rfl, fun j u e hj he => by
 match j with
 | 0 => simp at hj he; subst hj; subst he; exact ⟨h, h1⟩
 | j + 1 => simp at hj⟩
theorem RDs.append {a b : List Value} {x y : List D} (h : RDs w a x) (k : RDs w b y) : RDs w (a ++ b) (x ++ y) := by
 refine ⟨by rw [List.length_append, List.length_append, h.1, k.1], fun j v d hj hd => ?_⟩
 by_cases hl : j < a.length
 ·rw [List.getElem?_append_left hl] at hj
  rw [List.getElem?_append_left (by rw [← h.1]; exact hl)] at hd
  exact h.2 j v d hj hd
 ·rw [List.getElem?_append_right (by omega)] at hj
  rw [List.getElem?_append_right (by rw [← h.1]; omega)] at hd
  rw [h.1] at hj
  exact k.2 _ v d hj hd
theorem qsl {t : TypeId} (ht : P.underlying t = some .string) {fuel : Nat} {cs : List Value} {x : DataW H × List MemPlace} (h : DataW.trod enc P w 0 sp held fuel t cs = some x) :
 ∃ s : ByteArray, s.size ≤ maxLen ∧ RDs w cs [.s s] := by
 obtain ⟨n, rfl, _, hs⟩ := DataW.trod_string ht h
 exact ⟨n, hs, RDs.one (.s n) rfl⟩
theorem RDs.join {cs : List Value} {o n m : Nat} {a b : List D} (h : RDs w ((cs.drop o).take n) a) (k : RDs w (cs.drop m) b) (hm : o + n = m) : RDs w (cs.drop o) (a ++ b) := by
 subst hm
 have := RDs.append h k
 rwa [← List.drop_drop, List.take_append_drop] at this
theorem RDs.single {v : Value} {d : D} (h : RDs w [v] [d]) : RD w (fun _ => False) v d := (h.2 0 v d rfl rfl).1
end
theorem qw3 {P : Program} {f : FuncId} {ds : List D} {vs : Array Value} {w : World} (h : Sem P f (ds.map .d) (.d (.b true))) (hn : vs.size = ds.length)
 (hr : ∀ (j : Nat) (v : Value) (d : D), vs[j]? = some v → ds[j]? = some d → RD w (fun _ => False) v d) (hgi : GI w (fun _ => False)) :
 Calls P f vs w fun e w' => e = .returned (.bool true) ∧ Below w.heap.size w w' := by
 refine Calls.mono (h w vs (fun _ => False) [] (fun _ hf => hf.elim) (fun i j b hi => by simp at hi) (fun _ _ hf => hf) ⟨by simpa using hn, List.replicate ds.length [], by simp, by simp, fun j v o q hv ho hq => ?_⟩ (hgi.mono fun b hb => hb.elim id fun k => by unfold Blk at k; simp at k)) fun e w' ⟨v, u, os', he, hret, hro, _, _, hfr⟩ => ?_
 ·rw [List.getElem?_replicate] at hq
  split at hq
  ·cases hq
   rw [List.getElem?_map, Option.map_eq_some_iff] at ho
   obtain ⟨d, hd, rfl⟩ := ho
   exact .d v d ((hr j v d hv hd).mono fun b hb => by
    rcases hb with hb | hb
    ·exact hb
    ·unfold Blk at hb; simp at hb)
  ·cases hq
 ·subst he
  have hb : ∀ (ds : List D) (vs : List Value), q06 (ds.map O.d) vs = [] := fun ds => by
   induction ds with
   | nil => intro vs; cases vs <;> rfl
   | cons d ds ih => intro vs; cases vs with
     | nil => rfl
     | cons v vs => exact ih vs
  unfold Ret at hret
  rw [hb] at hret
  simp only at hret
  subst hret
  have hv : u = .bool true := by
   cases hro with
   | d _ _ h => cases h; rfl
  subst hv
  exact ⟨rfl, hfr.os, hfr.tape, hfr.output, hfr.ext.size, fun k hk => hfr.ext.same k hk (by unfold Blk; simp)⟩
end Go.Ev
namespace Go.Ev
open Go.ChangeShapes Go.WideShapes Go.ChangeAt Go.RowKit Go.Proofs
section
variable {H : Type} {enc : TypeId × Value → H} {P : Program} {w : World} {sp : Nat → Bool} {held : Bool}
theorem rdS {t : TypeId} (ht : P.underlying t = some .string) {fuel : Nat} {cs : List Value} {x : DataW H × List MemPlace} (h : DataW.trod enc P w 0 sp held fuel t cs = some x) : ∃ n : ByteArray, True ∧ RDs w cs [.s n] :=
 let ⟨n, _, h⟩ := qsl ht h; ⟨n, trivial, h⟩
end
end Go.Ev
namespace Go
variable {H : Type} {enc : TypeId × Value → H}
theorem qk0 {a : Assume} {C : Checked} {os : Os} {f : FuncId} {fn : Func} {s : ChangeSpec} {conds : List PathCond} {apart fresh handsOn again : Bool} {X : World → Array Value → Prop}
 (hX : ∀ (w w' : World) (args : Array Value), w.heap = w'.heap → X w args → X w' args)
 (own : ownKnob C.prog.godebug = none) (started : os.Started) (noInit : C.prog.inits.idxOf? f = none) (hfn : C.prog.funcs[f]? = some fn)
 (witness : ∃ (w : World) (tape : Tape) (i : Input), w.os = os ∧ (w.forCall tape i).Shaped C.prog ∧ i.vars = [] ∧ Input.okWide C.prog (w.forCall tape i) .any w.heap.size f i ∧
   ((s.pre enc C.prog fn conds apart (w.forCall tape i).memory i.args ∧ X (w.forCall tape i).memory i.args) ∧ sizedMet enc C.prog fn (OpenSpec.ofChange s) apart (w.forCall tape i).memory i.args) ∧ a.holds C.prog (lone (Frame.enter C.prog f i.args .normal) [] (w.forCall tape i)))
 (contract : ∀ (W : World) (base : Nat) (args : Array Value) (ds gs : List (DataW H)) (before : List MemPlace),
   (∀ (j : Nat) t v, fn.params[j]? = some t → args[j]? = some v → Value.okWide C.prog W .any base t v) →
   DataW.Whole enc C.prog fn.params.toList s.vars apart W args.toList ds gs before → X W args → W.ShapedOpen C.prog →
   Calls C.prog f args W fun e W' => ∃ v, e = .returned v ∧ s.post enc C.prog fn apart fresh handsOn again W args v W') :
 ReturnsInHanded a C os f .any (fun w args => (s.pre enc C.prog fn conds apart w args ∧ X w args) ∧ sizedMet enc C.prog fn (OpenSpec.ofChange s) apart w args) (s.post enc C.prog fn apart fresh handsOn again) := by
 refine returnsInHanded_of_calls own started noInit witness ?_
 intro w tape i _ shape _ ok pre _
 obtain ⟨_, _, _, fn', g, _, _, _, _, val⟩ := ok
 obtain rfl : fn' = fn := Option.some.inj (g.symm.trans hfn)
 obtain ⟨⟨⟨ds, gs, before, k, _⟩, x⟩, _⟩ := pre
 refine Calls.mono (contract (w.forCall tape i) w.heap.size i.args ds gs before val (DataW.Whole.of_heap (w' := w.forCall tape i) (by rfl) k) (hX _ _ _ (by rfl) x) shape) ?_
 rintro _ W' ⟨v, rfl, h⟩
 exact ChangeSpec.post_blind h
end Go
namespace Go.Ev
open Go.Proofs
theorem qu8 (w : World) (h : w.ShapedOpen Tryz.prog) : qh4 w :=
 cell_of_shapedOpen_int (g := 1) (t := 3) (zero := #[.int .i64 0]) h (of_decide_eq_true (by kernel_rfl)) (by kernel_rfl) rfl (by kernel_rfl) (by kernel_rfl) (by kernel_rfl)
theorem gi37 (w : World) (h : w.ShapedOpen Tryz.prog) : GI w (fun _ => False) := ⟨qu8 w h, fun _ _ h => h⟩
end Go.Ev
