/- Tools and contracts under the laws of this seat: DevEvKs. -/
import Derived.Test.YtblpebplbdoneaaGreatE04
import Derived.Maps.OwnSet
import Derived.Maps.Range
import Derived.Lib.SlKeysI
import Derived.Laws.AppendOwn
set_option linter.unusedVariables false
set_option linter.unusedSimpArgs false
namespace Go.Ev
open Go.Maps Go.RowKit Go.Proofs Go.MapKept
open Go.WideElems (Fit rd rg)
theorem qbgs {M : Nat → Prop} {w w' : World} (h : Below w.heap.size w w') : Fr M w w' :=
 ⟨⟨h.size, fun b hb _ => h.block b hb, fun b cs t hc => ⟨cs, (h.block b (Array.getElem?_eq_some_iff.1 hc).1).trans hc, rfl⟩⟩, h.os, h.tape, h.output⟩
section
variable {C : Cfg} {E : Env} {bt : Nat → Option Nat} {s : St} {a : Act} {w w' : World}
theorem Rel.below (h : Rel C E bt s a w) (hb : Below w.heap.size w w') : Rel C E bt s a w' := by
 have hfr := fun M => qbgs (M := M) hb
 exact ⟨h.df, h.sz, fun i v hv => (h.slots i v hv).ext (hfr _).ext (fun _ _ hx => hx) (fun _ _ => rfl) (fun _ hf => hf), fun id o' hid => (h.objs id o' hid).ext (hfr _).ext (fun _ _ hx => hx) (fun _ _ => rfl) (fun _ hf => hf) (qhu hid) (fun bk hbk => hb.block bk ((h.objs id o' hid).lt hbk)), h.inj, h.own, h.nx, h.fr.trans (hfr _), h.pin⟩
end
def qww (P : Program) (t : TypeId) (w : World) (mb : Option Nat) (ks : List Int) : Prop :=
 (mb = none ∧ ks = []) ∨ ∃ (b nn : Nat) (D0 : DataW Unit), mb = some b ∧ w.ownsMap P t (fun _ => some (.nil, [])) b nn D0 ∧ (intKeys D0).Perm ks ∧ Maps.size D0 = ks.length
theorem keys_in {P : Program} {t : TypeId} (ht : P.underlying t = some (.int .i64)) {w : World} {X : Nat → Prop} {v : Value} {ks : List Int} {xs : List D} (h : RD w X v (.mp (ks.map (D.i .i64)) xs)) (hw : ∀ k ∈ ks, (Lit.int .i64 k).wf = true) (hl : ks.length ≤ maxLen) : ∃ mb, v = .map mb ∧ qww P t w mb ks := by
 generalize hkk : ks.map (D.i .i64) = kk at h
 cases h with
 | mp0 =>
   have : ks = [] := by simpa using hkk
   exact ⟨none, rfl, .inl ⟨rfl, this⟩⟩
 | mp bk es clock _ _ hX hb hs hk hv h1 h2 =>
   subst hkk
   rw [List.length_map] at hk
   have key : ∀ j (hj : j < es.size), es[j].key = .int .i64 (ks[j]'(by omega)) := fun j hj => by
    have := h1 j es[j] (.i .i64 (ks[j]'(by omega))) (by simp [hj]) (by rw [List.getElem?_map, List.getElem?_eq_getElem (by omega)]; rfl)
    generalize es[j].key = q at this
    cases this; rfl
   have hrd : ∀ j (hj : j < es.size), rd (H := Unit) P t (fun _ => some (.nil, [])) es[j] = some (.int .i64 (ks[j]'(by omega)), .nil) := fun j hj => by
    have hwf := hw (ks[j]'(by omega)) (List.getElem_mem _)
    unfold rd
    rw [key j hj]
    simp [keyOf, ht, mapKey, hwf]
   have hrg : es.toList.map (rg (H := Unit) P t (fun _ => some (.nil, []))) = ks.map fun k => (Lit.int .i64 k, .nil) := by
    apply List.ext_getElem
    ·simp [hk]
    ·intro j h3 h4
     have hj : j < es.size := by simpa using h3
     simp only [List.getElem_map, Array.getElem_toList]
     unfold rg
     rw [hrd j hj]; rfl
   refine ⟨some bk, rfl, .inr ⟨bk, es.size, .map ((es.toList.map (rg (H := Unit) P t (fun _ => some (.nil, [])))).foldr DataW.insert []), rfl, ⟨es, clock, hb, ⟨by omega, hs, fun x hx => ?_⟩, Nat.le_refl _, rfl⟩, ?_, ?_⟩⟩
   ·obtain ⟨j, hj, rfl⟩ := List.getElem_of_mem hx
    have hj : j < es.size := by simpa using hj
    exact ⟨_, by rw [Array.getElem_toList]; exact hrd j hj⟩
   ·rw [hrg]
    show ((List.foldr DataW.insert [] _).map fun p => intOf p.1).Perm ks
    have := (Go.WideShapes.sorted_perm (ks.map fun k => (Lit.int .i64 k, (.nil : DataW Unit)))).map fun p => intOf p.1
    rw [List.map_map] at this
    have e : ks.map ((fun p : Lit × DataW Unit => intOf p.1) ∘ fun k => (Lit.int .i64 k, .nil)) = ks := by
     conv => rhs; rw [← List.map_id ks]
     rfl
    rw [e] at this
    exact this
   ·rw [hrg]
    show (List.foldr DataW.insert [] _).length = _
    rw [length_sorted, List.length_map]
def qgg (ks : List Int) : List Int := ks.mergeSort fun x y => decide (x ≤ y)
theorem qss : ∀ (l : List Int), flat (l.map (D.i .i64)) = l.map (D.i .i64)
 | [] => rfl
 | n :: l => by rw [List.map_cons, qg4, qss l]; rfl
theorem qbth {w : World} {X : Nat → Prop} {base : Nat} {t : TypeId} {v : Value} {ss : List Int} (h : w.ownsRow base t 1 v ss.length (ss.map fun n => Value.int .i64 n)) (hX : ∀ b, X b → b < base) : RD w X v (.sl 1 (ss.map (D.i .i64))) := by
 obtain ⟨hlen, hh⟩ := h
 rcases hh with ⟨rfl, h0⟩ | ⟨g, cap, cur, rfl, hb, hg, hn, _, hsz, htk⟩
 ·have : ss = [] := List.eq_nil_of_length_eq_zero h0
  subst this
  exact .sl0 1
 ·have hcell : ∀ j (hj : j < ss.length), cur[j]? = some (Value.int .i64 ss[j]) := fun j hj => by
   have e : (cur.toList.take (ss.length * 1))[j]? = (ss.map fun n => Value.int .i64 n)[j]? := by rw [htk]
   rw [List.getElem?_take_of_lt (by omega), List.getElem?_map, List.getElem?_eq_getElem hj, Array.getElem?_toList] at e
   exact e
  have key := RD.sl (w := w) (X := X) ⟨g, 0, none⟩ cap 1 (ss.map (D.i .i64)) (fun j => (cur[j]?).getD undef) (by rw [List.length_map]; exact hn) (by decide)
   (fun d hd => by obtain ⟨n, _, rfl⟩ := List.mem_map.1 hd; exact ⟨rfl, by simp [D.cells, D.one]⟩)
   (fun _ => ⟨rfl, fun hx => by have := hX g hx; omega⟩)
   (fun j d hd => by
     rw [qss, List.getElem?_map] at hd
     have hj : j < ss.length := by
      rcases Nat.lt_or_ge j ss.length with h | h
      ·exact h
      ·rw [List.getElem?_eq_none h] at hd; cases hd
     rw [Nat.zero_add, qhg hg, hcell j hj]; rfl)
   (fun j d hd => by
     rw [qss, List.getElem?_map, Option.map_eq_some_iff] at hd
     obtain ⟨n, hn', rfl⟩ := hd
     obtain ⟨hj, rfl⟩ := List.getElem?_eq_some_iff.1 hn'
     rw [hcell j hj]
     exact .i _ _)
  rw [List.length_map] at key
  exact key
section
variable {C : Cfg} {Q : Exit → St → Prop} {i : Nat} {o1 o2 o3 : Oper} {m : Operand} {d1 d2 d3 : Nat} {fK fS fI : FuncId} {ts2 ts3 : Array TypeId} {sl : List (Nat × V)} {hp : List (Nat × HS)} {rest : List Oper} {ks : List Int} {xs : List D} {t tR : TypeId}
theorem AW.keysSorted (hC : COk C) (ht : C.P.underlying t = some (.int .i64)) (hK : qld C.P fK) (hS : qld C.P fS)
 (cK : ∀ (mb : Option Nat) (W : World), Calls C.P fK #[.map mb] W fun e w' => e = .returned (.func (.func fI) #[] #[.pointer (some ⟨W.heap.size, 0, none⟩)]) ∧ ∃ tB, w' = W.alloc (.cells #[.map mb] tB))
 (cS : ∀ (mb : Option Nat) (l : List Int) (Bm : Nat) (W : World), l.length ≤ 1000000 → Bm < W.heap.size → W.cell? ⟨Bm, 0, none⟩ = some (.map mb) → qww C.P t W mb l → Calls C.P fS #[.func (.func fI) #[] #[.pointer (some ⟨Bm, 0, none⟩)]] W fun e w' =>
   ∃ v, e = .returned v ∧ w'.ownsRow W.heap.size tR 1 v (qgg l).length ((qgg l).map fun n => Value.int .i64 n) ∧ Below W.heap.size W w')
 (g1 : o1.guard = none) (p1 : o1.op = .move m) (e1 : o1.dst = some d1) (g2 : o2.guard = none) (p2 : o2.op = .call ⟨.value (.func fK), #[.tmp d1], ts2⟩) (e2 : o2.dst = some d2)
 (g3 : o3.guard = none) (p3 : o3.op = .call ⟨.value (.func fS), #[.tmp d2], ts3⟩) (e3 : o3.dst = some d3) (n1 : d1 < C.N) (n2 : d2 < C.N) (n3 : d3 < C.N)
 (hm : (mkS sl hp).val m = some (.d (.mp (ks.map (D.i .i64)) xs))) (h1 : aget sl d1 = none) (h2 : aget sl d2 = none) (h3 : aget sl d3 = none) (hl : ks.length ≤ 1000000) (hw : ∀ k ∈ ks, (Lit.int .i64 k).wf = true)
 (hr : erun C (o1 :: o2 :: o3 :: rest).toArray (Q .normal) rest ((d3, .d (.sl 1 ((qgg ks).map (D.i .i64)))) :: sl) hp) : AW C (.region i (o1 :: o2 :: o3 :: rest).toArray false) (mkS sl hp) Q := by
 intro E bt a w h
 refine wp_region_list ?_
 show wpList C.P (o1 :: o2 :: o3 :: rest).toArray _ (o1 :: o2 :: o3 :: rest) a w
 have hsz := h.sz
 have hv := qcp (qb0 h hm)
 have hmx : 1000000 ≤ maxLen := by decide
 obtain ⟨mb, hmb, hKI⟩ := keys_in ht hv hw (by omega)
 refine qji g1 (v := a.eval m) (w' := w) (by simp [execOp, p1]) ?_
 rw [e1]
 have hr1 : Rel C E bt (mkS sl hp) (a.put (some d1) (a.eval m)) w := by
  refine (h.pure (some d1) (v := a.eval m) (x := none) (rd := []) (fun y hy => by cases hy)).less (fun i v hv => ?_) rfl
  have hv' : aget sl i = some v := hv
  have n1 : i ≠ d1 := fun e => by rw [e, h1] at hv'; cases hv'
  simp only [Delta.app, qg6, if_neg n1]
  exact hv
 have hev : (a.put (some d1) (a.eval m)).eval (.tmp d1) = .map mb := by
  show (a.put (some d1) _).tmps.getD d1 undef = _
  rw [qfs a d1 d1 _ (by omega), if_pos rfl, hmb]
 generalize a.put (some d1) (a.eval m) = a1 at hr1 hev
 have hsz1 := hr1.sz
 refine wpList_plain g2 fun K' hK' => ?_
 have hex : (execOp a1.eval o2).run C.P w = .ok (.enter fK #[.map mb]) w := by
  have hf : ∀ q, a1.eval (.func q) = .func (.func q) #[] #[] := fun q => rfl
  simp only [execOp, p2, resolve, Deferred.ofValue, hf, Sem.run_bind, Sem.run_pure, Result.andThen_ok, invoke, List.map_toArray, List.map_cons, List.map_nil, hev, Array.empty_append, Array.append_empty]
  exact qmd hK _
 unfold Oper.wp
 rw [hex]
 refine Calls.mono (cK mb w) fun e w1 ⟨he, tB, hw1⟩ => ?_
 subst he; subst hw1
 refine hK' _ _ ?_
 rw [e2]
 have hr2 : Rel C E bt (mkS sl hp) (a1.put (some d2) (.func (.func fI) #[] #[.pointer (some ⟨w.heap.size, 0, none⟩)])) (w.alloc (.cells #[.map mb] tB)) := by
  refine ((hr1.alloc (.cells #[.map mb] tB)).pure (some d2) (v := .func (.func fI) #[] #[.pointer (some ⟨w.heap.size, 0, none⟩)]) (x := none) (rd := []) (fun y hy => by cases hy)).less (fun i v hv => ?_) rfl
  have hv' : aget sl i = some v := hv
  have n1 : i ≠ d2 := fun e => by rw [e, h2] at hv'; cases hv'
  simp only [Delta.app, qg6, if_neg n1]
  exact hv
 have hev2 : (a1.put (some d2) (.func (.func fI) #[] #[.pointer (some ⟨w.heap.size, 0, none⟩)])).eval (.tmp d2) = .func (.func fI) #[] #[.pointer (some ⟨w.heap.size, 0, none⟩)] := by
  show (a1.put (some d2) _).tmps.getD d2 undef = _
  rw [qfs a1 d2 d2 _ (by omega), if_pos rfl]
 generalize a1.put (some d2) (.func (.func fI) #[] #[.pointer (some ⟨w.heap.size, 0, none⟩)]) = a2 at hr2 hev2
 have hsz2 := hr2.sz
 have hcell : (w.alloc (.cells #[.map mb] tB)).cell? ⟨w.heap.size, 0, none⟩ = some (.map mb) := by
  rw [qhg (qoe w _)]; rfl
 have hKI2 : qww C.P t (w.alloc (.cells #[.map mb] tB)) mb ks := by
  rcases hKI with hq | ⟨b, nn, D0, hb, hown, hp1, hp2⟩
  ·exact .inl hq
  ·refine .inr ⟨b, nn, D0, hb, ?_, hp1, hp2⟩
   have hbl := hown.lt
   obtain ⟨es, clock, hbk, r⟩ := hown
   exact ⟨es, clock, (Below.heap_alloc _ _ b hbl).trans hbk, r⟩
 generalize hW : w.alloc (.cells #[.map mb] tB) = W at hr2 hcell hKI2
 have hlt : w.heap.size < W.heap.size := by rw [← hW]; simp
 refine wpList_plain g3 fun K' hK' => ?_
 have hex : (execOp a2.eval o3).run C.P W = .ok (.enter fS #[.func (.func fI) #[] #[.pointer (some ⟨w.heap.size, 0, none⟩)]]) W := by
  have hf : ∀ q, a2.eval (.func q) = .func (.func q) #[] #[] := fun q => rfl
  simp only [execOp, p3, resolve, Deferred.ofValue, hf, Sem.run_bind, Sem.run_pure, Result.andThen_ok, invoke, List.map_toArray, List.map_cons, List.map_nil, hev2, Array.empty_append, Array.append_empty]
  exact qmd hS _
 unfold Oper.wp
 rw [hex]
 refine Calls.mono (cS mb ks w.heap.size W hl hlt hcell hKI2) fun e w2 ⟨v, he, hrow, hbel⟩ => ?_
 subst he
 refine hK' _ _ ?_
 rw [e3]
 have hr3 := hr2.below hbel
 have hX : ∀ b, Xs E.X0 (mkS sl hp).hp bt b → b < W.heap.size := by
  rintro b (hx | ⟨i, hi, he⟩)
  ·have := E.hx b hx; have := hr2.fr.ext.size; omega
  ·exact hr2.lt (qgs hi) he
 have hr4 : Rel C E bt (mkS ((d3, .d (.sl 1 ((qgg ks).map (D.i .i64)))) :: sl) hp) (a2.put (some d3) v) w2 := by
  refine (hr3.pure (some d3) (v := v) (x := some (.d (.sl 1 ((qgg ks).map (D.i .i64))))) (rd := []) (fun y hy => by cases hy; exact .d _ _ (qbth hrow hX))).less (fun i x hx => ?_) rfl
  have hx' : aget ((d3, V.d (.sl 1 ((qgg ks).map (D.i .i64)))) :: sl) i = some x := hx
  simp only [aget] at hx'
  simp only [Delta.app, qg6]
  by_cases e : i = d3
  ·rw [if_pos e, if_pos (by omega)]
   rw [if_pos e] at hx'; exact hx'
  ·rw [if_neg e]
   rw [if_neg e] at hx'
   exact hx'
 exact qte (E := E) hC (Q := fun e a' w' => ∃ s' bt', Q e s' ∧ Rel C E bt' s' a' w') (fun s' hs bt' a' w' hh => ⟨s', bt', hs, hh⟩) rest hr4 hr
variable {n : Operand} {kt et : TypeId} {kk : List D} {k x : D} {j : Nat} {z0 : List D}
theorem AW.lookP (hC : COk C) (hm : mapT C.P t = some (kt, et)) (hz : qc3 C.P et = some z0)
 (g1 : o1.guard = none) (p1 : o1.op = .move m) (e1 : o1.dst = some d1) (g2 : o2.guard = none) (p2 : o2.op = .move n) (e2 : o2.dst = some d2)
 (g3 : o3.guard = none) (p3 : o3.op = .lookup t (.tmp d1) (.tmp d2) false) (e3 : o3.dst = some d3) (n1 : d1 < C.N) (n2 : d2 < C.N) (n3 : d3 < C.N) (n12 : d1 ≠ d2)
 (hv1 : (mkS sl hp).val m = some (.d (.mp kk xs))) (hv2 : (mkS sl hp).val n = some (.d k)) (hnd : n ≠ .tmp d1) (h1 : aget sl d1 = none) (h2 : aget sl d2 = none)
 (hk : isK C.P kt k = true) (hks : ∀ d ∈ kk, isK C.P kt d = true) (hj : qfg kk k = some j) (hx : xs[j]? = some x)
 (hr : erun C (o1 :: o2 :: o3 :: rest).toArray (Q .normal) rest ((d3, .d x) :: sl) hp) : AW C (.region i (o1 :: o2 :: o3 :: rest).toArray false) (mkS sl hp) Q := by
 intro E bt a w h
 refine wp_region_list ?_
 show wpList C.P (o1 :: o2 :: o3 :: rest).toArray _ (o1 :: o2 :: o3 :: rest) a w
 have hsz := h.sz
 have hma := quj h (qb0 h hv1) (ks := kk) (vs := xs.map .d) (rd := []) rfl
 have hkv := qcp (qb0 h hv2)
 obtain ⟨zv, hzr, _, _⟩ := qr2 hz w
 refine qji g1 (v := a.eval m) (w' := w) (by simp [execOp, p1]) ?_
 rw [e1]
 have hr1 : Rel C E bt (mkS sl hp) (a.put (some d1) (a.eval m)) w := by
  refine (h.pure (some d1) (v := a.eval m) (x := none) (rd := []) (fun y hy => by cases hy)).less (fun i v hv => ?_) rfl
  have hv' : aget sl i = some v := hv
  have n1 : i ≠ d1 := fun e => by rw [e, h1] at hv'; cases hv'
  simp only [Delta.app, qg6, if_neg n1]
  exact hv
 have hev : (a.put (some d1) (a.eval m)).eval (.tmp d1) = a.eval m := by
  show (a.put (some d1) _).tmps.getD d1 undef = _
  rw [qfs a d1 d1 _ (by omega), if_pos rfl]
 have hen : (a.put (some d1) (a.eval m)).eval n = a.eval n := by
  cases n with
  | tmp q =>
    have hq : q ≠ d1 := fun e => hnd (by rw [e])
    show (a.put (some d1) _).tmps.getD q undef = a.tmps.getD q undef
    rw [qfs a d1 q _ (by omega), if_neg hq]
  | _ => rfl
 generalize a.eval m = mv at *
 generalize a.put (some d1) mv = a1 at *
 have hsz1 := hr1.sz
 refine qji g2 (v := a1.eval n) (w' := w) (by simp [execOp, p2]) ?_
 rw [e2, hen]
 have hr2 : Rel C E bt (mkS sl hp) (a1.put (some d2) (a.eval n)) w := by
  refine (hr1.pure (some d2) (v := a.eval n) (x := none) (rd := []) (fun y hy => by cases hy)).less (fun i v hv => ?_) rfl
  have hv' : aget sl i = some v := hv
  have n1 : i ≠ d2 := fun e => by rw [e, h2] at hv'; cases hv'
  simp only [Delta.app, qg6, if_neg n1]
  exact hv
 have hev2 : (a1.put (some d2) (a.eval n)).eval (.tmp d2) = a.eval n := by
  show (a1.put (some d2) _).tmps.getD d2 undef = _
  rw [qfs a1 d2 d2 _ (by omega), if_pos rfl]
 have hev1 : (a1.put (some d2) (a.eval n)).eval (.tmp d1) = mv := by
  rw [← hev]
  show (a1.put (some d2) _).tmps.getD d1 undef = a1.tmps.getD d1 undef
  rw [qfs a1 d2 d1 _ (by omega), if_neg n12]
 generalize a1.put (some d2) (a.eval n) = a2 at *
 have hsz2 := hr2.sz
 rcases qqi hm hma hk hks hkv hzr false with ⟨q1, _⟩ | ⟨j', u, x', q1, q2, q3, q4⟩
 ·rw [hj] at q1; cases q1
 rw [hj] at q1
 cases q1
 rw [List.getElem?_map, hx] at q2
 cases q2
 refine qji g3 (v := u) (w' := w) (qlc p3 (by rw [hev1, hev2]; exact q4)) ?_
 rw [e3]
 have hr4 : Rel C E bt (mkS ((d3, .d x) :: sl) hp) (a2.put (some d3) u) w := by
  refine (hr2.pure (some d3) (v := u) (x := some (.d x)) (rd := []) (fun y hy => by cases hy; exact q3)).less (fun i y hy => ?_) rfl
  have hy' : aget ((d3, V.d x) :: sl) i = some y := hy
  simp only [aget] at hy'
  simp only [Delta.app, qg6]
  by_cases e : i = d3
  ·rw [if_pos e, if_pos (by omega)]
   rw [if_pos e] at hy'; exact hy'
  ·rw [if_neg e]
   rw [if_neg e] at hy'
   exact hy'
 exact qte (E := E) hC (Q := fun e a' w' => ∃ s' bt', Q e s' ∧ Rel C E bt' s' a' w') (fun s' hs bt' a' w' hh => ⟨s', bt', hs, hh⟩) rest hr4 hr
end
end Go.Ev
