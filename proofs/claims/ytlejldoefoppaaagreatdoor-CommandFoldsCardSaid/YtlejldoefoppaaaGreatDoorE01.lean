/- Tools and contracts under the laws of this seat: DevEvK, DevEvL, DevEvM, DevEvN, DevEvO, DevEvLm, DevEvLc, DevEvOc, DevEvP, DevEvQ. -/
import Derived.Test.YtlejldoefoppaaaGreatDoorE00
import Derived.Laws.IdiomStrings
import Derived.Laws.MakeOwn
set_option linter.unusedVariables false
set_option linter.unusedSimpArgs false
namespace Go.Ev
section
variable {C : Cfg} {E : Env} {bt : Nat → Option Nat} {s : St} {a : Act} {w : World} {X : Nat → Prop} {nf : Nat → Prop} {P : Program}
theorem Out.wp {o : Oper} {δ : Delta} (h : Out C E o s a w δ) (next : Act → World → Prop) (Q : Exit → Act → World → Prop)
 (hk : ∀ bt' a' w', Rel C E bt' (δ.app C o.dst s) a' w' → next a' w') : o.wp C.P a w next Q := by
 obtain ⟨n, v, w', bt', hr, hn, hrel⟩ := h
 unfold Oper.wp
 rw [hr]
 rcases hn with rfl | ⟨rfl, rfl⟩
 ·exact hk _ _ _ hrel
 ·exact hk _ _ _ hrel
theorem qbl {v : V} {r : Res} (h : q01 v = some r) : r = ⟨True, [], some v, []⟩ := by cases h; rfl
theorem qec {ok : Prop} {v : V} {r : Res} (h : qb2 ok v = some r) : r = ⟨ok, [], some v, []⟩ := by cases h; rfl
theorem qoz (h : Rel C E bt s a w) {o : Oper} {x : Operand} (ho : o.op = .move x ∨ o.op = .assign x) {r : Res} (hr : (s.val x).bind q01 = some r) : Out C E o s a w r.dl := by
 simp only [Option.bind_eq_some_iff] at hr
 obtain ⟨v, hv, hr⟩ := hr
 rw [qbl hr]
 refine Out.same h (v := a.eval x) ?_ (fun y hy => by cases hy; exact q0s h hv)
 rcases ho with ho | ho <;> simp [execOp, ho]
theorem qku {v : Value} {x : V} {g p : Bool} (hv : VR w X bt nf v x) (h : optB x = some (g, p)) (hg : g = true) : v = .bool p := by
 unfold optB at h
 split at h
 ·cases h; have := q0z hv; cases this; rfl
 ·cases h
  cases hv with
  | opt _ _ _ hh _ => have := q0z (hh hg); cases this; rfl
 ·cases h
theorem qyh (h : Rel C E bt s a w) {q : Bool} {o : Oper} {c x y : Operand} (ho : o.op = .pick c x y) {r : Res} (hr : aop C q o s = some r) (hok : r.ok) : Out C E o s a w r.dl := by
 simp only [aop, ho] at hr
 split at hr
 ·cases hr
 ·rename_i g0 b hc
  simp only [Option.bind_eq_some_iff] at hc
  obtain ⟨cv, hcv, hcb⟩ := hc
  have run : ∀ {u : Value}, a.eval c = .bool b → (if b then a.eval x else a.eval y) = u → (execOp a.eval o).run C.P w = .ok (.value u) w := by
   intro u hc hu
   subst hu
   simp [execOp, ho, hc, asBool]
  have one : ∀ {z : Operand} {g p : Bool}, (s.val z).bind optB = some (g, p) → g = true → a.eval z = .bool p := by
   intro z g p hz hg
   simp only [Option.bind_eq_some_iff] at hz
   obtain ⟨zv, hzv, hzb⟩ := hz
   exact qku (q0s h hzv) hzb hg
  split at hr
  ·rename_i g1 p g2 q' hx hy
   rw [qec hr] at hok ⊢
   obtain ⟨k0, k1, k2⟩ := hok
   have hc := qku (q0s h hcv) hcb k0
   refine Out.same h (v := .bool (bif b then p else q')) (run hc ?_) (fun y hy => by cases hy; exact .d _ _ (.b _))
   cases b
   ·simpa using one hy (k2 rfl)
   ·simpa using one hx (k1 rfl)
  ·split at hr
   ·simp only [Option.bind_eq_some_iff] at hr
    obtain ⟨⟨g, p⟩, hx, hr⟩ := hr
    rw [qec hr] at hok ⊢
    have hc := qku (q0s h hcv) hcb hok.1
    exact Out.same h (v := .bool p) (run hc (by simpa using one (by simp only [Option.bind_eq_some_iff]; exact hx) hok.2)) (fun y hy => by cases hy; exact .d _ _ (.b _))
   ·simp only [Option.bind_eq_some_iff] at hr
    obtain ⟨⟨g, p⟩, hx, hr⟩ := hr
    rw [qec hr] at hok ⊢
    have hc := qku (q0s h hcv) hcb hok.1
    exact Out.same h (v := .bool p) (run hc (by simpa using one (by simp only [Option.bind_eq_some_iff]; exact hx) hok.2)) (fun y hy => by cases hy; exact .d _ _ (.b _))
theorem qyi (h : Rel C E bt s a w) {q : Bool} {o : Oper} {t : TypeId} {x : Operand} (ho : o.op = .load t x) {r : Res} (hr : aop C q o s = some r) (hok : r.ok) : Out C E o s a w r.dl := by
 simp only [aop, ho] at hr
 split at hr
 ·rename_i g n p hg hn hp
  obtain ⟨v, y, h1, h2, h3, h4⟩ := qt6 h hg hn (q0s h hp) hr hok
  obtain ⟨ok, hp', v', rd⟩ := r
  simp only at h2 h3
  subst h2; subst h3
  exact Out.same h (v := v) (by simp [execOp, ho, h1]) (fun z hz => by cases hz; exact h4)
 ·cases hr
theorem qkv {x : V} {d : D} {is : List Nat} (h : toD1 s x = some (d, is)) : ∀ k ∈ is, (s.hp k).obj?.isSome = true := by
 cases x with
 | d y => cases h; intro k hk; cases hk
 | row id sz off n =>
   simp only [toD1] at h
   split at h
   ·rename_i hg
    split at h
    ·cases h
     intro k hk
     rw [List.mem_singleton] at hk
     subst hk
     unfold qbk at hg
     split at hg <;> first | (rename_i hh; rw [hh]; rfl) | cases hg
    ·cases h
   ·cases h
 | _ => cases h
theorem quj : ∀ {l : List V} {xs : List D} {is : List Nat}, toDs (toD1 s) l = some (xs, is) → ∀ k ∈ is, (s.hp k).obj?.isSome = true
 | [], xs, is, h => by cases h; intro k hk; cases hk
 | v :: l, xs, is, h => by
   unfold toDs at h
   split at h
   ·rename_i hx hl
    cases h
    intro k hk
    rcases List.mem_append.1 hk with hk | hk
    ·exact qkv hx k hk
    ·exact quj hl k hk
   ·cases h
theorem qj6 {is : List Nat} (i : Nat) : q0e s.hp (q0t s is []) i = s.hp i ∧ i ∉ is ∨ q0e s.hp (q0t s is []) i = (match s.hp i with | .live o => .fz o | h => h) ∧ i ∈ is := by
 unfold q0t
 rw [List.map_nil, List.append_nil]
 induction is with
 | nil => exact .inl ⟨rfl, List.not_mem_nil⟩
 | cons k l ih =>
   by_cases e : i = k
   ·subst e
    refine .inr ⟨?_, List.mem_cons_self ..⟩
    rw [List.map_cons]; unfold q0e; rw [if_pos rfl]; cases s.hp i <;> rfl
   ·rw [List.map_cons]; unfold q0e; rw [if_neg e]
    rcases ih with ⟨h1, h2⟩ | ⟨h1, h2⟩
    ·exact .inl ⟨h1, fun h => by rcases List.mem_cons.1 h with h | h <;> contradiction⟩
    ·exact .inr ⟨h1, List.mem_cons_of_mem _ h2⟩
theorem Rel.frz (h : Rel C E bt s a w) {is : List Nat} (ho : ∀ k ∈ is, (s.hp k).obj?.isSome = true) :
 Rel C E bt ⟨s.sl, q0e s.hp (q0t s is [])⟩ a w ∧ ∀ b, Xs E.X0 (q0e s.hp (q0t s is [])) bt b → Xm (Xs E.X0 s.hp bt) bt is b := by
 refine ⟨h.drop _ fun i => ?_, fun b hb => ?_⟩
 ·rcases qj6 (s := s) (is := is) i with ⟨h1, _⟩ | ⟨h1, _⟩
  ·exact .inl h1
  ·rw [h1]
   cases hq : s.hp i with
   | live o => exact .inr (.inl ⟨o, rfl, rfl⟩)
   | _ => exact .inl rfl
 ·have hlive : ∀ i, (q0e s.hp (q0t s is []) i).isLive = true → (s.hp i).isLive = true ∧ i ∉ is := fun i hi => by
   rcases qj6 (s := s) (is := is) i with ⟨h1, h2⟩ | ⟨h1, _⟩
   ·rw [h1] at hi; exact ⟨hi, h2⟩
   ·rw [h1] at hi
    cases hq : s.hp i <;> rw [hq] at hi <;> cases hi
  refine ⟨?_, fun k hk hbk => ?_⟩
  ·rcases hb with hb | ⟨i, hi, he⟩
   ·exact .inl hb
   ·exact .inr ⟨i, (hlive i hi).1, he⟩
  ·rcases hb with hb | ⟨i, hi, he⟩
   ·exact h.nx k b (ho k hk) hbk hb
   ·have := h.inj i k b (hlive i hi).1 (ho k hk) he hbk
    subst this
    exact (hlive i hi).2 hk
theorem qtl (h : Rel C E bt s a w) {dz : TypeId → D} {t : TypeId} {n : Nat} (hn : q0u C.P t = some n) {pv xv : Value} {p x : V} {r : Res}
 (hp : VR w (Xs E.X0 s.hp bt) bt (Nf s.hp) pv p) (hx : VR w (Xs E.X0 s.hp bt) bt (Nf s.hp) xv x) (hr : storeAt dz s n p x = some r) (hok : r.ok) (dst : Option Tmp) :
 ∃ w', (Instr.storeAt t pv xv).run C.P w = .ok () w' ∧ Rel C E bt (r.dl.app C dst s) (a.put dst undef) w' := by
 have hr0 := hr
 unfold storeAt at hr
 split at hr
 ·cases hr
 rename_i xc hxc
 split at hr
 ·cases hr
 rename_i hc0
 split at hr
 ·refine qg2 h hn hp hx hr0 ?_ hok dst
  split at hr
  ·split at hr
   ·cases hr; rfl
   ·cases hr
  ·cases hr
 ·split at hr
  ·refine qg2 h hn hp hx hr0 ?_ hok dst
   split at hr
   ·cases hr; rfl
   ·cases hr
  ·rename_i id sz j off _ _ t' sz' z l xs k is hl hd
   split at hr
   ·rename_i hc
    cases hr
    obtain ⟨hf, hXm⟩ := h.frz (quj hd)
    have hid : q0e s.hp (q0t s (k :: is) []) id = .live (.row t' sz' z l) := by
     rcases qj6 (s := s) (is := k :: is) id with ⟨h1, _⟩ | ⟨_, h2⟩
     ·rw [h1, hl]
     ·have := hc.2.2.2.2
      rw [← Bool.not_eq_true] at this
      exact absurd (List.contains_iff_mem.2 h2) this
    have hN : ∀ i, Nf s.hp i → Nf (q0e s.hp (q0t s (k :: is) [])) i := fun i hi => by
     rcases qj6 (s := s) (is := k :: is) i with ⟨h1, _⟩ | ⟨h1, _⟩
     ·unfold Nf at *; rw [h1]; exact hi
     ·unfold Nf at *; rw [h1]; cases hq : s.hp i <;> rw [hq] at hi <;> first | exact hi | rfl
    have hX : ∀ b, Xs E.X0 (q0e s.hp (q0t s (k :: is) [])) bt b → Xs E.X0 s.hp bt b := fun b hb => (hXm b hb).1
    have hp1 : VR w (Xs E.X0 (q0e s.hp (q0t s (k :: is) [])) bt) bt (Nf (q0e s.hp (q0t s (k :: is) []))) pv (.rp id sz j off) := hp.ext (Ext.refl _ _) (fun b _ => hX b) (fun _ _ => rfl) hN
    obtain ⟨hl2, hd2⟩ := qgf hd
    have hxs : xs.length = n := by
     rw [hl2]
     by_cases hh : xc.length = n
     ·exact hh
     ·exact absurd (.inr hh) hc0
    -- the value, as data
    have key : ∃ x1 : V, x1.cells = some (xs.map .d) ∧ VR w (Xs E.X0 (q0e s.hp (q0t s (k :: is) [])) bt) bt (Nf (q0e s.hp (q0t s (k :: is) []))) xv x1 := by
     cases x with
     | agg c =>
       cases hxc
       refine ⟨.d (.agg xs), rfl, .d _ _ ?_⟩
       exact (qj3 h hx (d := .agg xs) (is := k :: is) (by simp only [toD2, hd, Option.map_some])).mono hXm
     | d y =>
       exfalso
       have : ∀ {c : List V} {ys : List D} {js : List Nat}, (∀ v ∈ c, ∃ d, v = .d d) → toDs (toD1 s) c = some (ys, js) → js = [] := by
        intro c
        induction c with
        | nil => intro ys js _ h; cases h; rfl
        | cons v c ih =>
          intro ys js hv h
          obtain ⟨d, rfl⟩ := hv v (List.mem_cons_self ..)
          unfold toDs at h
          split at h
          ·rename_i h1 h2
           cases h
           cases h1
           rw [ih (fun v hv' => hv v (List.mem_cons_of_mem _ hv')) h2]; rfl
          ·cases h
       have h0 := this (c := xc) (fun v hv => by
        cases y <;> simp only [V.cells, Option.some.injEq] at hxc <;> subst hxc <;> simp only [List.mem_singleton, List.mem_map] at hv <;> first | exact ⟨_, hv⟩ | (obtain ⟨d, _, rfl⟩ := hv; exact ⟨d, rfl⟩)) hd
       cases h0
     | row id' sz'' off' n' =>
       cases hxc
       unfold toDs at hd
       split at hd
       ·rename_i d i ys js h1 h2
        cases h2
        simp only [Option.some.injEq, Prod.mk.injEq] at hd
        obtain ⟨rfl, e2⟩ := hd
        refine ⟨.d d, ?_, .d _ _ ?_⟩
        ·have hone := hc.2.2.1
         cases d <;> first | rfl | simp [D.one] at hone
        ·have := qik h hx h1
         refine this.mono fun b hb => ?_
         have := hXm b hb
         rwa [← e2, List.append_nil] at this
       ·cases hd
     | opt g v => cases hxc
     | _ =>
       exfalso
       cases hxc
       unfold toDs at hd
       simp only [toD1] at hd
       cases hd
    obtain ⟨x1, e1, v1⟩ := key
    have hr1 : storeAt dz ⟨s.sl, q0e s.hp (q0t s (k :: is) [])⟩ n (.rp id sz j off) x1 = some ⟨j < l.length, [(id, .live (.row t' sz z (l.set j ((l.getD j (dz t')).splice off xs))))], none, []⟩ := by
     have hone : (xs.map V.d).all V.one = true := by rw [List.all_map]; exact hc.2.2.1
     have hds : ∀ (ys : List D), toDs (toD1 ⟨s.sl, q0e s.hp (q0t s (k :: is) [])⟩) (ys.map V.d) = some (ys, []) := by
      intro ys
      induction ys with
      | nil => rfl
      | cons y ys ih => rw [List.map_cons]; unfold toDs; rw [ih]; rfl
     unfold storeAt
     rw [e1]
     simp only [hone, List.length_map, hxs, hid, hds]
     rw [if_neg (by simp), if_pos ⟨hc.1, hc.2.1, hc.2.2.1, hc.2.2.2.1⟩]
    obtain ⟨w', g1, g2⟩ := qg2 hf hn hp1 v1 hr1 rfl hok dst
    exact ⟨w', g1, g2⟩
   ·cases hr
  ·cases hr
 ·cases hr
theorem qgg {f : V → Option (D × List Nat)} (hf : ∀ v x is, f v = some (x, is) → ∀ k ∈ is, (s.hp k).obj?.isSome = true) : ∀ {l : List V} {xs : List D} {is : List Nat}, toDs f l = some (xs, is) → ∀ k ∈ is, (s.hp k).obj?.isSome = true
 | [], xs, is, h => by cases h; intro k hk; cases hk
 | v :: l, xs, is, h => by
   unfold toDs at h
   split at h
   ·rename_i hx hl
    cases h
    intro k hk
    rcases List.mem_append.1 hk with hk | hk
    ·exact hf _ _ _ hx k hk
    ·exact qgg hf hl k hk
   ·cases h
theorem qn6 {x : V} {d : D} {is : List Nat} (h : toD2 s x = some (d, is)) : ∀ k ∈ is, (s.hp k).obj?.isSome = true := by
 have box : ∀ {id : Nat} {c : List V}, qda s id = some c → (s.hp id).obj?.isSome = true := fun hg => by
  unfold qda at hg
  split at hg <;> first | (rename_i hh; rw [hh]; rfl) | cases hg
 have row : ∀ {id : Nat} {c : TypeId × Nat × Bool × List D}, qbk s id = some c → (s.hp id).obj?.isSome = true := fun hg => by
  unfold qbk at hg
  split at hg <;> first | (rename_i hh; rw [hh]; rfl) | cases hg
 cases x with
 | agg l =>
   obtain ⟨⟨xs, js⟩, h1, h2⟩ := Option.map_eq_some_iff.1 h
   cases h2
   exact qgg (fun _ _ _ hh => qkv hh) h1
 | ptr id off =>
   simp only [toD2] at h
   split at h
   ·rename_i c hg
    obtain ⟨⟨xs, js⟩, h1, h2⟩ := Option.map_eq_some_iff.1 h
    cases h2
    intro k hk
    rcases List.mem_cons.1 hk with hk | hk
    ·subst hk; exact box hg
    ·exact qgg (fun _ _ _ hh => qkv hh) h1 k hk
   ·cases h
 | rp id sz j off =>
   simp only [toD2] at h
   split at h
   ·rename_i hg
    split at h
    ·obtain ⟨y, h1, h2⟩ := Option.map_eq_some_iff.1 h
     cases h2
     intro k hk
     rw [List.mem_singleton] at hk
     subst hk; exact row hg
    ·cases h
   ·cases h
 | d _ | row _ _ _ _ | fn _ _ | tup _ | opt _ _ | ub _ | nb _ | mref _ => simp only [toD2] at h; exact qkv h
theorem q00u {l : List V} {xs : List D} {is : List Nat} (h : toDs (toD3 s) l = some (xs, is)) : ∀ k ∈ is, (s.hp k).obj?.isSome = true := by
 refine qgg (fun x d is h => ?_) h
 cases x with
 | fn f l =>
   obtain ⟨⟨xs, js⟩, h1, h2⟩ := Option.map_eq_some_iff.1 h
   cases h2
   exact qgg (fun _ _ _ hh => qn6 hh) h1
 | mref id =>
   simp only [toD3] at h
   split at h
   ·rename_i ks vs hg
    obtain ⟨⟨xs, js⟩, h1, h2⟩ := Option.map_eq_some_iff.1 h
    cases h2
    intro k hk
    rcases List.mem_cons.1 hk with hk | hk
    ·subst hk
     unfold qhm at hg
     split at hg <;> first | (rename_i hh; rw [hh]; rfl) | cases hg
    ·exact qgg (fun _ _ _ hh => qn6 hh) h1 k hk
   ·cases h
 | d _ | agg _ | ptr _ _ | row _ _ _ _ | rp _ _ _ _ | tup _ | opt _ _ | ub _ | nb _ => simp only [toD3] at h; exact qn6 h
theorem qne (h : Rel C E bt s a w) {o : Oper} {t e : TypeId} {n : Nat} {parts : Array (Nat × Operand)} (ho : o.op = .buildSlice t n parts) (he : qcj C.P t = some e) {sz : Nat}
 (hsz : q0u C.P e = some (sz + 1)) {z : List D} (hz : qbb C.P e = some z) {vs : List V} (hvs : vals s (parts.toList.map (·.2)) = some vs) {ds : List D} {k : Nat} {is : List Nat} (hds : toDs (toD3 s) vs = some (ds, k :: is))
 (hidx : parts.toList.map (·.1) = List.range n) (hbig : n * (sz + 1) ≤ 16777216) (hzl : z.length = sz + 1) {r : Res}
 (hr : ((newObj s o.dst (∀ d ∈ ds, d.fits (sz + 1)) (.row e (sz + 1) false ds) (.row (nm o.dst 0) (sz + 1) 0 n)).map fun r => (⟨r.ok, r.dl.hp ++ q0t s (k :: is) [], r.dl.v, k :: is⟩ : Res)) = some r) (hok : r.ok) : Out C E o s a w r.dl := by
 obtain ⟨r0, hr0, rfl⟩ := Option.map_eq_some_iff.1 hr
 have hlen : parts.toList.length = n := by have := congrArg List.length hidx; simpa using this
 obtain ⟨v1, v2⟩ := qfo hvs
 obtain ⟨d1, d2⟩ := qgf hds
 have hvals : vs.length = n := by rw [v1, List.length_map, hlen]
 obtain ⟨hf, hXm⟩ := h.frz (q00u hds)
 obtain ⟨hfree, rfl⟩ := qck hr0
 have hfree' : ((q0e s.hp (q0t s (k :: is) [])) (nm o.dst 0)).isFree = true := by
  rcases qj6 (s := s) (is := k :: is) (nm o.dst 0) with ⟨h1, _⟩ | ⟨h1, _⟩
  ·rw [h1]; exact hfree
  ·rw [h1]; cases hq : s.hp (nm o.dst 0) <;> rw [hq] at hfree <;> first | exact hfree | cases hfree
 have hdst : ∃ d, o.dst = some d := by
  unfold newObj at hr0
  split at hr0
  ·rename_i d hd; exact ⟨d, hd⟩
  ·cases hr0
 obtain ⟨d0, hd0⟩ := hdst
 have hr1 : newObj ⟨s.sl, q0e s.hp (q0t s (k :: is) [])⟩ o.dst (∀ d ∈ ds, d.fits (sz + 1)) (.row e (sz + 1) false ds) (.row (nm o.dst 0) (sz + 1) 0 n) = some ⟨∀ d ∈ ds, d.fits (sz + 1), [(nm o.dst 0, .live (.row e (sz + 1) false ds))], some (.row (nm o.dst 0) (sz + 1) 0 n), []⟩ := by
  unfold newObj
  rw [hd0] at hfree' ⊢
  simp only
  rw [if_pos hfree']
 have := qh6 hf ho he hsz hz (ds := ds) (by omega) (fun q x hx => by
  obtain ⟨v, g1, g2⟩ := v2 q x hx
  obtain ⟨d, js, g3, g4, g5⟩ := d2 q v g1
  refine ⟨d, g4, (qq2 h (q0s h g2) g3).mono fun b hb => ?_⟩
  obtain ⟨m1, m2⟩ := hXm b hb
  exact ⟨m1, fun i hi => m2 i (g5 i hi)⟩) hidx hbig hzl hr1 hok
 obtain ⟨n', v', w', bt', q1, q2, q3⟩ := this
 exact ⟨n', v', w', bt', q1, q2, q3⟩
theorem qwx (h : Rel C E bt s a w) {q : Bool} {o : Oper} {t : TypeId} {x y : Operand} (ho : o.op = .store t x y) {r : Res} (hr : aop C q o s = some r) (hok : r.ok) : Out C E o s a w r.dl := by
 simp only [aop, ho] at hr
 split at hr
 ·rename_i n p v hn hp hv
  obtain ⟨w', h1, h2⟩ := qtl h hn (q0s h hp) (q0s h hv) hr hok o.dst
  exact ⟨.skip, undef, w', bt, by simp [execOp, ho, h1], .inr ⟨rfl, rfl⟩, h2⟩
 ·cases hr
theorem quk {t : TypeId} {f off n : Nat} (h : offT P t f = some (off, n)) : ∃ fs x, P.underlying t = some (.struct fs) ∧ fs[f]? = some x ∧ x.offset = off ∧ q0u P x.type = some n ∧ 0 < n := by
 unfold offT at h
 split at h
 ·rename_i fs hu
  split at h
  ·rename_i x hx
   split at h
   ·rename_i m hm; cases h; exact ⟨fs, x, hu, hx, rfl, hm, by omega⟩
   ·cases h
  ·cases h
 ·cases h
theorem qjq {t : TypeId} {f off n : Nat} (h : offT P t f = some (off, n)) (b o : Nat) : (Instr.fieldAt t (.pointer (some ⟨b, o, none⟩)) f).run P w = .ok (.pointer (some ⟨b, o + off, none⟩)) w := by
 obtain ⟨fs, x, hu, hx, rfl, hm, hn⟩ := quk h
 have : n ≠ 0 := by omega
 simp [Instr.fieldAt, run_underlying hu, hx, Instr.sureAddr, fieldPlace, qeb hm, this, Addr.add_lit]
theorem qo0 (h : Rel C E bt s a w) {q : Bool} {o : Oper} {t : TypeId} {x : Operand} {f : Nat} (ho : o.op = .fieldAddr t x f) {r : Res} (hr : aop C q o s = some r) : Out C E o s a w r.dl := by
 simp only [aop, ho] at hr
 split at hr
 ·rename_i off n id o' hoff hv
  rw [qbl hr]
  obtain ⟨bk, hb, hf, he⟩ := qet (q0s h hv)
  exact Out.same h (v := .pointer (some ⟨bk, o' + off, none⟩)) (by simp [execOp, ho, he, qjq hoff]) (fun z hz => by cases hz; exact .ptr _ _ _ hf hb)
 ·rename_i off n id sz j o' hoff hv
  rw [qbl hr]
  obtain ⟨bk, hb, hf, he⟩ := qj2 (q0s h hv)
  exact Out.same h (v := .pointer (some ⟨bk, j * sz + o' + off, none⟩)) (by simp [execOp, ho, he, qjq hoff]) (fun z hz => by cases hz; rw [Nat.add_assoc]; exact .rp _ _ _ _ _ hf hb)
 ·rename_i off n l hoff hv
  rw [qbl hr]
  have := q0z (q0s h hv)
  generalize he : a.eval x = u at this
  cases this with
  | cp ad _ u ha hw hrd =>
    obtain ⟨b, o2, sp⟩ := ad
    simp only at ha hw
    obtain ⟨rfl, ha⟩ := ha
    refine Out.same h (v := .pointer (some ⟨b, o2 + off, none⟩)) (by simp [execOp, ho, he, qjq hoff]) (fun z hz => by
     cases hz
     refine .d _ _ (.cp _ _ (fun j => u (off + j)) ⟨rfl, fun hl => ha (fun e => hl (by rw [e]; simp))⟩ (fun j d hj => ?_) (fun j d hj => ?_))
     ·rw [List.getElem?_drop] at hj
      have := hw _ d hj
      simpa [Nat.add_assoc] using this
     ·rw [List.getElem?_drop] at hj
      exact hrd _ d hj)
 ·cases hr
theorem VR.extract {cs : Array Value} {l : List V} (hn : cs.size = l.length) (h : ∀ (j : Nat) (v : Value) (x : V), cs[j]? = some v → l[j]? = some x → VR w X bt nf v x) {off n : Nat} (hle : off + n ≤ l.length) :
 VR w X bt nf (.agg (cs.extract off (off + n))) (Ev.mkAgg ((l.drop off).take n)) := by
 refine VR.mkAgg (by simp; omega) fun j v d hj hd => ?_
 rw [Array.getElem?_extract] at hj
 rw [List.getElem?_take, List.getElem?_drop] at hd
 split at hj
 ·split at hd
  ·exact h _ v d hj hd
  ·cases hd
 ·cases hj
theorem qwy (h : Rel C E bt s a w) {q : Bool} {o : Oper} {t : TypeId} {x : Operand} {f : Nat} (ho : o.op = .field t x f) {r : Res} (hr : aop C q o s = some r) : Out C E o s a w r.dl := by
 simp only [aop, ho] at hr
 have key : ∀ {off n : Nat} {g : Bool} {cs : Array Value} {l : List V} {v : V}, offT C.P t f = some (off, n) → (qcv C.P t f).bind (aggT C.P) = some g → a.eval x = .agg cs → cs.size = l.length →
  (∀ (j : Nat) (v : Value) (x : V), cs[j]? = some v → l[j]? = some x → VR w (Xs E.X0 s.hp bt) bt (Nf s.hp) v x) → ldV g n l off = some v → Out C E o s a w ⟨[], some v, []⟩ := by
  intro off n g cs l v hoff hg he hn hc hld
  obtain ⟨fs, fx, hu, hx, rfl, hm, h0⟩ := quk hoff
  have hg' : aggT C.P fx.type = some g := by
   simp only [qcv, hu, hx, Option.map_some, Option.bind_some] at hg; exact hg
  cases g with
  | true =>
    simp only [ldV, if_true] at hld
    split at hld
    ·rename_i hle
     cases hld
     exact Out.same h (v := .agg (cs.extract fx.offset (fx.offset + n))) (by
      have := qkt (P := C.P) (w := w) hg' hm cs fx.offset (v := .agg (cs.extract fx.offset (fx.offset + n))) (by simp)
      simp [execOp, ho, Instr.field, run_underlying hu, hx, he, asAgg, this]) (fun z hz => by cases hz; exact VR.extract hn hc hle)
    ·cases hld
  | false =>
    simp only [ldV, Bool.false_eq_true, if_false] at hld
    have hlt := (List.getElem?_eq_some_iff.1 hld).1
    have hlt' : fx.offset < cs.size := by omega
    exact Out.same h (v := cs[fx.offset]) (by
     have := qkt (P := C.P) (w := w) hg' hm cs fx.offset (v := cs[fx.offset]) (by simp [hlt'])
     simp [execOp, ho, Instr.field, run_underlying hu, hx, he, asAgg, this]) (fun z hz => by cases hz; exact hc _ _ _ (by simp [hlt']) hld)
 split at hr
 ·rename_i off n g l hoff hg hv
  simp only [Option.bind_eq_some_iff] at hr
  obtain ⟨v, hld, hr⟩ := hr
  rw [qbl hr]
  have := q0z (q0s h hv)
  generalize he : a.eval x = u at this
  cases this with
  | agg cs _ hn hc =>
    exact key hoff hg he (l := l.map V.d) (by simpa using hn) (fun j v x hj hx => by
     simp only [List.getElem?_map, Option.map_eq_some_iff] at hx
     obtain ⟨d, hd, rfl⟩ := hx
     exact .d _ _ (hc j v d hj hd)) (qq1 hld)
 ·rename_i off n g l hoff hg hv
  simp only [Option.bind_eq_some_iff] at hr
  obtain ⟨v, hld, hr⟩ := hr
  rw [qbl hr]
  have := q0s h hv
  generalize he : a.eval x = u at this
  cases this with
  | agg cs _ hn hc => exact key hoff hg he hn hc hld
 ·cases hr
theorem qo1 (h : Rel C E bt s a w) {q : Bool} {o : Oper} {t : TypeId} {x y : Operand} (ho : o.op = .indexAddr t x y) {r : Res} (hr : aop C q o s = some r) (hok : r.ok) : Out C E o s a w r.dl := by
 simp only [aop, ho] at hr
 split at hr
 ·rename_i e sz l k i he hx hy
  split at hr
  ·rename_i hsz
   rw [qec hr] at hok ⊢
   have hi : 0 ≤ i ∧ i < (l.length : Int) := hok
   have hu := qfd he
   have rx := q0z (q0s h hx)
   have ry := q0z (q0s h hy)
   generalize hvx : a.eval x = ux at rx
   generalize hvy : a.eval y = uy at ry
   cases ry
   have hlt : i.toNat < l.length := by omega
   cases rx with
   | sl0 _ => simp at hlt
   | sl ad cap _ _ u hc hsz0 hs ha hw hrd =>
     have hne : l ≠ [] := fun e => by rw [e] at hlt; simp at hlt
     obtain ⟨hsp, hnx⟩ := ha hne
     obtain ⟨b, o2, sp⟩ := ad
     simp only at hsp hw hnx
     subst hsp
     have hel : l[i.toNat]? = some (l.getD i.toNat (zD C.P e)) := getD_some hlt
     have hfit := hs _ (List.mem_of_getElem? hel)
     have hcell : ∀ (c : Nat) (d : D), (l.getD i.toNat (zD C.P e)).cells[c]? = some d → (flat l)[i.toNat * sz + c]? = some d := by
      intro c d hd
      have := (List.getElem?_eq_some_iff.1 hd).1
      rw [hfit.1] at this
      rw [qex (fun d hd => (hs d hd).1) hel this]; exact hd
     refine Out.same h (v := .pointer (some ⟨b, o2 + i.toNat * sz, none⟩)) ?_ (fun z hz => by
      cases hz
      exact .d _ _ (.cp ⟨b, o2 + i.toNat * sz, none⟩ _ (fun c => u (i.toNat * sz + c)) ⟨rfl, fun _ => hnx⟩ (fun c d hd => by have := hw _ d (hcell c d hd); simpa [Nat.add_assoc] using this) (fun c d hd => hrd _ d (hcell c d hd))))
     simp [execOp, ho, hvx, hvy, Instr.indexAt, asIntOf, run_underlying hu, hi, qeb hsz, Addr.add_lit]
  ·cases hr
 ·rename_i e id sz off n k i he hx hy
  split at hr
  ·rename_i hsz
   rw [qec hr] at hok ⊢
   have hi : 0 ≤ i ∧ i < (n : Int) := hok
   have hu := qfd he
   have rx := q0s h hx
   have ry := q0z (q0s h hy)
   generalize hvx : a.eval x = ux at rx
   generalize hvy : a.eval y = uy at ry
   cases ry
   rcases (qdg rx).2 with ⟨bk, cap, ad, hb, rfl, had, hn, hk⟩ | ⟨hb, _, hn, rfl⟩
   ·have had : ad = ⟨bk, off * sz, none⟩ := by
     rcases had with h | h
     ·exact h
     ·omega
    subst had
    refine Out.same h (v := .pointer (some ⟨bk, off * sz + i.toNat * sz, none⟩)) ?_ (fun z hz => by
     cases hz
     have := VR.rp (w := w) (X := Xs E.X0 s.hp bt) (bt := bt) (nf := Nf s.hp) id sz (off + i.toNat) 0 bk (qdg rx).1 hb
     rwa [Nat.add_mul, Nat.add_zero] at this)
    simp [execOp, ho, hvx, hvy, Instr.indexAt, asIntOf, run_underlying hu, hi, qeb hsz, Addr.add_lit]
   ·omega
  ·cases hr
 ·cases hr
theorem qwz (h : Rel C E bt s a w) {q : Bool} {o : Oper} {t : TypeId} {x y : Operand} (ho : o.op = .index t x y) {r : Res} (hr : aop C q o s = some r) (hok : r.ok) : Out C E o s a w r.dl := by
 simp only [aop, ho] at hr
 split at hr
 ·rename_i b k i hu hx hy
  rw [qec hr] at hok ⊢
  have hi : 0 ≤ i ∧ i < (b.size : Int) := hok
  have rx := q0z (q0s h hx)
  have ry := q0z (q0s h hy)
  generalize hvx : a.eval x = ux at rx
  generalize hvy : a.eval y = uy at ry
  cases rx; cases ry
  have hlt : i.toNat < b.size := by omega
  refine Out.same h (v := .int .u8 (b.data.toList.getD i.toNat 0).toNat) ?_ (fun z hz => by cases hz; exact .d _ _ (.i _ _))
  have hb : b[i.toNat]? = some (b.data.toList.getD i.toNat 0) := by
   have : i.toNat < b.data.size := hlt
   rw [getElem?_pos b i.toNat hlt]
   congr 1
   show b.data[i.toNat] = _
   simp only [List.getD, Array.getElem?_toList]
   rw [Array.getElem?_eq_getElem this]
   rfl
  simp [execOp, ho, hvx, hvy, Instr.index, asIntOf, run_underlying hu, hi.1, hb]
 ·cases hr
theorem qtm (h : Rel C E bt s a w) {q : Bool} {o : Oper} {x : Operand} {i : Nat} (ho : o.op = .extract x i) {r : Res} (hr : aop C q o s = some r) : Out C E o s a w r.dl := by
 simp only [aop, ho] at hr
 split at hr
 ·rename_i l hx
  simp only [Option.bind_eq_some_iff] at hr
  obtain ⟨v, hv, hr⟩ := hr
  rw [qbl hr]
  have rx := q0s h hx
  generalize hvx : a.eval x = ux at rx
  cases rx with
  | tup cs _ hn hc =>
    have hlt := (List.getElem?_eq_some_iff.1 hv).1
    have hlt' : i < cs.size := by omega
    exact Out.same h (v := cs[i]) (by simp [execOp, ho, hvx, Instr.extract, hlt']) (fun z hz => by cases hz; exact hc _ _ _ (by simp [hlt']) hv)
 ·cases hr
theorem qyj (h : Rel C E bt s a w) {q : Bool} {o : Oper} {op : UnOp} {t : TypeId} {x : Operand} (ho : o.op = .unOp op t x) {r : Res} (hr : aop C q o s = some r) : Out C E o s a w r.dl := by
 simp only [aop, ho] at hr
 split at hr
 ·rename_i d hx
  simp only [Option.bind_eq_some_iff] at hr
  obtain ⟨e, hd, hr⟩ := hr
  rw [qbl hr]
  have rx := q0z (q0s h hx)
  generalize hvx : a.eval x = ux at rx
  cases d with
  | b p =>
    cases op <;> simp only [unD, Option.some.injEq] at hd <;> first | (cases hd; done) | skip
    subst hd
    cases rx
    exact Out.same h (v := .bool (!p)) (by simp [execOp, ho, hvx, Op.unary]) (fun z hz => by cases hz; exact .d _ _ (.b _))
  | i k p =>
    cases op <;> simp only [unD, Option.some.injEq] at hd <;> first | (cases hd; done) | skip
    subst hd
    cases rx
    exact Out.same h (v := .int k (k.wrap (0 - p))) (by simp [execOp, ho, hvx, Op.unary, Op.intArith]) (fun z hz => by cases hz; exact .d _ _ (.i _ _))
  | _ => cases hd
 ·rename_i b hx
  split at hr
  ·rename_i hop
   rw [qbl hr]; subst hop
   have rx := q0s h hx
   generalize hvx : a.eval x = ux at rx
   cases rx with
   | ub c _ hh => exact Out.same h (v := .bool (!c)) (by simp [execOp, ho, hvx, Op.unary]) (fun z hz => by cases hz; exact .nb _ _ (fun e => hh (by simpa using e)))
  ·cases hr
 ·rename_i b hx
  split at hr
  ·rename_i hop
   rw [qbl hr]; subst hop
   have rx := q0s h hx
   generalize hvx : a.eval x = ux at rx
   cases rx with
   | nb c _ hh => exact Out.same h (v := .bool (!c)) (by simp [execOp, ho, hvx, Op.unary]) (fun z hz => by cases hz; exact .ub _ _ (fun e => hh (by simpa using e)))
  ·cases hr
 ·cases hr
theorem qq5 (h : Rel C E bt s a w) {q : Bool} {o : Oper} {x : Operand} (ho : o.op = .nilCheck x) {r : Res} (hr : aop C q o s = some r) : Out C E o s a w r.dl := by
 simp only [aop, ho] at hr
 split at hr
 ·rename_i v hx
  have rx := q0s h hx
  have hp : (∃ ad, a.eval x = .pointer (some ad)) ∧ q01 v = some r := by
   split at hr
   ·obtain ⟨bk, _, _, e⟩ := qet rx; exact ⟨⟨_, e⟩, hr⟩
   ·obtain ⟨bk, _, _, e⟩ := qj2 rx; exact ⟨⟨_, e⟩, hr⟩
   ·have := q0z rx
    generalize a.eval x = u at this
    cases this; exact ⟨⟨_, rfl⟩, hr⟩
   ·cases hr
  obtain ⟨⟨ad, e⟩, hr⟩ := hp
  rw [qbl hr]
  exact Out.same h (v := .pointer (some ad)) (by simp [execOp, ho, e]) (fun z hz => by cases hz; rw [← e]; exact rx)
 ·cases hr
theorem qq6 (h : Rel C E bt s a w) {q : Bool} {o : Oper} {f : FuncId} {first caps : Array Operand} (ho : o.op = .makeFunc (.func f) first caps) {r : Res} (hr : aop C q o s = some r) : Out C E o s a w r.dl := by
 simp only [aop, ho] at hr
 split at hr
 ·rename_i hfirst
  subst hfirst
  split at hr
  ·rename_i vs hvs
   rw [qbl hr]
   obtain ⟨v1, v2⟩ := qfo hvs
   have hc : ∀ (j : Nat) (v : Value) (x : V), (caps.map a.eval)[j]? = some v → vs[j]? = some x → VR w (Xs E.X0 s.hp bt) bt (Nf s.hp) v x := by
    intro j v x hj hx
    simp only [Array.getElem?_map, Option.map_eq_some_iff] at hj
    obtain ⟨y, hy, rfl⟩ := hj
    obtain ⟨v', g1, g2⟩ := v2 j y (by simpa using hy)
    rw [hx] at g1; cases g1
    exact q0s h g2
   have hn : (caps.map a.eval).size = vs.length := by rw [v1]; simp
   refine Out.same h (v := .func (.func f) #[] (caps.map a.eval)) (by simp [execOp, ho, Instr.makeFunc]) (fun z hz => ?_)
   cases hz
   cases hds : vs.mapM V.asD with
   | none => exact .fn f _ vs hn hc
   | some ds =>
     have e := qn2 hds
     refine .d _ _ (.fn f _ ds (by rw [hn, e]; simp) fun j v d hj hd => ?_)
     exact q0z (hc j v (.d d) hj (by rw [e]; simp [hd]))
  ·cases hr
 ·cases hr
theorem qfp {o : Oper} {b : Builtin} {args : Array Operand} {ts : Array TypeId} (ho : o.op = .call ⟨.builtin b, args, ts⟩) {n : Next} {w' : World}
 (h : (builtin b ts o.type (args.map fun | .const _ => true | _ => false) (args.map a.eval)).run C.P w = .ok n w') : (execOp a.eval o).run C.P w = .ok n w' := by
 simp only [execOp, ho, resolve, invoke, Sem.run_bind, Sem.run_pure, Result.andThen_ok]
 exact h
end
end Go.Ev
namespace Go.Ev
section
variable {C : Cfg} {E : Env} {bt : Nat → Option Nat} {s : St} {a : Act} {w : World} {X : Nat → Prop} {nf : Nat → Prop} {P : Program}
theorem qb8 {v : Value} {k : IntKind} {i : Int} {y : Nat} {c : BoundsCode} (hv : v = .int k i) (h0 : 0 ≤ i) (h1 : i ≤ (y : Int)) : (Instr.sliceBound v y c).run P w = .ok i.toNat w := by
 subst hv
 simp [Instr.sliceBound, asIntOf, h0, h1]
theorem qg3 (h : Rel C E bt s a w) {x : Option Operand} {z l : Int} (hb : qbc s x z = some l) : (x = none ∧ l = z) ∨ ∃ y k, x = some y ∧ a.eval y = .int k l := by
 cases x with
 | none => simp only [qbc, Option.some.injEq] at hb; exact .inl ⟨rfl, hb.symm⟩
 | some y =>
   simp only [qbc] at hb
   unfold qi7 at hb
   split at hb
   ·rename_i k n hv
    cases hb
    have := q0z (q0s h hv)
    generalize hu : a.eval y = u at this
    cases this
    exact .inr ⟨y, k, rfl, hu⟩
   ·cases hb
theorem qfe (h : Rel C E bt s a w) {sl : Bool} {len cap : Nat} {lo hi : Option Operand} {l hh : Int} (hl : qbc s lo 0 = some l) (hhb : qbc s hi len = some hh) (h0 : 0 ≤ l) (h1 : l ≤ hh) (h2 : hh ≤ (cap : Int)) :
 (Instr.sliceBounds sl len cap (lo.map a.eval) (hi.map a.eval) none).run C.P w = .ok (l.toNat, hh.toNat, cap) w := by
 have hle : (hh.toNat : Int) = hh := by omega
 rcases qg3 h hhb with ⟨rfl, e⟩ | ⟨y, k, rfl, e⟩
 ·subst e
  rcases qg3 h hl with ⟨rfl, e⟩ | ⟨y, k, rfl, e⟩
  ·subst e; simp [Instr.sliceBounds]
  ·simp only [Instr.sliceBounds, Option.map_none, Option.map_some, Sem.run_bind, Sem.run_pure, Result.andThen_ok, qb8 (y := len) e h0 h1]
   simp
 ·rcases qg3 h hl with ⟨rfl, e'⟩ | ⟨y', k', rfl, e'⟩
  ·subst e'; simp only [Instr.sliceBounds, Option.map_none, Option.map_some, Sem.run_bind, Sem.run_pure, Result.andThen_ok, qb8 (y := cap) e (by omega) h2]
   simp
  ·simp only [Instr.sliceBounds, Option.map_some, Sem.run_bind, Sem.run_pure, Result.andThen_ok, qb8 (y := cap) e (by omega) h2, qb8 (y := hh.toNat) e' h0 (by omega)]
theorem qnj (h : Rel C E bt s a w) {sl : Bool} {len cap : Nat} {lo hi : Option Operand} {mx : Operand} {l hh m : Int} (hl : qbc s lo 0 = some l) (hhb : qbc s hi len = some hh)
 (hm : qi7 (s.val mx) = some m) (hhi : hi ≠ none) (h0 : 0 ≤ l) (h1 : l ≤ hh) (h2 : hh ≤ m) (h3 : m ≤ (cap : Int)) :
 (Instr.sliceBounds sl len cap (lo.map a.eval) (hi.map a.eval) (some (a.eval mx))).run C.P w = .ok (l.toNat, hh.toNat, m.toNat) w := by
 have hm' := qg3 h (x := some mx) (z := 0) (l := m) (by simpa [qbc] using hm)
 obtain ⟨k3, e3⟩ : ∃ k, a.eval mx = .int k m := by
  rcases hm' with ⟨hh, _⟩ | ⟨y, k, hy, e⟩
  ·cases hh
  ·cases hy; exact ⟨k, e⟩
 rcases qg3 h hhb with ⟨hh, _⟩ | ⟨y, k, rfl, e⟩
 ·exact absurd hh hhi
 ·rcases qg3 h hl with ⟨rfl, e'⟩ | ⟨y', k', rfl, e'⟩
  ·subst e'
   simp only [Instr.sliceBounds, Option.map_none, Option.map_some, Sem.run_bind, Sem.run_pure, Result.andThen_ok, qb8 (y := cap) e3 (by omega) h3, qb8 (y := m.toNat) e (by omega) (by omega)]
   simp
  ·simp only [Instr.sliceBounds, Option.map_some, Sem.run_bind, Sem.run_pure, Result.andThen_ok, qb8 (y := cap) e3 (by omega) h3, qb8 (y := m.toNat) e (by omega) (by omega), qb8 (y := hh.toNat) e' h0 (by omega)]
theorem qed {o : Oper} {t : TypeId} {x : Operand} {lo hi mx : Option Operand} (ho : o.op = .slice t x lo hi mx) (ht : C.P.underlying t = some .string ∨ ∃ e, C.P.underlying t = some (.slice e)) {v : Value} {w' : World}
 (h : (Instr.slice t (a.eval x) (lo.map a.eval) (hi.map a.eval) (mx.map a.eval)).run C.P w = .ok v w') : (execOp a.eval o).run C.P w = .ok (.value v) w' := by
 rcases ht with hu | ⟨e, hu⟩ <;> simp [execOp, ho, Instr.sliceAt, run_underlying hu, h]
theorem qq7 {l : List D} {sz i n : Nat} (hs : ∀ d ∈ l, d.fits sz) : ∀ d ∈ (l.drop i).take n, d.fits sz := fun d hd => hs d (List.mem_of_mem_drop (List.mem_of_mem_take hd))
theorem qdj {t e : TypeId} {n : Nat} (hu : P.underlying t = some (.slice e)) (hn : q0u P e = some n) {ad : Option Addr} {len cap l hh m : Nat} {lo hi mx : Option Value}
 (hb : (Instr.sliceBounds true len cap lo hi mx).run P w = .ok (l, hh, m) w) : (Instr.slice t (.slice ad len cap) lo hi mx).run P w = .ok (.slice (if m = l then ad else ad.map (·.add (l * n))) (hh - l) (m - l)) w := by
 simp [Instr.slice, run_underlying hu, hb, qeb hn]
theorem qw0 (h : Rel C E bt s a w) {q : Bool} {o : Oper} {t : TypeId} {x : Operand} {lo hi mx : Option Operand} (ho : o.op = .slice t x lo hi mx) {r : Res} (hr : aop C q o s = some r) (hok : r.ok) : Out C E o s a w r.dl := by
 simp only [aop, ho] at hr
 split at hr
 ·-- string
  rename_i b hu hx
  unfold qd7 at hr
  split at hr
  ·rename_i l hh hl hhb
   rw [qec hr] at hok ⊢
   obtain ⟨h0, h1, h2⟩ := hok
   have rx := q0z (q0s h hx)
   generalize hvx : a.eval x = ux at rx
   cases rx
   have hb := qfe h (sl := false) (len := b.size) (cap := b.size) hl hhb h0 h1 h2
   refine Out.same h (v := .string (b.extract l.toNat hh.toNat)) (qed ho (.inl hu) ?_) (fun z hz => by cases hz; exact .d _ _ (.s _))
   rw [hvx]
   simp [Instr.slice, run_underlying hu, hb]
  ·cases hr
 ·rename_i e v hu hx
  split at hr
  rotate_left
  ·cases hr
  rename_i n hn
  have rx := q0s h hx
  unfold qeo at hr
  split at hr
  ·-- nil
   split at hr
   ·rename_i l hh hl hhb
    rw [qec hr] at hok ⊢
    obtain ⟨h0, h1, h2⟩ := hok
    have hv := qj4 (q0z rx)
    have hb := qfe h (sl := true) (len := 0) (cap := 0) hl hhb h0 h1 (by simpa using h2)
    have hl0 : l = 0 := by omega
    have hh0 : hh = 0 := by omega
    subst hl0; subst hh0
    refine Out.same h (v := .slice none 0 0) (qed ho (.inr ⟨e, hu⟩) ?_) (fun z hz => by cases hz; exact .d _ _ .nil)
    rw [hv]
    have := qdj (P := C.P) (w := w) hu hn (ad := none) hb
    simpa using this
   ·cases hr
  ·-- data
   rename_i sz ds
   split at hr
   rotate_left
   ·cases hr
   rename_i hsz
   subst hsz
   have rx := q0z rx
   generalize hvx : a.eval x = ux at rx
   split at hr
   ·rename_i l hh hl hhb
    rw [qec hr] at hok ⊢
    obtain ⟨h0, h1, h2⟩ := hok
    cases rx with
    | sl0 _ =>
      have hb := qfe h (sl := true) (len := 0) (cap := 0) hl hhb h0 h1 h2
      have hl0 : l = 0 := by simp at h2; omega
      have hh0 : hh = 0 := by simp at h2; omega
      subst hl0; subst hh0
      refine Out.same h (v := .slice none 0 0) (qed ho (.inr ⟨e, hu⟩) ?_) (fun z hz => by cases hz; exact .d _ _ (by simpa using RD.sl0 sz))
      rw [hvx]
      have := qdj (P := C.P) (w := w) hu hn (ad := none) hb
      simpa using this
    | sl ad cap _ _ u hc hsz0 hs ha hw hrd =>
      have hb := qfe h (sl := true) (len := ds.length) (cap := cap) hl hhb h0 h1 (by omega)
      have hrun := qdj (P := C.P) (w := w) hu hn (ad := some ad) hb
      have hlen : ((ds.drop l.toNat).take (hh.toNat - l.toNat)).length = hh.toNat - l.toNat := by simp; omega
      have hs1 : ∀ d ∈ ds, d.cells.length = sz := fun d hd => (hs d hd).1
      refine Out.same h (qed ho (.inr ⟨e, hu⟩) (by rw [hvx]; exact hrun)) (fun z hz => ?_)
      cases hz
      refine .d _ _ ?_
      by_cases hm : cap = l.toNat
      ·rw [if_pos hm]
       have hz : hh.toNat - l.toNat = 0 := by omega
       have := RD.sl (w := w) (X := Xs E.X0 s.hp bt) ad (cap - l.toNat) sz [] u (by simp) hsz0 (by simp) (fun hne => absurd rfl hne) (fun j d hj => by simp [flat] at hj) (fun j d hj => by simp [flat] at hj)
       rw [hz]
       simpa using this
      ·rw [if_neg hm]
       by_cases hne : (ds.drop l.toNat).take (hh.toNat - l.toNat) = []
       ·rw [hne] at hlen ⊢
        have hz : hh.toNat - l.toNat = 0 := by simpa using hlen.symm
        rw [hz]
        have := RD.sl (w := w) (X := Xs E.X0 s.hp bt) (ad.add (l.toNat * sz)) (cap - l.toNat) sz [] u (by simp) hsz0 (by simp) (fun hne => absurd rfl hne) (fun j d hj => by simp [flat] at hj) (fun j d hj => by simp [flat] at hj)
        simpa using this
       ·have hds : ds ≠ [] := fun e => hne (by rw [e]; simp)
        obtain ⟨hsp, hnx⟩ := ha hds
        obtain ⟨b, o2, sp⟩ := ad
        simp only at hsp hw hnx
        subst hsp
        have hflat : ∀ (j : Nat) (d : D), (flat ((ds.drop l.toNat).take (hh.toNat - l.toNat)))[j]? = some d → (flat ds)[l.toNat * sz + j]? = some d := by
         intro j d hj
         rw [qdd _ (fun d hd => hs1 d (List.mem_of_mem_drop hd)), qhw _ hs1, List.getElem?_take] at hj
         split at hj
         ·rwa [List.getElem?_drop] at hj
         ·cases hj
        have := RD.sl (w := w) (X := Xs E.X0 s.hp bt) ⟨b, o2 + l.toNat * sz, none⟩ (cap - l.toNat) sz _ (fun j => u (l.toNat * sz + j)) (by rw [hlen]; omega) hsz0 (qq7 hs) (fun _ => ⟨rfl, hnx⟩)
         (fun j d hj => by have := hw _ d (hflat j d hj); simpa [Nat.add_assoc] using this) (fun j d hj => hrd _ d (hflat j d hj))
        rw [hlen] at this
        simpa [Addr.add_lit] using this
   ·rename_i l hh m' hl hhb
    split at hr
    ·rename_i m hm
     split at hr
     ·rename_i hsome
      cases hr
      obtain ⟨h0, h1, h2, h3⟩ := hok
      have hhi : hi ≠ none := fun e => by rw [e] at hsome; cases hsome
      have fin : ∀ {ad : Option Addr} {cap : Nat}, a.eval x = .slice ad ds.length cap → ds.length ≤ cap → Out C E o s a w ⟨[], none, []⟩ := by
       intro ad cap hv hc
       have hb := qnj h (sl := true) (len := ds.length) (cap := cap) hl hhb hm hhi h0 h1 h2 (by omega)
       exact Out.same h (qed ho (.inr ⟨e, hu⟩) (by rw [hv]; exact qdj (P := C.P) (w := w) hu hn hb)) (fun z hz => by cases hz)
      cases rx with
      | sl0 _ => exact fin hvx (Nat.le_refl _)
      | sl ad cap _ _ u hc _ _ _ _ _ => exact fin hvx hc
     ·cases hr
    ·cases hr
   ·cases hr
  ·-- a row of the call's own
   rename_i id sz off k
   split at hr
   ·rename_i t' sz' z ds l hh hrow hl hhb
    split at hr
    ·rename_i hc
     obtain ⟨rfl, rfl⟩ := hc
     cases hr
     obtain ⟨h0, h1, h2⟩ := hok
     obtain ⟨hz0, hs, hrest⟩ := h.objs id _ (qdq hrow)
     have hs1 : ∀ d ∈ ds, d.cells.length = sz' := fun d hd => (hs d hd).1
     have hfl := q02 hs1
     rcases (qdg rx).2 with ⟨bk, cap, ad, hb, hv, had, hk, hkk⟩ | ⟨hb, hoff, hk, hv⟩
     ·rcases hrest with ⟨h3, h4⟩ | ⟨bk', cs, h3, h4, h5, h6, h7⟩
      ·rw [hb] at h3; cases h3
      ·rw [hb] at h3; cases h3
       obtain ⟨cs2, t2, q1, q2⟩ := hkk
       rw [h4] at q1; cases q1
       have hcap : ds.length ≤ off + cap := by
        rcases Nat.lt_or_ge (off + cap) ds.length with hlt | hge
        ·have : (off + cap + 1) * sz' ≤ ds.length * sz' := Nat.mul_le_mul_right _ hlt
         rw [Nat.succ_mul] at this
         omega
        ·exact hge
       have hbd := qfe h (sl := true) (len := k) (cap := cap) hl hhb h0 h1 (by omega)
       have hrun := qdj (P := C.P) (w := w) hu hn (ad := some ad) hbd
       have hsum : (off + l.toNat + (cap - l.toNat)) * sz' = cs.size := by rw [← q2]; congr 1; omega
       refine Out.same h (qed ho (.inr ⟨e, hu⟩) (by rw [hv]; exact hrun)) (fun z hz => ?_)
       cases hz
       have hf := (qdg rx).1
       by_cases hcl : cap = l.toNat
       ·rw [if_pos hcl]
        exact .row id sz' (off + l.toNat) _ bk _ ad (.inr (by omega)) hf hb (by omega) ⟨cs, _, h4, hsum⟩
       ·rw [if_neg hcl]
        have had : ad = ⟨bk, off * sz', none⟩ := by
         rcases had with h | h
         ·exact h
         ·omega
        subst had
        simp only [Option.map_some, Addr.add_lit]
        exact .row id sz' (off + l.toNat) _ bk _ _ (.inl (by rw [Nat.add_mul])) hf hb (by omega) ⟨cs, _, h4, hsum⟩
     ·subst hoff; subst hk
      rcases hrest with ⟨h3, h4⟩ | ⟨bk', cs, h3, h4, h5, h6, h7⟩
      ·subst h4
       have hl0 : l = 0 := by simp at h2; omega
       have hh0 : hh = 0 := by simp at h2; omega
       subst hl0; subst hh0
       have hbd := qfe h (sl := true) (len := 0) (cap := 0) hl hhb h0 h1 (by omega)
       have hrun := qdj (P := C.P) (w := w) hu hn (ad := none) hbd
       exact Out.same h (v := .slice none 0 0) (qed ho (.inr ⟨e, hu⟩) (by rw [hv]; simpa using hrun)) (fun z hz => by cases hz; exact .row0 _ _ (qdg rx).1 hb)
      ·rw [hb] at h3; cases h3
    ·cases hr
   ·rename_i t' sz' z ds l hh m' hrow hl hhb
    split at hr
    ·rename_i m hm
     split at hr
     ·rename_i hc
      obtain ⟨rfl, rfl, hsome⟩ := hc
      cases hr
      obtain ⟨h0, h1, h2, h3⟩ := hok
      have hhi : hi ≠ none := fun e => by rw [e] at hsome; cases hsome
      have fin : ∀ {ad : Option Addr} {cap : Nat}, a.eval x = .slice ad k cap → m ≤ (cap : Int) → Out C E o s a w ⟨[], none, [id]⟩ := by
       intro ad cap hv hc
       have hb := qnj h (sl := true) (len := k) (cap := cap) hl hhb hm hhi h0 h1 h2 hc
       exact Out.same h (qed ho (.inr ⟨e, hu⟩) (by rw [hv]; exact qdj (P := C.P) (w := w) hu hn hb)) (fun z hz => by cases hz)
      obtain ⟨hz0, hs, hrest⟩ := h.objs id _ (qdq hrow)
      have hs1 : ∀ d ∈ ds, d.cells.length = sz' := fun d hd => (hs d hd).1
      have hfl := q02 hs1
      rcases (qdg rx).2 with ⟨bk, cap, ad, hb, hv, had, hk, hkk⟩ | ⟨hb, hoff, hk, hv⟩
      ·rcases hrest with ⟨h3', h4⟩ | ⟨bk', cs, h3', h4, h5, h6, h7⟩
       ·rw [hb] at h3'; cases h3'
       ·rw [hb] at h3'; cases h3'
        obtain ⟨cs2, t2, q1, q2⟩ := hkk
        rw [h4] at q1; cases q1
        have hcap : ds.length ≤ off + cap := by
         rcases Nat.lt_or_ge (off + cap) ds.length with hlt | hge
         ·have : (off + cap + 1) * sz' ≤ ds.length * sz' := Nat.mul_le_mul_right _ hlt
          rw [Nat.succ_mul] at this
          omega
         ·exact hge
        exact fin hv (by omega)
      ·subst hoff; subst hk
       rcases hrest with ⟨h3', h4⟩ | ⟨bk', cs, h3', h4, h5, h6, h7⟩
       ·subst h4
        exact fin hv (by simpa using h3)
       ·rw [hb] at h3'; cases h3'
     ·cases hr
    ·cases hr
   ·cases hr
  ·cases hr
 ·cases hr
end
end Go.Ev
namespace Go.Ev
inductive RO (w : World) (X : Nat → Prop) : Value → O → List (Option Nat) → Prop where
 | d (v : Value) (x : D) (h : RD w X v x) : RO w X v (.d x) []
 | nil (t sz : Nat) (h0 : 0 < sz) : RO w X (.slice none 0 0) (.own t sz []) [none]
 | own (t sz bk cap : Nat) (ad : Addr) (cs : Array Value) (l : List D) (had : ad = ⟨bk, 0, none⟩ ∨ cap = 0) (hcap : l.length ≤ cap) (hcs : cap * sz = cs.size)
    (hb : w.heap[bk]? = some (.cells cs t (0, 0))) (h0 : 0 < sz) (hs : ∀ d ∈ l, d.fits sz) (hc : ∀ (j : Nat) (v : Value) (x : D), cs[j]? = some v → (flat l)[j]? = some x → RD w X v x) :
    RO w X (.slice (some ad) l.length cap) (.own t sz l) [some bk]
 | agg (cs : Array Value) (l : List O) (oss : List (List (Option Nat))) (hn : cs.size = l.length) (hm : oss.length = l.length)
    (h : ∀ (j : Nat) (v : Value) (o : O) (os : List (Option Nat)), cs[j]? = some v → l[j]? = some o → oss[j]? = some os → RO w X v o os) : RO w X (.agg cs) (.agg l) oss.flatten
 | tup (cs : Array Value) (l : List O) (oss : List (List (Option Nat))) (hn : cs.size = l.length) (hm : oss.length = l.length)
    (h : ∀ (j : Nat) (v : Value) (o : O) (os : List (Option Nat)), cs[j]? = some v → l[j]? = some o → oss[j]? = some os → RO w X v o os) : RO w X (.tuple cs) (.tup l) oss.flatten
 | bx (t bk : Nat) (cs : Array Value) (l : List O) (oss : List (List (Option Nat))) (hb : w.heap[bk]? = some (.cells cs t (0, 0))) (hn : cs.size = l.length) (hm : oss.length = l.length)
    (h : ∀ (j : Nat) (v : Value) (o : O) (os : List (Option Nat)), cs[j]? = some v → l[j]? = some o → oss[j]? = some os → RO w X v o os) : RO w X (.pointer (some ⟨bk, 0, none⟩)) (.bx t l) (some bk :: oss.flatten)
def qh9 (os : List (Option Nat)) : Prop := ∀ (i j b : Nat), os[i]? = some (some b) → os[j]? = some (some b) → i = j
def Blk (os : List (Option Nat)) (b : Nat) : Prop := some b ∈ os
structure AR (w : World) (X : Nat → Prop) (vs : Array Value) (args : List O) (os : List (Option Nat)) : Prop where
 n : vs.size = args.length
 h : ∃ oss : List (List (Option Nat)), oss.length = args.length ∧ os = oss.flatten ∧
   ∀ (j : Nat) (v : Value) (o : O) (q : List (Option Nat)), vs[j]? = some v → args[j]? = some o → oss[j]? = some q → RO w X v o q
def qbj : List O → List Value → List Value
 | .bx _ _ :: l, v :: vs => v :: qbj l vs
 | _ :: l, _ :: vs => qbj l vs
 | _, _ => []
def Ret (args : List O) (vs : List Value) (v u : Value) : Prop :=
 match qbj args vs with
 | [] => u = v
 | ps => ∃ us : List Value, u = .tuple (us ++ ps).toArray ∧ v = match us with | [x] => x | us => .tuple us.toArray
def Sem (P : Program) (f : FuncId) (args : List O) (r : O) : Prop :=
 ∀ (w : World) (vs : Array Value) (X : Nat → Prop) (os : List (Option Nat)), (∀ b, X b → b < w.heap.size) → qh9 os → (∀ b, Blk os b → ¬ X b) → AR w (fun b => X b ∨ Blk os b) vs args os → GI w (fun b => X b ∨ Blk os b) →
   Calls P f vs w fun e w' => ∃ v u os', e = .returned v ∧ Ret args vs.toList v u ∧ RO w' (fun b => X b ∨ Blk os' b) u r os' ∧ qh9 os' ∧ (∀ b, Blk os' b → ¬ X b ∧ (Blk os b ∨ w.heap.size ≤ b)) ∧ Fr (Blk os) w w'
structure InOk (w : World) (X : Nat → Prop) (bt : Nat → Option Nat) (nf : Nat → Prop) (b j : Nat) (v : Value) (os : List (Option Nat)) (x : V) (H : List (Nat × HS)) (j' : Nat) : Prop where
 cnt : j' = j + os.length
 val : VR w X bt nf v x
 rows : ∀ p ∈ H, ∃ k o, k < os.length ∧ p = (b + j + k, .live o) ∧ OR w X bt nf (b + j + k) o
 all : ∀ k, k < os.length → ∃ p ∈ H, p.1 = b + j + k
 nodup : (H.map (·.1)).Nodup
theorem qmu {w : World} {X : Nat → Prop} {bt : Nat → Option Nat} {nf : Nat → Prop} {b j : Nat} {v : Value} {o : O} {os : List (Option Nat)} (h : RO w X v o os) (ho : o.ok1 = true)
 (hbt : ∀ (k : Nat) (q : Option Nat), os[k]? = some q → bt (b + j + k) = q) (hnf : ∀ k, k < os.length → nf (b + j + k)) :
 InOk w X bt nf b j v os (inO1 b j o).1 (inO1 b j o).2.1 (inO1 b j o).2.2 := by
 cases h with
 | d v x h => exact ⟨rfl, .d _ _ h, by simp [inO1], by simp, by simp [inO1]⟩
 | nil t sz h0 =>
   refine ⟨rfl, .row0 _ _ (hnf 0 (by simp)) (hbt 0 none rfl), ?_, ?_, by simp [inO1]⟩
   ·intro p hp
    simp only [inO1, List.mem_singleton] at hp
    exact ⟨0, .row t sz false [], by simp, by simpa using hp, h0, by simp, .inl ⟨hbt 0 none rfl, rfl⟩⟩
   ·intro k hk
    simp at hk; subst hk
    exact ⟨(b + j, .live (.row t sz false [])), by simp [inO1], by simp⟩
 | own t sz bk cap ad cs l had hcap hcs hb h0 hs hc =>
   refine ⟨rfl, ?_, ?_, ?_, by simp [inO1]⟩
   ·exact .row _ _ 0 _ bk cap ad (by simpa using had) (hnf 0 (by simp)) (hbt 0 _ rfl) hcap ⟨cs, t, hb, by rw [Nat.zero_add]; exact hcs⟩
   ·intro p hp
    simp only [inO1, List.mem_singleton] at hp
    refine ⟨0, .row t sz false l, by simp, by simpa using hp, h0, hs, .inr ⟨bk, cs, hbt 0 _ rfl, hb, (fun hf => Bool.noConfusion hf), ?_, hc⟩⟩
    rw [q02 (fun d hd => (hs d hd).1), ← hcs]
    exact Nat.mul_le_mul_right _ hcap
   ·intro k hk
    simp at hk; subst hk
    exact ⟨(b + j, .live (.row t sz false l)), by simp [inO1], by simp⟩
 | agg _ _ _ _ _ _ => cases ho
 | tup _ _ _ _ _ _ => cases ho
 | bx _ _ _ _ _ _ _ _ _ => cases ho
theorem qmv {w : World} {X : Nat → Prop} {bt : Nat → Option Nat} {nf : Nat → Prop} {b : Nat} {f : Nat → O → V × List (Nat × HS) × Nat} {ok : O → Bool}
 (hf : ∀ {j : Nat} {v : Value} {o : O} {os : List (Option Nat)}, RO w X v o os → ok o = true → (∀ (k : Nat) (q : Option Nat), os[k]? = some q → bt (b + j + k) = q) → (∀ k, k < os.length → nf (b + j + k)) →
   InOk w X bt nf b j v os (f j o).1 (f j o).2.1 (f j o).2.2) :
 ∀ (l : List O) (j : Nat) (cs : List Value) (oss : List (List (Option Nat))), cs.length = l.length → oss.length = l.length → l.all ok = true →
   (∀ (k : Nat) (v : Value) (o : O) (os : List (Option Nat)), cs[k]? = some v → l[k]? = some o → oss[k]? = some os → RO w X v o os) →
   (∀ (k : Nat) (q : Option Nat), oss.flatten[k]? = some q → bt (b + j + k) = q) → (∀ k, k < oss.flatten.length → nf (b + j + k)) →
   (inOs f j l).1.length = l.length ∧ (inOs f j l).2.2 = j + oss.flatten.length ∧ (∀ (k : Nat) (v : Value) (x : V), cs[k]? = some v → (inOs f j l).1[k]? = some x → VR w X bt nf v x) ∧
   (∀ p ∈ (inOs f j l).2.1, ∃ k o', k < oss.flatten.length ∧ p = (b + j + k, .live o') ∧ OR w X bt nf (b + j + k) o') ∧
   (∀ k, k < oss.flatten.length → ∃ p ∈ (inOs f j l).2.1, p.1 = b + j + k) ∧ ((inOs f j l).2.1.map (·.1)).Nodup
 | [], j, cs, oss, hc, ho, _, _, _, _ => by
   have e1 : cs = [] := List.eq_nil_of_length_eq_zero (by simpa using hc)
   have e2 : oss = [] := List.eq_nil_of_length_eq_zero (by simpa using ho)
   subst e1; subst e2
   simp [inOs]
 | o :: l, j, c :: cs, os :: oss, hc, ho, hall, h, hbt, hnf => by
   simp only [List.all_cons, Bool.and_eq_true] at hall
   have h1 := hf (j := j) (h 0 c o os rfl rfl rfl) hall.1 (fun k q hk => hbt k q (by
    have := (List.getElem?_eq_some_iff.1 hk).1
    rw [List.flatten_cons, List.getElem?_append_left this]; exact hk))
    (fun k hk => hnf k (by simp; omega))
   have hj := h1.cnt
   obtain ⟨g1, g2, g3, g4, g5, g6⟩ := qmv hf l (j + os.length) cs oss (by simpa using hc) (by simpa using ho) hall.2 (fun k v o q hk hl hq => h (k + 1) v o q (by simpa using hk) (by simpa using hl) (by simpa using hq))
    (fun k q hk => by
      have := hbt (os.length + k) q (by rw [List.flatten_cons, List.getElem?_append_right (by omega)]; simpa using hk)
      rwa [← Nat.add_assoc, Nat.add_assoc b, ] at this)
    (fun k hk => by
      have := hnf (os.length + k) (by simp at hk ⊢; omega)
      rwa [← Nat.add_assoc, Nat.add_assoc b] at this)
   have e : inOs f j (o :: l) = ((f j o).1 :: (inOs f (j + os.length) l).1, (f j o).2.1 ++ (inOs f (j + os.length) l).2.1, (inOs f (j + os.length) l).2.2) := by
    simp only [inOs]; rw [hj]
   rw [e]
   refine ⟨by simp [g1], by simp [g2]; omega, fun k v x hk hx => ?_, fun p hp => ?_, fun k hk => ?_, ?_⟩
   ·cases k with
    | zero => simp at hk hx; subst hk; subst hx; exact h1.val
    | succ k => simp at hk hx; exact g3 k v x hk hx
   ·rcases List.mem_append.1 hp with hp | hp
    ·obtain ⟨k, o', q1, q2, q3⟩ := h1.rows p hp
     exact ⟨k, o', by simp; omega, q2, q3⟩
    ·obtain ⟨k, o', q1, q2, q3⟩ := g4 p hp
     refine ⟨os.length + k, o', by simp at q1 ⊢; omega, ?_, ?_⟩
     ·rw [q2]; congr 1; omega
     ·rwa [show b + j + (os.length + k) = b + (j + os.length) + k by omega]
   ·by_cases hlt : k < os.length
    ·obtain ⟨p, hp, e⟩ := h1.all k hlt
     exact ⟨p, by simp [hp], e⟩
    ·obtain ⟨p, hp, e⟩ := g5 (k - os.length) (by simp at hk ⊢; omega)
     exact ⟨p, by simp [hp], by omega⟩
   ·rw [List.map_append, List.nodup_append]
    refine ⟨h1.nodup, g6, ?_⟩
    intro x hx y hy hxy
    subst hxy
    simp only [List.mem_map] at hx hy
    obtain ⟨p, hp, rfl⟩ := hx
    obtain ⟨q, hq, e⟩ := hy
    obtain ⟨k, _, q1, q2, _⟩ := h1.rows p hp
    obtain ⟨k', _, _, q4, _⟩ := g4 q hq
    rw [q2, q4] at e
    simp only at e
    omega
theorem qj7 {w : World} {X : Nat → Prop} {bt : Nat → Option Nat} {nf : Nat → Prop} {b j : Nat} {v : Value} {o : O} {os : List (Option Nat)} (h : RO w X v o os) (ho : o.ok2 = true)
 (hbt : ∀ (k : Nat) (q : Option Nat), os[k]? = some q → bt (b + j + k) = q) (hnf : ∀ k, k < os.length → nf (b + j + k)) :
 InOk w X bt nf b j v os (inO2 b j o).1 (inO2 b j o).2.1 (inO2 b j o).2.2 := by
 cases o with
 | agg l =>
   cases h with
   | agg cs _ oss hn hm h =>
     obtain ⟨g1, g2, g3, g4, g5, g6⟩ := qmv (ok := O.ok1) (f := inO1 b) (fun h ho hbt hnf => qmu h ho hbt hnf) l j cs.toList oss (by simpa using hn) hm (by simpa [O.ok2] using ho)
      (fun k v o os hk hl hq => h k v o os (by simpa using hk) hl hq) hbt hnf
     exact ⟨g2, .agg cs _ (by rw [hn]; exact g1.symm) (fun k v x hk hx => g3 k v x (by simpa using hk) hx), g4, g5, g6⟩
 | d x => exact qmu h rfl hbt hnf
 | own t sz l => exact qmu h rfl hbt hnf
 | tup l => cases ho
 | bx t l =>
   cases h with
   | bx _ bk cs _ oss hb hn hm h =>
     obtain ⟨g1, g2, g3, g4, g5, g6⟩ := qmv (ok := O.ok1) (f := inO1 b) (fun h ho hbt hnf => qmu h ho hbt hnf) l (j + 1) cs.toList oss (by simpa using hn) hm (by simpa [O.ok2] using ho)
      (fun k v o os hk hl hq => h k v o os (by simpa using hk) hl hq) (fun k q hk => by
        have := hbt (k + 1) q (by simpa using hk)
        rwa [show b + j + (k + 1) = b + (j + 1) + k by omega] at this)
      (fun k hk => by
        have := hnf (k + 1) (by simpa using hk)
        rwa [show b + j + (k + 1) = b + (j + 1) + k by omega] at this)
     have hb0 : bt (b + j) = some bk := hbt 0 _ rfl
     refine ⟨by show (inOs (inO1 b) (j + 1) l).2.2 = _; rw [g2]; simp; omega, .ptr (b + j) 0 bk (hnf 0 (by simp)) hb0, ?_, ?_, ?_⟩
     ·intro p hp
      rcases List.mem_cons.1 hp with rfl | hp
      ·exact ⟨0, .box t (inOs (inO1 b) (j + 1) l).1, by simp, rfl, bk, cs, hb0, hb, by rw [hn]; exact g1.symm, fun k v x hk hx => g3 k v x (by simpa using hk) hx⟩
      ·obtain ⟨k, o, q1, q2, q3⟩ := g4 p hp
       refine ⟨k + 1, o, by simpa using q1, ?_, ?_⟩
       ·rw [q2]; congr 1; omega
       ·rwa [show b + j + (k + 1) = b + (j + 1) + k by omega]
     ·intro k hk
      cases k with
      | zero => exact ⟨_, List.mem_cons_self, rfl⟩
      | succ k =>
        obtain ⟨p, hp, e⟩ := g5 k (by simpa using hk)
        exact ⟨p, List.mem_cons_of_mem _ hp, by omega⟩
     ·show ((b + j, HS.live (.box t (inOs (inO1 b) (j + 1) l).1)) :: (inOs (inO1 b) (j + 1) l).2.1 |>.map (·.1)).Nodup
      rw [List.map_cons, List.nodup_cons]
      refine ⟨fun hm => ?_, g6⟩
      rw [List.mem_map] at hm
      obtain ⟨p, hp, e⟩ := hm
      obtain ⟨k, o, _, q2, _⟩ := g4 p hp
      rw [q2] at e
      simp only at e
      omega
theorem qj8 {w : World} {X : Nat → Prop} {bt : Nat → Option Nat} {nf : Nat → Prop} {b : Nat} {v : Value} {o : O} {os : List (Option Nat)} (h : RO w X v o os) (ho : o.ok = true)
 (hbt : ∀ (k : Nat) (q : Option Nat), os[k]? = some q → bt (b + k) = q) (hnf : ∀ k, k < os.length → nf (b + k)) :
 InOk w X bt nf b 0 v os (inO b o).1 (inO b o).2.1 (inO b o).2.2 := by
 cases o with
 | tup l =>
   cases h with
   | tup cs _ oss hn hm h =>
     obtain ⟨g1, g2, g3, g4, g5, g6⟩ := qmv (ok := O.ok2) (f := inO2 b) (fun h ho hbt hnf => qj7 h ho hbt hnf) l 0 cs.toList oss (by simpa using hn) hm (by simpa [O.ok] using ho)
      (fun k v o os hk hl hq => h k v o os (by simpa using hk) hl hq) hbt hnf
     exact ⟨g2, .tup cs _ (by rw [hn]; exact g1.symm) (fun k v x hk hx => g3 k v x (by simpa using hk) hx), g4, g5, g6⟩
 | d x => exact qj7 (b := b) (j := 0) h rfl hbt hnf
 | own t sz l => exact qj7 (b := b) (j := 0) h rfl hbt hnf
 | bx t l => exact qj7 (b := b) (j := 0) h ho hbt hnf
 | agg l => exact qj7 (b := b) (j := 0) h ho hbt hnf
end Go.Ev
namespace Go.Ev
section
variable {C : Cfg} {E : Env} {bt : Nat → Option Nat} {s : St} {a : Act} {w : World} {X : Nat → Prop} {nf : Nat → Prop} {P : Program}
theorem qg4 {x : V} {d : D} {is : List Nat} (h : toD1 s x = some (d, is)) : ∀ id ∈ is, (s.hp id).obj?.isSome = true := by
 cases x with
 | d y => simp only [toD1, Option.some.injEq, Prod.mk.injEq] at h; obtain ⟨rfl, rfl⟩ := h; simp
 | row id sz off n =>
   simp only [toD1] at h
   cases hrow : qbk s id with
   | none => simp [hrow] at h
   | some q =>
     obtain ⟨t, sz', z, l⟩ := q
     simp only [hrow] at h
     split at h
     ·cases h
      intro i hi; simp at hi; subst hi
      rw [qdq hrow]; rfl
     ·cases h
 | _ => cases h
theorem qix {f : V → Option (D × List Nat)} (hf : ∀ {x : V} {d : D} {is : List Nat}, f x = some (d, is) → ∀ id ∈ is, (s.hp id).obj?.isSome = true) :
 ∀ {l : List V} {xs : List D} {is : List Nat}, toDs f l = some (xs, is) → ∀ id ∈ is, (s.hp id).obj?.isSome = true
 | [], xs, is, h => by simp [toDs] at h; obtain ⟨rfl, rfl⟩ := h; simp
 | v :: l, xs, is, h => by
   simp only [toDs] at h
   split at h
   ·rename_i x i xs' is' h1 h2
    cases h
    intro id hid
    rcases List.mem_append.1 hid with hid | hid
    ·exact hf h1 id hid
    ·exact qix hf h2 id hid
   ·cases h
theorem qd2 {x : V} {d : D} {is : List Nat} (h : toD2 s x = some (d, is)) : ∀ id ∈ is, (s.hp id).obj?.isSome = true := by
 cases x with
 | agg l =>
   simp only [toD2, Option.map_eq_some_iff, Prod.mk.injEq] at h
   obtain ⟨⟨xs, is'⟩, hds, rfl, rfl⟩ := h
   exact qix qg4 hds
 | ptr id off =>
   simp only [toD2] at h
   cases hbox : qda s id with
   | none => simp [hbox] at h
   | some c =>
     simp only [hbox, Option.map_eq_some_iff, Prod.mk.injEq] at h
     obtain ⟨⟨xs, is'⟩, hds, rfl, rfl⟩ := h
     obtain ⟨t, ho⟩ := qh8 hbox
     intro i hi
     rcases List.mem_cons.1 hi with rfl | hi
     ·rw [ho]; rfl
     ·exact qix qg4 hds i hi
 | rp id sz j off =>
   simp only [toD2] at h
   cases hrow : qbk s id with
   | none => simp [hrow] at h
   | some q =>
     obtain ⟨t, sz', z, l⟩ := q
     simp only [hrow] at h
     split at h
     ·simp only [Option.map_eq_some_iff, Prod.mk.injEq] at h
      obtain ⟨e, he, rfl, rfl⟩ := h
      intro i hi; simp at hi; subst hi
      rw [qdq hrow]; rfl
     ·cases h
 | d y => exact qg4 (x := .d y) h
 | row id sz off n => exact qg4 (x := .row id sz off n) h
 | fn f l => cases h
 | tup l => cases h
 | opt g x => cases h
 | ub x => cases h
 | nb x => cases h
 | mref x => cases h
theorem qul {x : V} {d : D} {is : List Nat} (h : toD3 s x = some (d, is)) : ∀ id ∈ is, (s.hp id).obj?.isSome = true := by
 cases x with
 | fn f l =>
   simp only [toD3, Option.map_eq_some_iff, Prod.mk.injEq] at h
   obtain ⟨⟨xs, is'⟩, hds, rfl, rfl⟩ := h
   exact qix qd2 hds
 | mref i =>
   simp only [toD3] at h
   split at h
   ·rename_i ks vs hm
    simp only [Option.map_eq_some_iff, Prod.mk.injEq] at h
    obtain ⟨⟨xs, is'⟩, hds, rfl, rfl⟩ := h
    obtain ⟨t, ho⟩ := qlq hm
    intro id hid
    rcases List.mem_cons.1 hid with rfl | hid
    ·rw [ho]; rfl
    ·exact qix qd2 hds id hid
   ·cases h
 | d y => exact qd2 (x := .d y) h
 | agg l => exact qd2 (x := .agg l) h
 | ptr i o => exact qd2 (x := .ptr i o) h
 | row i z o n => exact qd2 (x := .row i z o n) h
 | rp i z j o => exact qd2 (x := .rp i z j o) h
 | tup l => exact qd2 (x := .tup l) h
 | opt g y => exact qd2 (x := .opt g y) h
 | ub y => exact qd2 (x := .ub y) h
 | nb y => exact qd2 (x := .nb y) h
theorem qo2 (h : Rel C E bt s a w) {v : Value} {x : V} {t sz : Nat} (hv : VR w (Xs E.X0 s.hp bt) bt (Nf s.hp) v x) {o : O} {id : Option Nat} (ht : qdf s t sz x = some (o, id))
 {X' : Nat → Prop} (hX : ∀ b, X' b → Xs E.X0 s.hp bt b) : RO w X' v o [id.bind bt] ∧ ∀ i, id = some i → (s.hp i).isLive = true := by
 cases x with
 | d y =>
   cases y with
   | nil =>
     simp only [qdf] at ht
     split at ht
     ·rename_i h0
      cases ht
      rw [qj4 (q0z hv)]
      exact ⟨.nil t sz h0, fun i hi => by cases hi⟩
     ·cases ht
   | _ => cases ht
 | row id0 sz' off n =>
   simp only [qdf] at ht
   cases hrow : qb5 s id0 with
   | none => simp [hrow] at ht
   | some q =>
     obtain ⟨t', sz'', z, l⟩ := q
     simp only [hrow] at ht
     split at ht
     ·rename_i hc
      obtain ⟨rfl, rfl, rfl, rfl, hn⟩ := hc
      cases ht
      have hlive := qeu hrow
      refine ⟨?_, fun i hi => by cases hi; rw [hlive]; rfl⟩
      obtain ⟨h0, hs, hrest⟩ := h.objs id0 _ (show (s.hp id0).obj? = some (.row t' sz'' z l) by rw [hlive]; rfl)
      have hs1 : ∀ d ∈ l, d.cells.length = sz'' := fun d hd => (hs d hd).1
      have hlen : (l.take n).length = n := by simp; omega
      rcases (qdg hv).2 with ⟨bk, cap, ad, hb, rfl, had, hcap, hk⟩ | ⟨hb, _, hn0, rfl⟩
      ·rcases hrest with ⟨h3, h4⟩ | ⟨bk', cs, h3, h4, h5, h6, h7⟩
       ·rw [hb] at h3; cases h3
       ·rw [hb] at h3; cases h3
        obtain ⟨cs2, t2, q1, q2⟩ := hk
        rw [h4] at q1; cases q1
        rw [Nat.zero_add] at q2
        have := RO.own (w := w) (X := X') t' sz'' bk cap ad cs (l.take n) (by simpa using had) (by omega) q2 h4 h0 (fun d hd => hs d (List.mem_of_mem_take hd)) (fun j v x hj hx => by
         rw [qdd n hs1, List.getElem?_take] at hx
         split at hx
         ·exact (h7 j v x hj hx).mono hX
         ·cases hx)
        rw [hlen] at this
        simpa [hb] using this
      ·subst hn0
       simpa [hb] using RO.nil (w := w) (X := X') t' sz'' h0
     ·cases ht
 | _ => cases ht
def qo3 (bt : Nat → Option Nat) (rd : List Nat) (X' : Nat → Prop) : Prop := ∀ b, X' b → ∀ id ∈ rd, bt id ≠ some b
theorem qho (h : Rel C E bt s a w) (mv : List (Nat × TypeId × Nat)) {X' : Nat → Prop} (hX : ∀ b, X' b → Xs E.X0 s.hp bt b) :
 ∀ (l : List V) (j : Nat) (cs : List Value) (os : List O) (rd : List Nat) (tk : List (Option Nat)), qcp s mv j l = some (os, rd, tk) → cs.length = l.length →
   (∀ (k : Nat) (v : Value) (x : V), cs[k]? = some v → l[k]? = some x → VR w (Xs E.X0 s.hp bt) bt (Nf s.hp) v x) → qo3 bt rd X' →
   os.length = l.length ∧ (∃ oss : List (List (Option Nat)), oss.length = l.length ∧ tk.map (·.bind bt) = oss.flatten ∧
    ∀ (k : Nat) (v : Value) (o : O) (q : List (Option Nat)), cs[k]? = some v → os[k]? = some o → oss[k]? = some q → RO w X' v o q) ∧
   (∀ i, some i ∈ tk → (s.hp i).isLive = true) ∧ (∀ i ∈ rd, (s.hp i).obj?.isSome = true)
 | [], j, cs, os, rd, tk, ha, hc, hv, hR => by
   simp only [qcp, Option.some.injEq, Prod.mk.injEq] at ha
   obtain ⟨rfl, rfl, rfl⟩ := ha
   exact ⟨rfl, ⟨[], rfl, rfl, fun k v o q _ ho => by simp at ho⟩, by simp, by simp⟩
 | x :: l, j, c :: cs, os, rd, tk, ha, hc, hv, hR => by
   simp only [qcp] at ha
   split at ha
   ·cases ha
   ·rename_i os' rd' tk' hl
    have hvx := hv 0 c x rfl rfl
    split at ha
    ·rename_i t sz hm
     split at ha
     ·rename_i o id ht
      cases ha
      obtain ⟨g1, ⟨oss, g2, g3, g4⟩, g5, g6⟩ := qho h mv hX l (j + 1) cs os' rd tk' hl (by simpa using hc) (fun k v x hk hx => hv (k + 1) v x (by simpa using hk) (by simpa using hx)) hR
      obtain ⟨r1, r2⟩ := qo2 h hvx ht hX
      refine ⟨by simp [g1], ⟨[id.bind bt] :: oss, by simp [g2], by simp [g3], fun k v o' q hk ho hq => ?_⟩, ?_, g6⟩
      ·cases k with
       | zero => simp at hk ho hq; subst hk; subst ho; subst hq; exact r1
       | succ k => simp at hk ho hq; exact g4 k v o' q hk ho hq
      ·intro i hi
       rcases List.mem_cons.1 hi with hi | hi
       ·exact r2 i hi.symm
       ·exact g5 i hi
     ·cases ha
    ·split at ha
     ·rename_i d is hd
      cases ha
      obtain ⟨g1, ⟨oss, g2, g3, g4⟩, g5, g6⟩ := qho h mv hX l (j + 1) cs os' rd' tk hl (by simpa using hc) (fun k v x hk hx => hv (k + 1) v x (by simpa using hk) (by simpa using hx)) (fun b hb id hid => hR b hb id (by simp [hid]))
      refine ⟨by simp [g1], ⟨[] :: oss, by simp [g2], by simp [g3], fun k v o' q hk ho hq => ?_⟩, g5, ?_⟩
      ·cases k with
       | zero =>
         simp at hk ho hq; subst hk; subst ho; subst hq
         exact .d _ _ ((qik h hvx hd).mono fun b hb => ⟨hX b hb, fun id hid => hR b hb id (by simp [hid])⟩)
       | succ k => simp at hk ho hq; exact g4 k v o' q hk ho hq
      ·intro i hi
       rcases List.mem_append.1 hi with hi | hi
       ·exact qg4 hd i hi
       ·exact g6 i hi
     ·cases ha
theorem qq8 (h : Rel C E bt s a w) {mv : List (Nat × TypeId × Nat)} {X' : Nat → Prop} (hX : ∀ b, X' b → Xs E.X0 s.hp bt b) {v : Value} {x : V} (hv : VR w (Xs E.X0 s.hp bt) bt (Nf s.hp) v x)
 {o : O} {rd : List Nat} {tk : List (Option Nat)} (ha : argO s mv x = some (o, rd, tk)) (hR : qo3 bt rd X') :
 RO w X' v o (tk.map (·.bind bt)) ∧ (∀ i, some i ∈ tk → (s.hp i).isLive = true) ∧ (∀ i ∈ rd, (s.hp i).obj?.isSome = true) := by
 unfold argO at ha
 split at ha
 ·simp only [Option.map_eq_some_iff, Prod.mk.injEq] at ha
  obtain ⟨⟨d, is⟩, hd, rfl, rfl, rfl⟩ := ha
  exact ⟨.d _ _ ((qq2 h hv hd).mono fun b hb => ⟨hX b hb, hR b hb⟩), by simp, qul hd⟩
 ·rename_i k0 t sz rest
  have agg : ∀ {cs : Array Value} {l : List V}, cs.size = l.length → (∀ (k : Nat) (v : Value) (x : V), cs[k]? = some v → l[k]? = some x → VR w (Xs E.X0 s.hp bt) bt (Nf s.hp) v x) →
   (qcp s ((k0, t, sz) :: rest) 0 l).map (fun (os, rd, tk) => (O.agg os, rd, tk)) = some (o, rd, tk) →
   RO w X' (.agg cs) o (tk.map (·.bind bt)) ∧ (∀ i, some i ∈ tk → (s.hp i).isLive = true) ∧ (∀ i ∈ rd, (s.hp i).obj?.isSome = true) := by
   intro cs l hn hc ha
   simp only [Option.map_eq_some_iff, Prod.mk.injEq] at ha
   obtain ⟨⟨os, rd', tk'⟩, hl, rfl, rfl, rfl⟩ := ha
   obtain ⟨g1, ⟨oss, g2, g3, g4⟩, g5, g6⟩ := qho h _ hX l 0 cs.toList os rd' tk' hl (by simpa using hn) (fun k v x hk hx => hc k v x (by simpa using hk) hx) hR
   refine ⟨?_, g5, g6⟩
   rw [g3]
   exact .agg cs os oss (by omega) (by omega) (fun k v o q hk ho hq => g4 k v o q (by simpa using hk) ho hq)
  split at ha
  ·split at ha
   ·rename_i id0
    split at ha
    ·rename_i t' c hobj
     split at ha
     ·rename_i et
      subst et
      simp only [Option.map_eq_some_iff, Prod.mk.injEq] at ha
      obtain ⟨⟨os, rd', tk'⟩, hl, rfl, rfl, rfl⟩ := ha
      obtain ⟨bk, hb, _, rfl⟩ := qet hv
      obtain ⟨bk', cs, h1, h2, h3, h4⟩ := h.objs id0 (.box t' c) (by rw [hobj]; rfl)
      rw [hb] at h1; cases h1
      obtain ⟨g1, ⟨oss, g2, g3, g4⟩, g5, g6⟩ := qho h _ hX c 0 cs.toList os rd' tk' hl (by simpa using h3) (fun k v x hk hx => h4 k v x (by simpa using hk) hx) hR
      refine ⟨?_, fun i hi => ?_, g6⟩
      ·rw [List.map_cons, g3]
       simp only [Option.bind_some, hb]
       exact .bx t' bk cs os oss h2 (by omega) (by omega) (fun k v o q hk ho hq => g4 k v o q (by simpa using hk) ho hq)
      ·rcases List.mem_cons.1 hi with hi | hi
       ·cases hi; rw [hobj]; rfl
       ·exact g5 i hi
     ·cases ha
    ·cases ha
   ·cases ha
  split at ha
  ·rename_i l
   cases hv with
   | agg cs _ hn hc => exact agg hn hc ha
  ·rename_i l
   have hv := q0z hv
   cases hv with
   | agg cs _ hn hc =>
     exact agg (l := l.map V.d) (by simpa using hn) (fun k v x hk hx => by
      simp only [List.getElem?_map, Option.map_eq_some_iff] at hx
      obtain ⟨d, hd, rfl⟩ := hx
      exact .d _ _ (hc k v d hk hd)) ha
  ·simp only [Option.map_eq_some_iff, Prod.mk.injEq] at ha
   obtain ⟨⟨o', id⟩, ht, rfl, rfl, rfl⟩ := ha
   obtain ⟨r1, r2⟩ := qo2 h hv ht hX
   exact ⟨by simpa using r1, fun i hi => r2 i (by simp at hi; exact hi.symm), by simp⟩
theorem qkw (h : Rel C E bt s a w) (mv : Nat → List (Nat × TypeId × Nat)) {X' : Nat → Prop} (hX : ∀ b, X' b → Xs E.X0 s.hp bt b) :
 ∀ (l : List V) (j : Nat) (cs : List Value) (os : List O) (rd : List Nat) (tk : List (Option Nat)), qc1 s mv j l = some (os, rd, tk) → cs.length = l.length →
   (∀ (k : Nat) (v : Value) (x : V), cs[k]? = some v → l[k]? = some x → VR w (Xs E.X0 s.hp bt) bt (Nf s.hp) v x) → qo3 bt rd X' →
   os.length = l.length ∧ (∃ oss : List (List (Option Nat)), oss.length = l.length ∧ tk.map (·.bind bt) = oss.flatten ∧
    ∀ (k : Nat) (v : Value) (o : O) (q : List (Option Nat)), cs[k]? = some v → os[k]? = some o → oss[k]? = some q → RO w X' v o q)
 | [], j, cs, os, rd, tk, ha, hc, hv, hR => by
   simp only [qc1, Option.some.injEq, Prod.mk.injEq] at ha
   obtain ⟨rfl, rfl, rfl⟩ := ha
   exact ⟨rfl, ⟨[], rfl, rfl, fun k v o q _ ho => by simp at ho⟩⟩
 | x :: l, j, c :: cs, os, rd, tk, ha, hc, hv, hR => by
   simp only [qc1] at ha
   split at ha
   ·rename_i o rd1 tk1 os' rd' tk' h1 hl
    cases ha
    obtain ⟨r1, _, _⟩ := qq8 h hX (hv 0 c x rfl rfl) h1 (fun b hb id hid => hR b hb id (by simp [hid]))
    obtain ⟨g1, ⟨oss, g2, g3, g4⟩⟩ := qkw h mv hX l (j + 1) cs os' rd' tk' hl (by simpa using hc) (fun k v x hk hx => hv (k + 1) v x (by simpa using hk) (by simpa using hx)) (fun b hb id hid => hR b hb id (by simp [hid]))
    refine ⟨by simp [g1], ⟨tk1.map (·.bind bt) :: oss, by simp [g2], by simp [g3], fun k v o' q hk ho hq => ?_⟩⟩
    cases k with
    | zero => simp at hk ho hq; subst hk; subst ho; subst hq; exact r1
    | succ k => simp at hk ho hq; exact g4 k v o' q hk ho hq
   ·cases ha
theorem qiy {mv : List (Nat × TypeId × Nat)} : ∀ {l : List V} {j : Nat} {os : List O} {rd : List Nat} {tk : List (Option Nat)}, qcp s mv j l = some (os, rd, tk) →
 (∀ i, some i ∈ tk → (s.hp i).isLive = true) ∧ (∀ i ∈ rd, (s.hp i).obj?.isSome = true) := by
 intro l
 induction l with
 | nil =>
   intro j os rd tk ha
   simp only [qcp, Option.some.injEq, Prod.mk.injEq] at ha
   obtain ⟨rfl, rfl, rfl⟩ := ha
   simp
 | cons x l ih =>
   intro j os rd tk ha
   simp only [qcp] at ha
   split at ha
   ·cases ha
   ·rename_i os' rd' tk' hl
    obtain ⟨g5, g6⟩ := ih hl
    split at ha
    ·split at ha
     ·rename_i o id ht
      cases ha
      refine ⟨fun i hi => ?_, g6⟩
      rcases List.mem_cons.1 hi with hi | hi
      ·subst hi
       unfold qdf at ht
       split at ht
       ·split at ht <;> cases ht
       ·split at ht
        ·rename_i hrow
         split at ht
         ·cases ht; rw [qeu hrow]; rfl
         ·cases ht
        ·cases ht
       ·cases ht
      ·exact g5 i hi
     ·cases ha
    ·split at ha
     ·rename_i d is hd
      cases ha
      refine ⟨g5, fun i hi => ?_⟩
      rcases List.mem_append.1 hi with hi | hi
      ·exact qg4 hd i hi
      ·exact g6 i hi
     ·cases ha
theorem qum {t sz : Nat} {x : V} {o : O} {i : Nat} (ht : qdf s t sz x = some (o, some i)) : (s.hp i).isLive = true := by
 unfold qdf at ht
 split at ht
 ·split at ht <;> cases ht
 ·split at ht
  ·rename_i hrow
   split at ht
   ·cases ht; rw [qeu hrow]; rfl
   ·cases ht
  ·cases ht
 ·cases ht
theorem qlx {mv : Nat → List (Nat × TypeId × Nat)} : ∀ {l : List V} {j : Nat} {os : List O} {rd : List Nat} {tk : List (Option Nat)}, qc1 s mv j l = some (os, rd, tk) →
 (∀ i, some i ∈ tk → (s.hp i).isLive = true) ∧ (∀ i ∈ rd, (s.hp i).obj?.isSome = true) := by
 intro l
 induction l with
 | nil =>
   intro j os rd tk ha
   simp only [qc1, Option.some.injEq, Prod.mk.injEq] at ha
   obtain ⟨rfl, rfl, rfl⟩ := ha
   simp
 | cons x l ih =>
   intro j os rd tk ha
   simp only [qc1] at ha
   split at ha
   ·rename_i o rd1 tk1 os' rd' tk' h1 hl
    cases ha
    obtain ⟨g5, g6⟩ := ih hl
    have : (∀ i, some i ∈ tk1 → (s.hp i).isLive = true) ∧ (∀ i ∈ rd1, (s.hp i).obj?.isSome = true) := by
     unfold argO at h1
     split at h1
     ·simp only [Option.map_eq_some_iff, Prod.mk.injEq] at h1
      obtain ⟨⟨d, is⟩, hd, rfl, rfl, rfl⟩ := h1
      exact ⟨by simp, qul hd⟩
     ·split at h1
      ·split at h1
       ·split at h1
        ·rename_i hobj
         split at h1
         ·simp only [Option.map_eq_some_iff, Prod.mk.injEq] at h1
          obtain ⟨⟨os2, rd2, tk2⟩, hl2, rfl, rfl, rfl⟩ := h1
          obtain ⟨k5, k6⟩ := qiy hl2
          refine ⟨fun i hi => ?_, k6⟩
          rcases List.mem_cons.1 hi with hi | hi
          ·cases hi; rw [hobj]; rfl
          ·exact k5 i hi
         ·cases h1
        ·cases h1
       ·cases h1
      split at h1
      ·simp only [Option.map_eq_some_iff, Prod.mk.injEq] at h1
       obtain ⟨⟨os2, rd2, tk2⟩, hl2, rfl, rfl, rfl⟩ := h1
       exact qiy hl2
      ·simp only [Option.map_eq_some_iff, Prod.mk.injEq] at h1
       obtain ⟨⟨os2, rd2, tk2⟩, hl2, rfl, rfl, rfl⟩ := h1
       exact qiy hl2
      ·simp only [Option.map_eq_some_iff, Prod.mk.injEq] at h1
       obtain ⟨⟨o', id⟩, ht, rfl, rfl, rfl⟩ := h1
       refine ⟨fun i hi => ?_, by simp⟩
       simp at hi; subst hi
       exact qum ht
    refine ⟨fun i hi => ?_, fun i hi => ?_⟩
    ·rcases List.mem_append.1 hi with hi | hi
     ·exact this.1 i hi
     ·exact g5 i hi
    ·rcases List.mem_append.1 hi with hi | hi
     ·exact this.2 i hi
     ·exact g6 i hi
   ·cases ha
end
end Go.Ev
namespace Go.Ev
section
variable {C : Cfg} {E : Env} {bt : Nat → Option Nat} {s : St} {a : Act} {w : World} {X : Nat → Prop} {nf : Nat → Prop} {P : Program}
theorem qjr (h : Nat → HS) : ∀ (l : List (Nat × HS)) (i : Nat), (∃ o, (i, o) ∈ l ∧ q0e h l i = o) ∨ ((∀ p ∈ l, p.1 ≠ i) ∧ q0e h l i = h i)
 | [], i => .inr ⟨by simp, rfl⟩
 | (j, o) :: r, i => by
   by_cases e : i = j
   ·subst e; exact .inl ⟨o, by simp, by simp [q0e]⟩
   ·rcases qjr h r i with ⟨o', h1, h2⟩ | ⟨h1, h2⟩
    ·exact .inl ⟨o', by simp [h1], by simp [q0e, e, h2]⟩
    ·exact .inr ⟨fun p hp => by
      rcases List.mem_cons.1 hp with rfl | hp
      ·exact fun h => e h.symm
      ·exact h1 p hp, by simp [q0e, e, h2]⟩
theorem qfk : ∀ {l : List (Option Nat)} {i j x : Nat}, (l.filterMap id).Nodup → l[i]? = some (some x) → l[j]? = some (some x) → i = j
 | [], i, j, x, _, h, _ => by simp at h
 | none :: l, i, j, x, hn, hi, hj => by
   cases i with
   | zero => simp at hi
   | succ i =>
     cases j with
     | zero => simp at hj
     | succ j => simp at hi hj; rw [qfk (by simpa using hn) hi hj]
 | some y :: l, i, j, x, hn, hi, hj => by
   simp only [List.filterMap_cons, id, List.nodup_cons] at hn
   have mem : ∀ {k : Nat}, l[k]? = some (some x) → x ∈ l.filterMap id := fun hk => by
    rw [List.mem_filterMap]; exact ⟨some x, List.mem_of_getElem? hk, rfl⟩
   cases i with
   | zero =>
     simp at hi; subst hi
     cases j with
     | zero => rfl
     | succ j => simp at hj; exact absurd (mem hj) hn.1
   | succ i =>
     simp at hi
     cases j with
     | zero => simp at hj; subst hj; exact absurd (mem hi) hn.1
     | succ j => simp at hj; rw [qfk hn.2 hi hj]
theorem RD.flat {v : Value} {d : D} (h : RD w X v d) (hf : d.flat = true) (w' : World) (X' : Nat → Prop) : RD w' X' v d := by
 cases h with
 | b x => exact .b x
 | i k n => exact .i k n
 | s x => exact .s x
 | nil => exact .nil
 | np => exact .np
 | _ => cases hf
theorem RD.flatA {v : Value} {d : D} (h : RD w X v d) (hf : d.flatA = true) (w' : World) (X' : Nat → Prop) : RD w' X' v d := by
 cases d with
 | agg l =>
   cases h with
   | agg cs _ hn hc =>
     exact .agg cs l hn fun j v d hj hd => (hc j v d hj hd).flat (List.all_eq_true.1 hf d (List.mem_of_getElem? hd)) w' X'
 | b x => exact h.flat rfl w' X'
 | i k n => exact h.flat rfl w' X'
 | s x => exact h.flat rfl w' X'
 | nil => exact h.flat rfl w' X'
 | np => exact h.flat rfl w' X'
 | sl sz l => cases hf
 | cp l => cases hf
 | fn f l => cases hf
 | mp ks vs => cases hf
theorem q3a {l : List D} {c : D} (h : c ∈ flat l) (hf : l.all D.flatA = true) : c.flat = true := by
 simp only [Ev.flat, List.mem_flatMap] at h
 obtain ⟨d, hd, hc⟩ := h
 have := List.all_eq_true.1 hf d hd
 cases d with
 | agg l' => exact List.all_eq_true.1 this c hc
 | sl _ _ => cases this
 | cp _ => cases this
 | fn _ _ => cases this
 | mp _ _ => cases this
 | _ => simp [D.cells] at hc; subst hc; rfl
theorem RO.flat1 {v : Value} {o : O} {os : List (Option Nat)} (h : RO w X v o os) (ho : o.ok1 = true) (hf : o.flat1 = true) (X' : Nat → Prop) : RO w X' v o os := by
 cases h with
 | d v x h => exact .d _ _ (h.flatA hf w X')
 | nil t sz h0 => exact .nil t sz h0
 | own t sz bk cap ad cs l had hcap hcs hb h0 hs hc =>
   exact .own t sz bk cap ad cs l had hcap hcs hb h0 hs fun j v x hj hx => (hc j v x hj hx).flat (q3a (List.mem_of_getElem? hx) hf) w X'
 | agg _ _ _ _ _ _ => cases ho
 | tup _ _ _ _ _ _ => cases ho
 | bx _ _ _ _ _ _ _ _ _ => cases ho
theorem RO.flat2 {v : Value} {o : O} {os : List (Option Nat)} (h : RO w X v o os) (ho : o.ok2 = true) (hf : (match o with | .agg l => l.all O.flat1 | .bx _ l => l.all O.flat1 | o => o.flat1) = true) (X' : Nat → Prop) : RO w X' v o os := by
 cases o with
 | agg l =>
   cases h with
   | agg cs _ oss hn hm h =>
     exact .agg cs l oss hn hm fun j v o os hj ho' hos => (h j v o os hj ho' hos).flat1 (List.all_eq_true.1 ho o (List.mem_of_getElem? ho')) (List.all_eq_true.1 hf o (List.mem_of_getElem? ho')) X'
 | d x => exact h.flat1 ho hf X'
 | own t sz l => exact h.flat1 ho hf X'
 | tup l => cases ho
 | bx t l =>
   cases h with
   | bx _ bk cs _ oss hb hn hm h =>
     exact .bx t bk cs l oss hb hn hm fun j v o os hj ho' hos => (h j v o os hj ho' hos).flat1 (List.all_eq_true.1 ho o (List.mem_of_getElem? ho')) (List.all_eq_true.1 hf o (List.mem_of_getElem? ho')) X'
theorem RO.flat {v : Value} {o : O} {os : List (Option Nat)} (h : RO w X v o os) (ho : o.ok = true) (hf : o.flat = true) (X' : Nat → Prop) : RO w X' v o os := by
 cases o with
 | tup l =>
   cases h with
   | tup cs _ oss hn hm h =>
     exact .tup cs l oss hn hm fun j v o os hj ho' hos => (h j v o os hj ho' hos).flat2 (List.all_eq_true.1 ho o (List.mem_of_getElem? ho')) (by
      have := List.all_eq_true.1 hf o (List.mem_of_getElem? ho')
      cases o <;> exact this) X'
 | agg l => exact h.flat2 ho hf X'
 | d x => exact h.flat2 ho hf X'
 | own t sz l => exact h.flat2 ho hf X'
 | bx t l => cases hf
theorem RO.mono {X X' : Nat → Prop} {v : Value} {o : O} {os : List (Option Nat)} (h : RO w X v o os) (hx : ∀ b, X' b → X b) : RO w X' v o os := by
 induction h with
 | d v x h => exact .d _ _ (h.mono hx)
 | nil t sz h0 => exact .nil t sz h0
 | own t sz bk cap ad cs l had hcap hcs hb h0 hs hc => exact .own t sz bk cap ad cs l had hcap hcs hb h0 hs fun j v x hj hx' => (hc j v x hj hx').mono hx
 | agg cs l oss hn hm _ ih => exact .agg cs l oss hn hm ih
 | tup cs l oss hn hm _ ih => exact .tup cs l oss hn hm ih
 | bx t bk cs l oss hb hn hm _ ih => exact .bx t bk cs l oss hb hn hm ih
def SemI (P : Program) (f : FuncId) (sz : Nat) (g : List D → Option (Prop × List D)) : Prop :=
 ∀ (w : World) (bk cap : Nat) (cs : Array Value) (t : TypeId) (l l' : List D) (p : Prop), g l = some (p, l') → p → 0 < l.length → l.length ≤ cap → cap * sz = cs.size → w.heap[bk]? = some (.cells cs t (0, 0)) → (∀ d ∈ l, d.fits sz) →
   (∃ X, ∀ (j : Nat) (v : Value) (x : D), cs[j]? = some v → (flat l)[j]? = some x → RD w X v x) →
   Calls P f #[.slice (some ⟨bk, 0, none⟩) l.length cap] w fun e w' => e = .returned (.tuple #[]) ∧ l'.length = l.length ∧ (∀ d ∈ l', d.fits sz) ∧
    ∃ cs', w'.heap[bk]? = some (.cells cs' t (0, 0)) ∧ cs'.size = cs.size ∧ (∀ X (j : Nat) (v : Value) (x : D), cs'[j]? = some v → (flat l')[j]? = some x → RD w' X v x) ∧
      (∀ j, (flat l).length ≤ j → cs'[j]? = cs[j]?) ∧ Fr (fun b => b = bk) w w'
structure TOk (C : Cfg) : Prop where
 t : ∀ f args p r, C.T f args = some (p, r) → p → Sem C.P f args r
 i : ∀ f sz g, C.ti f = some (sz, g) → SemI C.P f sz g
structure Turn (s : St) (hp' : Nat → HS) (fz tk : List Nat) (b n : Nat) (w' : World) (X' : Nat → Prop) (bt' : Nat → Option Nat) : Prop where
 old : ∀ i, (b ≤ i ∧ i < b + n ∧ (s.hp i).isFree = true ∧ ∃ o, hp' i = .live o ∧ OR w' X' bt' (Nf hp') i o) ∨
  (¬ (b ≤ i ∧ i < b + n) ∧ (hp' i = s.hp i ∧ i ∉ fz ∧ i ∉ tk ∨ (∃ o, s.hp i = .live o ∧ hp' i = .fz o ∧ i ∈ fz) ∨ ((s.hp i).isLive = true ∧ hp' i = .dead ∧ i ∈ tk)))
theorem qkx {fz tk : List Nat} {i : Nat} {o : HS} (h : (i, o) ∈ q0t s fz tk) : (i ∈ fz ∧ o = (match s.hp i with | .live o => .fz o | h => h)) ∨ (i ∈ tk ∧ o = .dead) := by
 simp only [q0t, List.mem_append, List.mem_map, Prod.mk.injEq] at h
 rcases h with ⟨j, hj, rfl, rfl⟩ | ⟨j, hj, rfl, rfl⟩
 ·exact .inl ⟨hj, rfl⟩
 ·exact .inr ⟨hj, rfl⟩
theorem OR.other {w : World} {X : Nat → Prop} {bt : Nat → Option Nat} {nf : Nat → Prop} {i j : Nat} {o : Obj'} (h : OR w X bt nf i o) (hb : bt j = bt i) : OR w X bt nf j o := by
 cases o with
 | box t c =>
   obtain ⟨bk, cs, h1, h2⟩ := h
   exact ⟨bk, cs, hb.trans h1, h2⟩
 | row t sz z l =>
   obtain ⟨h0, h1, h2⟩ := h
   refine ⟨h0, h1, ?_⟩
   rcases h2 with ⟨h3, h4⟩ | ⟨bk, cs, h3, h4⟩
   ·exact .inl ⟨hb.trans h3, h4⟩
   ·exact .inr ⟨bk, cs, hb.trans h3, h4⟩
 | mp t ks vs =>
   obtain ⟨bk, es, clock, h1, h2⟩ := h
   exact ⟨bk, es, clock, hb.trans h1, h2⟩
theorem Rel.revive (h : Rel C E bt s a w) {id n : Nat} {o : Obj'} (hd : s.hp id = .dead) (hn : s.hp n = .live o) (hb : bt id = bt n) : Rel C E bt ⟨s.sl, q0e s.hp [(id, .live o), (n, .dead)]⟩ a w := by
 have hne : id ≠ n := fun e => by subst e; rw [hd] at hn; cases hn
 have hup : ∀ i, q0e s.hp [(id, .live o), (n, .dead)] i = if i = id then .live o else if i = n then .dead else s.hp i := fun i => rfl
 have hN : Nf (q0e s.hp [(id, .live o), (n, .dead)]) = Nf s.hp := by
  funext i
  simp only [Nf, hup]
  by_cases e1 : i = id
  ·subst e1; simp [hd, HS.isFree]
  ·rw [if_neg e1]
   by_cases e2 : i = n
   ·subst e2; simp [hn, HS.isFree]
   ·rw [if_neg e2]
 have hnl : (s.hp n).isLive = true := by rw [hn]; rfl
 have hX : Xs E.X0 (q0e s.hp [(id, .live o), (n, .dead)]) bt = Xs E.X0 s.hp bt := by
  funext c
  refine propext ⟨?_, ?_⟩
  ·rintro (hc | ⟨i, hi, he⟩)
   ·exact .inl hc
   ·rw [hup] at hi
    by_cases e1 : i = id
    ·subst e1; rw [hb] at he; exact qb7 hnl he
    ·rw [if_neg e1] at hi
     by_cases e2 : i = n
     ·rw [if_pos e2] at hi; cases hi
     ·rw [if_neg e2] at hi; exact qb7 hi he
  ·rintro (hc | ⟨i, hi, he⟩)
   ·exact .inl hc
   ·by_cases e2 : i = n
    ·subst e2
     exact .inr ⟨id, by rw [hup, if_pos rfl]; rfl, hb.trans he⟩
    ·refine .inr ⟨i, ?_, he⟩
     rw [hup]
     by_cases e1 : i = id
     ·subst e1; rw [hd] at hi; cases hi
     ·rw [if_neg e1, if_neg e2]; exact hi
 have old : ∀ i o', (q0e s.hp [(id, .live o), (n, .dead)] i).obj? = some o' → (i = id ∧ o' = o) ∨ (i ≠ id ∧ i ≠ n ∧ (s.hp i).obj? = some o') := by
  intro i o' ho
  rw [hup] at ho
  by_cases e1 : i = id
  ·rw [if_pos e1] at ho; cases ho; exact .inl ⟨e1, rfl⟩
  ·rw [if_neg e1] at ho
   by_cases e2 : i = n
   ·rw [if_pos e2] at ho; cases ho
   ·rw [if_neg e2] at ho; exact .inr ⟨e1, e2, ho⟩
 have hno : (s.hp n).obj? = some o := by rw [hn]; rfl
 have hnos : (s.hp n).obj?.isSome = true := by rw [hno]; rfl
 refine ⟨h.df, h.sz, ?_, ?_, ?_, ?_, ?_, h.fr, ?_⟩
 ·intro i v hv
  simp only [hX, hN]
  exact h.slots i v hv
 ·intro i o' ho
  simp only [hX, hN]
  rcases old i o' ho with ⟨rfl, rfl⟩ | ⟨_, _, ho⟩
  ·exact (h.objs n _ hno).other hb
  ·exact h.objs i o' ho
 ·intro i j bk hi hj hbi hbj
  have hi2 : i = id ∨ (i ≠ id ∧ i ≠ n ∧ (s.hp i).isLive = true) := by
   replace hi : (q0e s.hp [(id, .live o), (n, .dead)] i).isLive = true := hi
   rw [hup] at hi
   by_cases e1 : i = id
   ·exact .inl e1
   ·rw [if_neg e1] at hi
    by_cases e2 : i = n
    ·rw [if_pos e2] at hi; cases hi
    ·rw [if_neg e2] at hi; exact .inr ⟨e1, e2, hi⟩
  obtain ⟨oj, hoj⟩ := Option.isSome_iff_exists.1 hj
  rcases hi2 with rfl | ⟨i1, i2, i3⟩ <;> rcases old j oj hoj with ⟨rfl, _⟩ | ⟨j1, j2, j3⟩
  ·rfl
  ·rw [hb] at hbi
   exact absurd (h.inj n j bk hnl (by rw [j3]; rfl) hbi hbj).symm j2
  ·rw [hb] at hbj
   exact absurd (h.inj i n bk i3 hnos hbi hbj) i2
  ·exact h.inj i j bk i3 (by rw [j3]; rfl) hbi hbj
 ·intro i bk hi hbi
  replace hi : (q0e s.hp [(id, .live o), (n, .dead)] i).isLive = true := hi
  rw [hup] at hi
  by_cases e1 : i = id
  ·subst e1; rw [hb] at hbi; exact h.own n bk hnl hbi
  ·rw [if_neg e1] at hi
   by_cases e2 : i = n
   ·rw [if_pos e2] at hi; cases hi
   ·rw [if_neg e2] at hi; exact h.own i bk hi hbi
 ·intro i bk hi hbi
  obtain ⟨oi, hoi⟩ := Option.isSome_iff_exists.1 hi
  rcases old i oi hoi with ⟨rfl, _⟩ | ⟨_, _, ho⟩
  ·rw [hb] at hbi; exact h.nx n bk hnos hbi
  ·exact h.nx i bk (by rw [ho]; rfl) hbi
 ·intro p b hp
  obtain ⟨h1, h2, h3⟩ := h.pin p b hp
  exact ⟨h1, h2, by simp only [hN]; exact h3⟩
theorem q00v (h : Nat → HS) (a b : Nat × HS) (r : List (Nat × HS)) : q0e h (a :: b :: r) = q0e (q0e h r) [a, b] := rfl
theorem qly (h : Nat → HS) : ∀ (l r : List (Nat × HS)), q0e h (l ++ r) = q0e (q0e h r) l
 | [], r => rfl
 | (j, o) :: l, r => by
   funext i
   simp only [List.cons_append, q0e]
   rw [qly h l r]
theorem qky {h : Nat → HS} : ∀ {l : List (Nat × HS)} {i : Nat}, (∀ p ∈ l, p.1 ≠ i) → q0e h l i = h i
 | [], i, _ => rfl
 | (j, o) :: l, i, hl => by
   simp only [q0e]
   rw [if_neg (fun e => hl (j, o) (by simp) e.symm), qky fun p hp => hl p (by simp [hp])]
theorem qo4 {h : Nat → HS} : ∀ {l : List (Nat × HS)} {i : Nat} {o : HS}, hget l i = some o → q0e h l i = o ∧ (i, o) ∈ l
 | (j, x) :: l, i, o, hl => by
   simp only [hget] at hl
   simp only [q0e]
   by_cases e : i = j
   ·rw [if_pos e] at hl ⊢; cases hl; exact ⟨rfl, by simp [e]⟩
   ·rw [if_neg e] at hl ⊢
    obtain ⟨h1, h2⟩ := qo4 (h := h) hl
    exact ⟨h1, by simp [h2]⟩
def qdn : List V → List Nat
 | .ptr n 0 :: l => n :: qdn l
 | _ => []
theorem qhp {H : List (Nat × HS)} : ∀ {ids : List Nat} {ps : List V} {back : List (Nat × HS)}, qfn H ids ps = some back → ps = (qdn ps).map (fun n => V.ptr n 0) ∧ (qdn ps).length = ids.length ∧ (∀ p ∈ back, p.1 ∈ ids ∨ p.1 ∈ qdn ps) ∧ ∀ n ∈ qdn ps, ∃ o, hget H n = some o
 | [], [], back, h => by cases h; exact ⟨rfl, rfl, by simp, by simp [qdn]⟩
 | id :: ids, p :: ps, back, h => by
   unfold qfn at h
   split at h
   ·rename_i e _; cases e
   ·rename_i id' ids' n ps' e1 e2
    cases e1; cases e2
    split at h
    ·rename_i o l h1 h2
     cases h
     obtain ⟨k1, k2, k3, k4⟩ := qhp h2
     refine ⟨by simp only [qdn, List.map_cons]; rw [← k1], by simp [qdn, k2], fun p hp => ?_, fun m hm => ?_⟩
     ·simp only [qdn]
      rcases List.mem_cons.1 hp with rfl | hp
      ·simp
      ·rcases List.mem_cons.1 hp with rfl | hp
       ·simp
       ·rcases k3 p hp with h | h <;> simp [h]
     ·rcases List.mem_cons.1 hm with rfl | hm
      ·exact ⟨o, h1⟩
      ·exact k4 m hm
    ·cases h
   ·cases h
 | [], _ :: _, back, h => by unfold qfn at h; cases h
 | _ :: _, [], back, h => by unfold qfn at h; cases h
theorem Rel.revives {H : List (Nat × HS)} : ∀ {ids : List Nat} {ps : List V} {back : List (Nat × HS)}, qfn H ids ps = some back → Rel C E bt s a w → (∀ i ∈ ids, s.hp i = .dead) → (∀ n ∈ qdn ps, ∃ o, s.hp n = .live o ∧ hget H n = some (.live o)) →
 (∀ (m i n : Nat), ids[m]? = some i → (qdn ps)[m]? = some n → bt i = bt n) → ids.Nodup → (qdn ps).Nodup → (∀ i ∈ ids, i ∉ qdn ps) → Rel C E bt ⟨s.sl, q0e s.hp back⟩ a w
 | [], ps, back, h, hr, _, _, _, _, _, _ => by
   unfold qfn at h
   split at h
   ·cases h; exact hr
   ·exact absurd (by assumption : [] = _ :: _) (by simp)
   ·cases h
 | id :: ids, [], back, h, _, _, _, _, _, _, _ => by unfold qfn at h; cases h
 | id :: ids, p0 :: ps, back, h, hr, hd, hn, hb, nd1, nd2, dj => by
   unfold qfn at h
   split at h
   ·rename_i e _; cases e
   ·rename_i id' ids' n ps' e1 e2
    cases e1; cases e2
    split at h
    ·rename_i ob l h1 h2
     cases h
     simp only [qdn] at hn hb nd2 dj
     obtain ⟨k1, k2, k3, k4⟩ := qhp h2
     rw [List.nodup_cons] at nd1 nd2
     have ih := Rel.revives h2 hr (fun i hi => hd i (by simp [hi])) (fun m hm => hn m (by simp [hm])) (fun m i n hi hn => hb (m + 1) i n (by simpa using hi) (by simpa using hn)) nd1.2 nd2.2 (fun i hi hm => dj i (by simp [hi]) (by simp [hm]))
     obtain ⟨o, o1, o2⟩ := hn n (by simp)
     rw [h1] at o2; cases o2
     rw [q00v]
     refine Rel.revive (s := ⟨s.sl, q0e s.hp l⟩) ih ?_ ?_ (hb 0 id n rfl rfl)
     ·show q0e s.hp l id = _
      rw [qky fun p hp e => ?_]
      ·exact hd id (by simp)
      ·rcases k3 p hp with h | h
       ·exact nd1.1 (e ▸ h)
       ·exact dj id (by simp) (by simp [e ▸ h])
     ·show q0e s.hp l n = _
      rw [qky fun p hp e => ?_]
      ·exact o1
      ·rcases k3 p hp with h | h
       ·exact dj n (by simp [e ▸ h]) (by simp)
       ·exact nd2.1 (e ▸ h)
    ·cases h
   ·cases h
theorem q6o {mv : List (Nat × TypeId × Nat)} {x : V} {o : O} {rd : List Nat} {tk : List (Option Nat)} (ha : argO s mv x = some (o, rd, tk)) :
 (∃ id t l tk', bxId mv x = [id] ∧ x = .ptr id 0 ∧ o = .bx t l ∧ tk = some id :: tk') ∨ (bxId mv x = [] ∧ ∀ t l, o ≠ .bx t l) := by
 match mv with
 | [] =>
   simp only [argO, Option.map_eq_some_iff, Prod.mk.injEq] at ha
   obtain ⟨_, _, rfl, _, _⟩ := ha
   exact .inr ⟨rfl, fun t l e => by cases e⟩
 | (j, t, sz) :: r =>
   by_cases hj : j = 4242
   ·subst hj
    simp only [argO] at ha
    split at ha
    ·split at ha
     ·split at ha
      ·simp only [Option.map_eq_some_iff, Prod.mk.injEq] at ha
       obtain ⟨_, _, rfl, _, rfl⟩ := ha
       exact .inl ⟨_, _, _, _, rfl, rfl, rfl, rfl⟩
      ·cases ha
     ·cases ha
    ·cases ha
   ·have hb : bxId ((j, t, sz) :: r) x = [] := by
     unfold bxId
     split
     ·rename_i e
      simp only [List.cons.injEq, Prod.mk.injEq] at e
      exact absurd e.1.1 hj
     ·rfl
    refine .inr ⟨hb, ?_⟩
    unfold argO at ha
    simp only at ha
    split at ha
    ·simp only [Option.map_eq_some_iff, Prod.mk.injEq] at ha
     obtain ⟨_, _, rfl, _, _⟩ := ha
     exact fun t l e => by cases e
    ·simp only [Option.map_eq_some_iff, Prod.mk.injEq] at ha
     obtain ⟨_, _, rfl, _, _⟩ := ha
     exact fun t l e => by cases e
    ·simp only [Option.map_eq_some_iff, Prod.mk.injEq] at ha
     obtain ⟨⟨o', id⟩, ht, rfl, _, _⟩ := ha
     intro t l e
     subst e
     unfold qdf at ht
     (repeat' split at ht) <;> cases ht
theorem qun {mv : Nat → List (Nat × TypeId × Nat)} {X : Nat → Prop} {nf : Nat → Prop} : ∀ {l : List V} {j : Nat} {os : List O} {rd : List Nat} {tk : List (Option Nat)} {cs : List Value}, qc1 s mv j l = some (os, rd, tk) → cs.length = l.length →
 (∀ (k : Nat) (v : Value) (x : V), cs[k]? = some v → l[k]? = some x → VR w X bt nf v x) →
 (qf6 mv j l).length = (qbj os cs).length ∧ (qf6 mv j l).Sublist (tk.filterMap id) ∧
 ∀ (m i : Nat) (p : Value), (qf6 mv j l)[m]? = some i → (qbj os cs)[m]? = some p → ∃ bk, bt i = some bk ∧ p = .pointer (some ⟨bk, 0, none⟩)
 | [], j, os, rd, tk, cs, ha, _, _ => by
   simp only [qc1, Option.some.injEq, Prod.mk.injEq] at ha
   obtain ⟨rfl, rfl, rfl⟩ := ha
   simp [qf6, qbj]
 | x :: l, j, os, rd, tk, c :: cs, ha, hc, hv => by
   simp only [qc1] at ha
   split at ha
   ·rename_i o rd1 tk1 os' rd' tk' h1 hl
    cases ha
    obtain ⟨g1, g2, g3⟩ := qun hl (by simpa using hc) fun k v x hk hx => hv (k + 1) v x (by simpa using hk) (by simpa using hx)
    rcases q6o h1 with ⟨i, t, l', tk'', e1, rfl, rfl, rfl⟩ | ⟨e1, e2⟩
    ·simp only [qf6, e1, qbj, List.cons_append, List.nil_append]
     refine ⟨by simp [g1], ?_, fun m i' p hi hp => ?_⟩
     ·rw [List.filterMap_cons]
      simp only [id_eq]
      rw [List.filterMap_append]
      exact List.Sublist.cons_cons _ (g2.trans (List.sublist_append_right _ _))
     ·cases m with
      | zero =>
        simp at hi hp; subst hi; subst hp
        obtain ⟨bk, hb, _, e⟩ := qet (hv 0 c _ rfl rfl)
        exact ⟨bk, hb, e⟩
      | succ m => simp at hi hp; exact g3 m i' p hi hp
    ·have : qbj (o :: os') (c :: cs) = qbj os' cs := by
      cases o <;> first | rfl | exact absurd rfl (e2 _ _)
     simp only [qf6, e1, List.nil_append, this]
     refine ⟨g1, ?_, g3⟩
     rw [List.filterMap_append]
     exact g2.trans (List.sublist_append_right _ _)
   ·cases ha
theorem qnk (hT : TOk C) (h : Rel C E bt s a w) {q : Bool} {dst : Option Tmp} {f : FuncId} {vs : List V} {args : Array Value} (hn : args.size = vs.length)
 (hargs : ∀ (j : Nat) (v : Value) (x : V), args[j]? = some v → vs[j]? = some x → VR w (Xs E.X0 s.hp bt) bt (Nf s.hp) v x) {r : Res} (hr : qcw C q s dst f vs = some r) (hpok : r.ok) :
 Calls C.P f args w fun e w' => ∃ v bt', e = .returned v ∧ Rel C E bt' (r.dl.app C dst s) (a.put dst v) w' := by
 unfold qcw at hr
 split at hr
 ·cases hr
 rename_i os rd tks hao
 split at hr
 ·cases hr
 rename_i p o hTo
 simp only at hr
 generalize htk : tks.filterMap id = tk at hr
 generalize hfz : (if (rd.filter fun id => (s.hp id).isLive) = [] ∨ o.flat = true then [] else rd.filter fun id => (s.hp id).isLive) = fz at hr
 split at hr
 ·cases hr
 rename_i hcond
 have hp : p := by
  split at hr
  ·split at hr
   ·simp only [Option.some.injEq] at hr
    rw [← hr] at hpok
    exact hpok
   ·cases hr
  ·split at hr
   ·cases hr
   ·split at hr
    ·simp only [Option.some.injEq] at hr
     rw [← hr] at hpok
     exact hpok
    ·split at hr
     ·split at hr
      ·simp only [Option.some.injEq] at hr
       rw [← hr] at hpok
       exact hpok
      ·cases hr
     ·cases hr
 have hok : o.ok = true := by
  cases hh : o.ok with
  | true => rfl
  | false => exact absurd (.inl hh) hcond
 have hnd : tk.Nodup := by
  by_cases hh : tk.Nodup
  ·exact hh
  ·exact absurd (.inr (.inl (by simpa using hh))) hcond
 have hdis : ∀ i ∈ tk, i ∉ rd := by
  intro i hi hir
  refine hcond (.inr (.inr ?_))
  rw [List.any_eq_true]
  exact ⟨i, hi, by simpa using hir⟩
 obtain ⟨htl, hro⟩ := qlx hao
 have htkm : ∀ i, i ∈ tk ↔ some i ∈ tks := by
  intro i
  rw [← htk, List.mem_filterMap]
  constructor
  ·rintro ⟨x, hx, he⟩; simp only [id] at he; subst he; exact hx
  ·intro hx; exact ⟨some i, hx, rfl⟩
 have hfzm : ∀ i ∈ fz, i ∈ rd ∧ (s.hp i).isLive = true := by
  intro i hi
  rw [← hfz] at hi
  split at hi
  ·simp at hi
  ·simpa using List.mem_filter.1 hi
 have hfull : o.flat = true ∨ ∀ i ∈ rd, (s.hp i).isLive = true → i ∈ fz := by
  rw [← hfz]
  split
  ·rename_i hc
   rcases hc with hc | hc
   ·right
    intro i hi hl
    have : i ∈ rd.filter fun id => (s.hp id).isLive := List.mem_filter.2 ⟨hi, hl⟩
    rw [hc] at this; exact this
   ·exact .inl hc
  ·right
   intro i hi hl
   exact List.mem_filter.2 ⟨hi, hl⟩
 -- the call
 let Xc : Nat → Prop := fun b => Xs E.X0 s.hp bt b ∧ (∀ id ∈ rd, bt id ≠ some b) ∧ ∀ id ∈ tk, bt id ≠ some b
 have hblk : ∀ b, Blk (tks.map (·.bind bt)) b ↔ ∃ i ∈ tk, bt i = some b := by
  intro b
  unfold Blk
  rw [List.mem_map]
  constructor
  ·rintro ⟨x, hx, he⟩
   cases x with
   | none => cases he
   | some i => exact ⟨i, (htkm i).2 hx, he⟩
  ·rintro ⟨i, hi, he⟩
   exact ⟨some i, (htkm i).1 hi, he⟩
 have htlive : ∀ i ∈ tk, (s.hp i).isLive = true := fun i hi => htl i ((htkm i).1 hi)
 have hX' : ∀ b, (Xc b ∨ Blk (tks.map (·.bind bt)) b) → Xs E.X0 s.hp bt b := by
  rintro b (hb | hb)
  ·exact hb.1
  ·obtain ⟨i, hi, he⟩ := (hblk b).1 hb
   exact qb7 (htlive i hi) he
 have hR : qo3 bt rd (fun b => Xc b ∨ Blk (tks.map (·.bind bt)) b) := by
  rintro b (hb | hb) id hid he
  ·exact hb.2.1 id hid he
  ·obtain ⟨i, hi, he'⟩ := (hblk b).1 hb
   have := h.inj i id b (htlive i hi) (hro id hid) he' he
   subst this
   exact hdis i hi hid
 obtain ⟨g1, ⟨oss, g2, g3, g4⟩⟩ := qkw h (C.mv f) hX' vs 0 args.toList os rd tks hao (by simpa using hn) (fun k v x hk hx => hargs k v x (by simpa using hk) hx) hR
 have hAR : AR w (fun b => Xc b ∨ Blk (tks.map (·.bind bt)) b) args os (tks.map (·.bind bt)) :=
  ⟨by omega, oss, by omega, g3, fun j v o q hj ho hq => g4 j v o q (by simpa using hj) ho hq⟩
 have hApart : qh9 (tks.map (·.bind bt)) := by
  intro i j b hi hj
  simp only [List.getElem?_map, Option.map_eq_some_iff] at hi hj
  obtain ⟨x, hx, ex⟩ := hi
  obtain ⟨y, hy, ey⟩ := hj
  cases x with
  | none => cases ex
  | some x =>
    cases y with
    | none => cases ey
    | some y =>
      have hxl := htl x (List.mem_of_getElem? hx)
      have hyl := htl y (List.mem_of_getElem? hy)
      have := h.inj x y b hxl (qc5 hyl) ex ey
      subst this
      exact qfk (by rw [htk]; exact hnd) hx hy
 have hXlt : ∀ b, Xs E.X0 s.hp bt b → b < w.heap.size := by
  rintro b (hb | ⟨i, hi, he⟩)
  ·exact Nat.lt_of_lt_of_le (E.hx b hb) h.fr.ext.size
  ·exact h.lt (qc5 hi) he
 have hsem := hT.t f os p o hTo hp w args Xc (tks.map (·.bind bt)) (fun b hb => hXlt b hb.1) hApart (fun b hb hxc => by
  obtain ⟨i, hi, he⟩ := (hblk b).1 hb
  exact hxc.2.2 i hi he) hAR (h.gi.mono fun b hb => by
   rcases hb with hb | hb
   ·exact hb.1
   ·obtain ⟨i, hi, he⟩ := (hblk b).1 hb
    exact qb7 (htlive i hi) he)
 refine hsem.mono ?_
 rintro e w' ⟨v, u, os', rfl, hret, hRO, hAp', hB', hFr⟩
 obtain ⟨bx1, bx2, bx3⟩ := qun (X := Xs E.X0 s.hp bt) (bt := bt) (nf := Nf s.hp) (cs := args.toList) hao (by simpa using hn) (fun k v x hk hx => hargs k v x (by simpa using hk) hx)
 -- X0 lies in what is kept out
 have hX0 : ∀ b, E.X0 b → Xc b := fun b hb => ⟨.inl hb, fun id hid he => h.nx id b (hro id hid) he hb, fun id hid he => h.nx id b (qc5 (htlive id hid)) he hb⟩
 have hext : Ext (Xs E.X0 s.hp bt) w w' := hFr.ext.mono fun b hb => by
  obtain ⟨i, hi, he⟩ := (hblk b).1 hb
  exact qb7 (htlive i hi) he
 -- the general step: new names from b on
 have step : ∀ (b n : Nat) (hp' : Nat → HS) (x : Option V) (yv : Value) (Ex : (Nat → Option Nat) → Prop), n = os'.length ∨ (n = 0) →
  (∀ i, b ≤ i → i < b + n → (s.hp i).isFree = true) →
  (∀ X' bt', (∀ (k : Nat) (q : Option Nat), k < n → os'[k]? = some q → bt' (b + k) = q) → RO w' X' u o os' →
    Turn s hp' fz tk b n w' X' bt' ∧ (∀ y, x = some y → VR w' X' bt' (Nf hp') yv y) ∧ Ex bt') →
  ∃ bt', Rel C E bt' ⟨qfi C.N s.sl dst x, hp'⟩ (a.put dst yv) w' ∧ Ex bt' ∧ ∀ i, Nf s.hp i → bt' i = bt i := by
  intro b n hp' x yv Ex hn hfree hturn
  refine ⟨fun i => if b ≤ i ∧ i < b + n then (os'[i - b]?).join else bt i, ?_⟩
  generalize hbt' : (fun i => if b ≤ i ∧ i < b + n then (os'[i - b]?).join else bt i) = bt'
  have bnew : ∀ (k : Nat) (q : Option Nat), k < n → os'[k]? = some q → bt' (b + k) = q := by
   intro k q hk hq
   rw [← hbt']
   simp only
   rw [if_pos ⟨by omega, by omega⟩, show b + k - b = k by omega, hq]; rfl
  have bold : ∀ i, ¬ (b ≤ i ∧ i < b + n) → bt' i = bt i := by
   intro i hi; rw [← hbt']; simp only; rw [if_neg hi]
  have hRO' : RO w' (Xs E.X0 hp' bt') u o os' := by
   rcases hfull with hf | hf
   ·exact hRO.flat hok hf _
   ·-- all that was read and may be written again is frozen: first with a weaker claim
    have ht0 := (hturn (fun _ => False) bt' bnew (hRO.mono fun _ hb => hb.elim)).1
    refine hRO.mono fun c hc => ?_
    rcases hc with hc | ⟨i, hi, he⟩
    ·exact .inl (hX0 c hc)
    ·rcases ht0.old i with ⟨i1, i2, i3, oo, i4, i5⟩ | ⟨i1, i2⟩
     ·right
      have hk : i - b < os'.length := by rcases hn with hn | hn <;> omega
      have := bnew (i - b) os'[i - b] (by omega) (by simp [hk])
      rw [show b + (i - b) = i by omega, he] at this
      unfold Blk
      rw [this]; exact List.getElem_mem hk
     ·rw [bold i i1] at he
      left
      rcases i2 with ⟨j1, j2, j3⟩ | ⟨oo, j1, j2, j3⟩ | ⟨j1, j2, j3⟩
      ·rw [j1] at hi
       refine ⟨qb7 hi he, fun id hid he' => ?_, fun id hid he' => ?_⟩
       ·have := h.inj i id c hi (hro id hid) he he'
        subst this
        exact j2 (hf i hid hi)
       ·have := h.inj i id c hi (qc5 (htlive id hid)) he he'
        subst this
        exact j3 hid
      ·rw [j2] at hi; cases hi
      ·rw [j2] at hi; cases hi
  obtain ⟨ht, hv, hEx⟩ := hturn (Xs E.X0 hp' bt') bt' bnew hRO'
  have hnfree : ∀ i, Nf s.hp i → ¬ (b ≤ i ∧ i < b + n) := fun i hi hh => by
   have := hfree i hh.1 hh.2
   simp [Nf, this] at hi
  have hNf : ∀ i, Nf s.hp i → Nf hp' i := by
   intro i hi
   rcases ht.old i with ⟨i1, i2, _⟩ | ⟨i1, i2⟩
   ·exact absurd ⟨i1, i2⟩ (hnfree i hi)
   ·rcases i2 with ⟨j1, _⟩ | ⟨oo, _, j2, _⟩ | ⟨_, j2, _⟩
    ·simpa [Nf, j1] using hi
    ·simp [Nf, j2, HS.isFree]
    ·simp [Nf, j2, HS.isFree]
  have hXsub : ∀ c, c < w.heap.size → Xs E.X0 hp' bt' c → Xs E.X0 s.hp bt c := by
   intro c hlt hc
   rcases hc with hc | ⟨i, hi, he⟩
   ·exact .inl hc
   ·rcases ht.old i with ⟨i1, i2, i3, _⟩ | ⟨i1, i2⟩
    ·have hk : i - b < os'.length := by rcases hn with hn | hn <;> omega
     have := bnew (i - b) os'[i - b] (by omega) (by simp [hk])
     rw [show b + (i - b) = i by omega, he] at this
     have hbl : Blk os' c := by unfold Blk; rw [this]; exact List.getElem_mem hk
     rcases (hB' c hbl).2 with hb | hb
     ·obtain ⟨j, hj, he'⟩ := (hblk c).1 hb
      exact qb7 (htlive j hj) he'
     ·omega
    ·rw [bold i i1] at he
     rcases i2 with ⟨j1, _⟩ | ⟨oo, _, j2, _⟩ | ⟨_, j2, _⟩
     ·rw [j1] at hi; exact qb7 hi he
     ·rw [j2] at hi; cases hi
     ·rw [j2] at hi; cases hi
  have hsame : ∀ i bk, i ∉ tk → (s.hp i).obj?.isSome = true → bt i = some bk → w'.heap[bk]? = w.heap[bk]? := by
   intro i bk hi ho hb
   refine hFr.ext.same bk (h.lt ho hb) (fun hh => ?_)
   obtain ⟨j, hj, he⟩ := (hblk bk).1 hh
   have := h.inj j i bk (htlive j hj) ho he hb
   subst this
   exact hi hj
  have hobjs : ∀ i oo, (hp' i).obj? = some oo → ¬ (b ≤ i ∧ i < b + n) → (s.hp i).obj? = some oo ∧ i ∉ tk := by
   intro i oo ho hi
   rcases ht.old i with ⟨i1, i2, _⟩ | ⟨_, i2⟩
   ·exact absurd ⟨i1, i2⟩ hi
   ·rcases i2 with ⟨j1, _, j3⟩ | ⟨o2, j1, j2, j3⟩ | ⟨_, j2, _⟩
    ·rw [j1] at ho; exact ⟨ho, j3⟩
    ·rw [j2] at ho; rw [j1]; exact ⟨ho, fun hh => hdis i hh (hfzm i j3).1⟩
    ·rw [j2] at ho; cases ho
  have hlives : ∀ i, (hp' i).isLive = true → ¬ (b ≤ i ∧ i < b + n) → (s.hp i).isLive = true := by
   intro i hl hi
   rcases ht.old i with ⟨i1, i2, _⟩ | ⟨_, i2⟩
   ·exact absurd ⟨i1, i2⟩ hi
   ·rcases i2 with ⟨j1, _⟩ | ⟨o2, j1, j2, j3⟩ | ⟨_, j2, _⟩
    ·rw [j1] at hl; exact hl
    ·rw [j2] at hl; cases hl
    ·rw [j2] at hl; cases hl
  have hnewb : ∀ i bk, b ≤ i → i < b + n → bt' i = some bk → Blk os' bk ∧ os'[i - b]? = some (some bk) := by
   intro i bk i1 i2 he
   have hk : i - b < os'.length := by rcases hn with hn | hn <;> omega
   have := bnew (i - b) os'[i - b] (by omega) (by simp [hk])
   rw [show b + (i - b) = i by omega, he] at this
   refine ⟨by unfold Blk; rw [this]; exact List.getElem_mem hk, by rw [this]; simp⟩
  have hclash : ∀ i j bk, b ≤ i → i < b + n → ¬ (b ≤ j ∧ j < b + n) → bt' i = some bk → bt' j = some bk → (hp' j).obj?.isSome = true → False := by
   intro i j bk i1 i2 hj hbi hbj hjo
   obtain ⟨oo, ho⟩ := Option.isSome_iff_exists.1 hjo
   obtain ⟨hso, hjt⟩ := hobjs j oo ho hj
   rw [bold j hj] at hbj
   obtain ⟨hbl, _⟩ := hnewb i bk i1 i2 hbi
   rcases (hB' bk hbl).2 with hb | hb
   ·obtain ⟨k, hk, he⟩ := (hblk bk).1 hb
    have := h.inj k j bk (htlive k hk) (by rw [hso]; rfl) he hbj
    subst this
    exact hjt hk
   ·have := h.lt (by rw [hso]; rfl) hbj
    omega
  refine ⟨⟨(qfv _ _ _).trans h.df, (qdi _ _ _).trans h.sz, ?_, ?_, ?_, ?_, ?_, ?_, fun p b hp => let ⟨h1, h2, h3⟩ := h.pin p b hp; ⟨h1, (bold p (hnfree p h3)).trans h2, hNf p h3⟩⟩, hEx, fun i hi => bold i (hnfree i hi)⟩
  ·exact qgd h.sz (fun i y hy => (h.slots i y hy).ext hext hXsub (fun i hi => bold i (hnfree i hi)) hNf) hv
  ·intro i oo ho
   replace ho : (hp' i).obj? = some oo := ho
   show OR w' (Xs E.X0 hp' bt') bt' (Nf hp') i oo
   by_cases hi : b ≤ i ∧ i < b + n
   ·rcases ht.old i with ⟨_, _, _, o2, i4, i5⟩ | ⟨i1, _⟩
    ·rw [i4] at ho
     simp only [HS.obj?, Option.some.injEq] at ho
     subst ho
     exact i5
    ·exact absurd hi i1
   ·obtain ⟨hso, hit⟩ := hobjs i oo ho hi
    exact (h.objs i oo hso).ext hext hXsub (fun i hi => bold i (hnfree i hi)) hNf (qdz hso) (fun bk hbk => hsame i bk hit (by rw [hso]; rfl) hbk)
  ·intro i j bk hi hj hbi hbj
   by_cases h1 : b ≤ i ∧ i < b + n
   ·by_cases h2 : b ≤ j ∧ j < b + n
    ·have := hAp' (i - b) (j - b) bk (hnewb i bk h1.1 h1.2 hbi).2 (hnewb j bk h2.1 h2.2 hbj).2
     omega
    ·exact (hclash i j bk h1.1 h1.2 h2 hbi hbj hj).elim
   ·by_cases h2 : b ≤ j ∧ j < b + n
    ·exact (hclash j i bk h2.1 h2.2 h1 hbj hbi (qc5 hi)).elim
    ·obtain ⟨oo, ho⟩ := Option.isSome_iff_exists.1 hj
     rw [bold i h1] at hbi
     rw [bold j h2] at hbj
     exact h.inj i j bk (hlives i hi h1) (by rw [(hobjs j oo ho h2).1]; rfl) hbi hbj
  ·intro i bk hi hbi
   by_cases h1 : b ≤ i ∧ i < b + n
   ·obtain ⟨hbl, _⟩ := hnewb i bk h1.1 h1.2 hbi
    have hh := hB' bk hbl
    refine ⟨?_, fun hx => hh.1 (hX0 bk hx)⟩
    rcases hh.2 with hb | hb
    ·obtain ⟨k, hk, he⟩ := (hblk bk).1 hb
     exact (h.own k bk (htlive k hk) he).1
    ·have := h.fr.ext.size
     exact .inl (by omega)
   ·rw [bold i h1] at hbi
    exact h.own i bk (hlives i hi h1) hbi
  ·intro i bk hi hbi
   by_cases h1 : b ≤ i ∧ i < b + n
   ·obtain ⟨hbl, _⟩ := hnewb i bk h1.1 h1.2 hbi
    exact fun hx => (hB' bk hbl).1 (hX0 bk hx)
   ·obtain ⟨oo, ho⟩ := Option.isSome_iff_exists.1 hi
    rw [bold i h1] at hbi
    exact h.nx i bk (by rw [(hobjs i oo ho h1).1]; rfl) hbi
  ·have hf := h.fr
   refine ⟨⟨Nat.le_trans hf.ext.size hFr.ext.size, fun c hc hm => ?_, (hf.ext.mono (X' := fun _ => True) (fun _ _ => trivial)).trans (hFr.ext.mono (X' := fun _ => True) (fun _ _ => trivial)) |>.shape⟩, hFr.os.trans hf.os, hFr.tape.trans hf.tape, hFr.output.trans hf.output⟩
   rw [hFr.ext.same c (Nat.lt_of_lt_of_le hc hf.ext.size) (fun hb => ?_)]
   ·exact hf.ext.same c hc hm
   ·obtain ⟨k, hk, he⟩ := (hblk c).1 hb
    rcases (h.own k c (htlive k hk) he).1 with h1 | h1
    ·omega
    ·exact hm h1
 -- both ends
 have turnOld : ∀ (H : List (Nat × HS)) (i : Nat), (∀ p ∈ H, p.1 ≠ i) → (q0e s.hp (q0t s fz tk ++ H) i = s.hp i ∧ i ∉ fz ∧ i ∉ tk ∨ (∃ o, s.hp i = .live o ∧ q0e s.hp (q0t s fz tk ++ H) i = .fz o ∧ i ∈ fz) ∨
  ((s.hp i).isLive = true ∧ q0e s.hp (q0t s fz tk ++ H) i = .dead ∧ i ∈ tk)) := by
  intro H i hH
  rcases qjr s.hp (q0t s fz tk ++ H) i with ⟨oo, h1, h2⟩ | ⟨h1, h2⟩
  ·rcases List.mem_append.1 h1 with h1 | h1
   ·rcases qkx h1 with ⟨k1, k2⟩ | ⟨k1, k2⟩
    ·obtain ⟨_, hl⟩ := hfzm i k1
     cases hs : s.hp i with
     | live o2 => rw [hs] at k2; exact .inr (.inl ⟨o2, rfl, by rw [h2, k2], k1⟩)
     | _ => rw [hs] at hl; cases hl
    ·exact .inr (.inr ⟨htlive i k1, by rw [h2, k2], k1⟩)
   ·exact absurd rfl (hH _ h1)
  ·refine .inl ⟨h2, fun hi => ?_, fun hi => ?_⟩
   ·exact h1 (i, _) (List.mem_append_left _ (List.mem_append_left _ (List.mem_map.2 ⟨i, hi, rfl⟩))) rfl
   ·exact h1 (i, .dead) (List.mem_append_left _ (List.mem_append_right _ (List.mem_map.2 ⟨i, hi, rfl⟩))) rfl
 have named : ∀ (B : Nat) (x : Option V) (yv : Value) (Ex : (Nat → Option Nat) → Prop), (∀ p ∈ (inO B o).2.1, (s.hp p.1).isFree = true) →
  (∀ X' bt' nf', VR w' X' bt' nf' u (inO B o).1 → (∀ y, x = some y → VR w' X' bt' nf' yv y) ∧ Ex bt') →
  ∃ bt', Rel C E bt' ⟨qfi C.N s.sl dst x, q0e s.hp (q0t s fz tk ++ (inO B o).2.1)⟩ (a.put dst yv) w' ∧ Ex bt' ∧ ∀ i, Nf s.hp i → bt' i = bt i := by
  intro B x yv Ex hallfree hval
  have hin := fun (X' : Nat → Prop) (bt' : Nat → Option Nat) (nf' : Nat → Prop) (hb : ∀ (k : Nat) (q : Option Nat), os'[k]? = some q → bt' (B + k) = q) (hnf : ∀ k, k < os'.length → nf' (B + k)) (hRO : RO w' X' u o os') =>
   qj8 (b := B) hRO hok hb hnf
  -- names in use, whatever is said of the blocks
  have hnames := hin (fun _ => False) (fun i => (os'[i - B]?).join) (fun _ => True) (fun k q hk => by
   show (os'[B + k - B]?).join = q
   rw [show B + k - B = k by omega, hk]; rfl) (fun _ _ => trivial) (hRO.mono fun _ hb => hb.elim)
  exact step B os'.length (q0e s.hp (q0t s fz tk ++ (inO B o).2.1)) x yv Ex (.inl rfl)
   (fun i i1 i2 => by
     obtain ⟨p, hp, e⟩ := hnames.all (i - B) (by omega)
     have := hallfree p hp
     rwa [e, Nat.add_zero, show B + (i - B) = i by omega] at this)
   (fun X' bt' hb hRO => by
     have newAt : ∀ i, B ≤ i → i < B + os'.length → ∃ p ∈ (inO B o).2.1, p.1 = i := by
      intro i i1 i2
      obtain ⟨p, hp, e⟩ := hnames.all (i - B) (by omega)
      exact ⟨p, hp, by omega⟩
     have hpos : ∀ i, B ≤ i → i < B + os'.length → ∃ oo, (i, oo) ∈ (inO B o).2.1 ∧ q0e s.hp (q0t s fz tk ++ (inO B o).2.1) i = oo := by
      intro i i1 i2
      obtain ⟨p, hp, e⟩ := newAt i i1 i2
      have hf := hallfree p hp
      rw [e] at hf
      rcases qjr s.hp (q0t s fz tk ++ (inO B o).2.1) i with ⟨oo, h1, h2⟩ | ⟨h1, h2⟩
      ·rcases List.mem_append.1 h1 with h1 | h1
       ·rcases qkx h1 with ⟨k1, _⟩ | ⟨k1, _⟩
        ·have := qd9 (hfzm i k1).2; rw [this] at hf; cases hf
        ·have := qd9 (htlive i k1); rw [this] at hf; cases hf
       ·exact ⟨oo, h1, h2⟩
      ·exact absurd e (h1 p (List.mem_append_right _ hp))
     have hnf : ∀ k, k < os'.length → Nf (q0e s.hp (q0t s fz tk ++ (inO B o).2.1)) (B + k) := by
      intro k hk
      obtain ⟨oo, h1, h2⟩ := hpos (B + k) (by omega) (by omega)
      obtain ⟨k', o2, _, e, _⟩ := hnames.rows _ h1
      simp only [Prod.mk.injEq] at e
      simp [Nf, h2, e.2, HS.isFree]
     have hi := hin X' bt' _ (fun k q hk => hb k q (List.getElem?_eq_some_iff.1 hk).1 hk) hnf hRO
     refine ⟨⟨fun i => ?_⟩, hval X' bt' _ hi.val⟩
     by_cases hh : B ≤ i ∧ i < B + os'.length
     ·left
      obtain ⟨oo, h1, h2⟩ := hpos i hh.1 hh.2
      obtain ⟨k', o2, q1, e, q3⟩ := hi.rows _ h1
      simp only [Prod.mk.injEq, Nat.add_zero] at e
      refine ⟨hh.1, hh.2, hallfree _ h1, o2, by rw [h2, e.2], ?_⟩
      rw [Nat.add_zero, ← e.1] at q3
      exact q3
     ·right
      refine ⟨hh, turnOld _ i fun p hp e => ?_⟩
      obtain ⟨k', o2, q1, e2, _⟩ := hnames.rows p hp
      rw [e2] at e
      simp only [Nat.add_zero] at e
      exact hh ⟨by omega, by omega⟩)
 have uv : qf6 (C.mv f) 0 vs = [] → u = v := fun e => by
  rw [e] at bx1
  have : qbj os args.toList = [] := List.eq_nil_of_length_eq_zero (by rw [← bx1]; rfl)
  unfold Ret at hret
  rw [this] at hret
  exact hret
 split at hr
 ·-- no destination
  split at hr
  ·rename_i hids
   cases hr
   have huv := uv hids
   subst huv
   obtain ⟨bt', hrel, _⟩ := step 0 0 (q0e s.hp (q0t s fz tk)) none u (fun _ => True) (.inr rfl) (fun i _ hi => by omega) (fun X' bt' _ _ =>
    ⟨⟨fun i => .inr ⟨by omega, by have := turnOld [] i (by simp); rw [List.append_nil] at this; exact this⟩⟩, (fun y hy => by cases hy), trivial⟩)
   exact ⟨u, bt', rfl, hrel⟩
  ·cases hr
 ·rename_i d
  split at hr
  ·cases hr
  rename_i hc2
  have hallfree : ∀ p ∈ (inO (16 * d) o).2.1, (s.hp p.1).isFree = true := by
   have : ((inO (16 * d) o).2.1.all fun p => (s.hp p.1).isFree) = true := by
    cases hh : ((inO (16 * d) o).2.1.all fun p => (s.hp p.1).isFree) with
    | true => rfl
    | false => exact absurd (.inr hh) hc2
   exact fun p hp => List.all_eq_true.1 this p hp
  split at hr
  ·rename_i hids
   cases hr
   have huv := uv hids
   subst huv
   obtain ⟨bt', hrel, _⟩ := named (16 * d) (some (inO (16 * d) o).1) u (fun _ => True) hallfree (fun X' bt' nf' hv => ⟨fun y hy => by cases hy; exact hv, trivial⟩)
   exact ⟨u, bt', rfl, hrel⟩
  ·rename_i ids hids hne
   generalize hx1 : (inO (16 * d) o).1 = x1 at hr
   split at hr
   ·rename_i l
    split at hr
    ·rename_i back hback
     cases hr
     generalize hI : qf6 (C.mv f) 0 vs = I at *
     obtain ⟨ps, hps⟩ : ∃ ps, qbj os args.toList = ps := ⟨_, rfl⟩
     rw [hps] at bx1 bx3
     have hne' : ps ≠ [] := fun e => by rw [e] at bx1; exact hne (List.eq_nil_of_length_eq_zero bx1)
     obtain ⟨us, hu, hv⟩ : ∃ us : List Value, u = .tuple (us ++ ps).toArray ∧ v = match us with | [x] => x | us => .tuple us.toArray := by
      unfold Ret at hret
      rw [hps] at hret
      cases ps with
      | nil => exact absurd rfl hne'
      | cons p ps => exact hret
     subst hu
     -- what the parts are
     have parts : ∀ (X' : Nat → Prop) (bt' : Nat → Option Nat) (nf' : Nat → Prop), VR w' X' bt' nf' (.tuple (us ++ ps).toArray) (.tup l) →
      VR w' X' bt' nf' v (one1 (l.take (l.length - I.length))) ∧ ∀ (m n : Nat) (p : Value), (qdn (l.drop (l.length - I.length)))[m]? = some n → ps[m]? = some p → ∃ bk, bt' n = some bk ∧ p = .pointer (some ⟨bk, 0, none⟩) := by
      intro X' bt' nf' hvr
      cases hvr with
      | tup _ _ hn hc =>
        have hlen : l.length = us.length + ps.length := by simpa using hn.symm
        have hk : l.length - I.length = us.length := by omega
        have hl1 : (l.take us.length).length = us.length := by rw [List.length_take]; omega
        rw [hk]
        have hus : ∀ (j : Nat) (v : Value) (x : V), us[j]? = some v → (l.take us.length)[j]? = some x → VR w' X' bt' nf' v x := fun j v x hj hx => by
         have hlt := (List.getElem?_eq_some_iff.1 hj).1
         refine hc j v x ?_ ?_
         ·simp only [List.getElem?_toArray]
          rw [List.getElem?_append_left hlt]; exact hj
         ·rw [List.getElem?_take, if_pos hlt] at hx
          exact hx
        refine ⟨?_, fun m n p hm hp => ?_⟩
        ·rw [hv]
         generalize l.take us.length = xs at hl1 hus
         match us, xs, hl1, hus with
         | [], [], _, _ => exact .tup _ _ rfl fun j v x hj => by simp at hj
         | [y], [x], _, hus => exact hus 0 y x rfl rfl
         | y1 :: y2 :: us, x1 :: x2 :: xs, hl1, hus => exact .tup _ _ (by simpa using hl1.symm) fun j v x hj hx => hus j v x (by simpa using hj) hx
        ·rw [hk] at hback
         obtain ⟨k1, k2, _, _⟩ := qhp hback
         have hd : (l.drop us.length)[m]? = some (.ptr n 0) := by
          rw [k1, List.getElem?_map, hm]; rfl
         rw [List.getElem?_drop] at hd
         have := hc (us.length + m) p (.ptr n 0) (by
          simp only [List.getElem?_toArray]
          rw [List.getElem?_append_right (by omega)]
          simpa using hp) hd
         obtain ⟨bk, h1, _, h3⟩ := qet this
         exact ⟨bk, h1, h3⟩
     obtain ⟨k1, k2, k3, k4⟩ := qhp hback
     generalize hN : qdn (l.drop (l.length - I.length)) = N at *
     obtain ⟨bt', hrel, hEx, hold⟩ := named (16 * d) (some (one1 (l.take (l.length - I.length)))) v (fun bt' => ∀ (m n : Nat) (p : Value), N[m]? = some n → ps[m]? = some p → ∃ bk, bt' n = some bk ∧ p = .pointer (some ⟨bk, 0, none⟩)) hallfree
      (fun X' bt' nf' hv => by
        rw [hx1] at hv
        obtain ⟨q1, q2⟩ := parts X' bt' nf' hv
        exact ⟨fun y hy => by cases hy; exact q1, q2⟩)
     have Itk : ∀ i ∈ I, i ∈ tk := fun i hi => by rw [← htk]; exact bx2.subset hi
     have Ind : I.Nodup := bx2.nodup (by rw [htk]; exact hnd)
     have idl : ∀ i ∈ I, (s.hp i).isLive = true := fun i hi => htlive i (Itk i hi)
     have hobj : ∀ p ∈ (inO (16 * d) o).2.1, ∃ ob, p.2 = .live ob := fun p hp => by
      obtain ⟨k', o2, _, e2, _⟩ := (qj8 (b := 16 * d) (bt := fun i => (os'[i - 16 * d]?).join) (nf := fun _ => True) (hRO.mono (X' := fun _ => False) fun _ hb => hb.elim) hok (fun k q hk => by
       show (os'[16 * d + k - 16 * d]?).join = q
       rw [Nat.add_sub_cancel_left, hk]; rfl) (fun _ _ => trivial)).rows p hp
      exact ⟨o2, by rw [e2]⟩
     have Nobj : ∀ n ∈ N, ∃ ob, q0e s.hp (q0t s fz tk ++ (inO (16 * d) o).2.1) n = .live ob ∧ hget (inO (16 * d) o).2.1 n = some (.live ob) ∧ (s.hp n).isFree = true := fun n hn => by
      obtain ⟨o2, h1⟩ := k4 n hn
      obtain ⟨h2, h3⟩ := qo4 (h := s.hp) h1
      obtain ⟨ob, e⟩ := hobj _ h3
      simp only at e
      subst e
      have hf := hallfree _ h3
      refine ⟨ob, ?_, h1, hf⟩
      rw [qly, qky fun p hp e => ?_]
      ·exact h2
      ·obtain ⟨p1, p2⟩ := p
       simp only at e hf
       subst e
       rcases qkx hp with ⟨q1, _⟩ | ⟨q1, _⟩
       ·rw [qd9 (hfzm _ q1).2] at hf; cases hf
       ·rw [qd9 (htlive _ q1)] at hf; cases hf
     have hnfI : ∀ i ∈ I, Nf s.hp i := fun i hi => qd9 (idl i hi)
     have hbt2 : ∀ (m i n : Nat), I[m]? = some i → N[m]? = some n → bt' i = bt' n ∧ ∃ bk, bt i = some bk ∧ bt' n = some bk := fun m i n hi hn => by
      have hm := (List.getElem?_eq_some_iff.1 hi).1
      have hp : ps[m]? = some (ps[m]'(by omega)) := by simp
      obtain ⟨bk, q1, q2⟩ := bx3 m i _ hi hp
      obtain ⟨bk', q3, q4⟩ := hEx m n _ hn hp
      rw [q2] at q4
      cases q4
      exact ⟨by rw [hold i (hnfI i (List.mem_of_getElem? hi)), q1, q3], bk, q1, q3⟩
     have Nnd : N.Nodup := by
      unfold List.Nodup
      rw [List.pairwise_iff_getElem]
      intro m m' hm hm' hlt e
      have hNI : N.length = I.length := k2
      have h1 : N[m]? = some N[m] := by simp
      have h2 : N[m']? = some N[m'] := by simp
      have hi1 : I[m]? = some (I[m]'(by omega)) := by simp
      have hi2 : I[m']? = some (I[m']'(by omega)) := by simp
      obtain ⟨_, bk, q1, q2⟩ := hbt2 m _ _ hi1 h1
      obtain ⟨_, bk', q3, q4⟩ := hbt2 m' _ _ hi2 h2
      rw [e] at q2
      rw [q2] at q4
      cases q4
      have := h.inj _ _ bk (idl _ (List.getElem_mem _)) (qc5 (idl _ (List.getElem_mem _))) q1 q3
      exact (List.pairwise_iff_getElem.1 Ind) m m' (by omega) (by omega) hlt this
     have fin := Rel.revives hback hrel (fun i hi => by
      show q0e s.hp (q0t s fz tk ++ (inO (16 * d) o).2.1) i = _
      rcases turnOld (inO (16 * d) o).2.1 i (fun p hp e => by
       have := hallfree p hp
       rw [e, qd9 (idl i hi)] at this; cases this) with ⟨_, _, q⟩ | ⟨_, _, _, q⟩ | ⟨_, q, _⟩
      ·exact absurd (Itk i hi) q
      ·exact absurd (hfzm i q).1 (hdis i (Itk i hi))
      ·exact q)
      (fun n hn => by
        rw [hN] at hn
        obtain ⟨ob, q1, q2, _⟩ := Nobj n hn
        exact ⟨ob, q1, q2⟩)
      (fun m i n hi hn => by rw [hN] at hn; exact (hbt2 m i n hi hn).1) Ind (by rw [hN]; exact Nnd)
      (fun i hi hn => by
        rw [hN] at hn
        obtain ⟨_, _, _, q⟩ := Nobj i hn
        rw [qd9 (idl i hi)] at q; cases q)
     refine ⟨v, bt', rfl, ?_⟩
     have e : (⟨qfi C.N s.sl (some d) (some (one1 (l.take (l.length - I.length)))), q0e (q0e s.hp (q0t s fz tk ++ (inO (16 * d) o).2.1)) back⟩ : St) =
      Delta.app C (some d) ⟨back ++ (q0t s fz tk ++ (inO (16 * d) o).2.1), some (one1 (l.take (l.length - I.length))), rd⟩ s := by
      unfold Delta.app
      rw [qly s.hp back]
     rw [← e]
     exact fin
    ·cases hr
   ·cases hr
theorem qyk (h : Rel C E bt s a w) {dst : Option Tmp} {f : FuncId} {sz : Nat} {g : List D → Option (Prop × List D)} (hI : SemI C.P f sz g) {vs : List V} {args : Array Value} (hn : args.size = vs.length)
 (hargs : ∀ (j : Nat) (v : Value) (x : V), args[j]? = some v → vs[j]? = some x → VR w (Xs E.X0 s.hp bt) bt (Nf s.hp) v x) {r : Res} (hr : qd5 s sz g vs = some r) (hpok : r.ok) :
 Calls C.P f args w fun e w' => ∃ v bt', e = .returned v ∧ Rel C E bt' (r.dl.app C dst s) (a.put dst v) w' := by
 unfold qd5 at hr
 split at hr
 ·rename_i id sz' off n
  split at hr
  ·rename_i t sz'' z l hlr
   split at hr
   ·rename_i hc
    obtain ⟨rfl, rfl, rfl, hpos, hle⟩ := hc
    split at hr
    ·rename_i p l' hg
     cases hr
     have hlive := qeu hlr
     obtain ⟨h0, hs, hrest⟩ := h.objs id _ (show (s.hp id).obj? = some (.row t sz'' z l) by rw [hlive]; rfl)
     obtain ⟨v, rfl⟩ : ∃ v, args = #[v] := by
      have : args.size = 1 := by simpa using hn
      refine ⟨args[0], Array.ext (by simp [this]) fun i h1 h2 => ?_⟩
      have : i = 0 := by omega
      subst this
      rfl
     have hv := hargs 0 v _ rfl rfl
     rcases (qdg hv).2 with ⟨bk, cap, ad, hb, rfl, had, hcap, hk⟩ | ⟨hb, _, hn0, rfl⟩
     ·rcases hrest with ⟨h3, h4⟩ | ⟨bk', cs, h3, h4, h5, h6, h7⟩
      ·rw [hb] at h3; cases h3
      ·rw [hb] at h3; cases h3
       obtain ⟨cs2, t2, q1, q2⟩ := hk
       rw [h4] at q1; cases q1
       rw [Nat.zero_add] at q2
       have hlen : (l.take n).length = n := by simp; omega
       have hs1 : ∀ d ∈ l, d.cells.length = sz'' := fun d hd => (hs d hd).1
       have hlt : (flat (l.take n)).length = n * sz'' := by rw [q02 (sz := sz'') fun d hd => hs1 d (List.mem_of_mem_take hd), hlen]
       have hcall := hI w bk cap cs t (l.take n) l' p hg hpok (by omega) (by omega) q2 h4 (fun d hd => hs d (List.mem_of_mem_take hd)) ⟨_, fun j v x hj hx => by
        rw [qdd n hs1, List.getElem?_take] at hx
        split at hx
        ·exact h7 j v x hj hx
        ·cases hx⟩
       rw [hlen] at hcall
       have ead : ad = ⟨bk, 0, none⟩ := by
        rcases had with e | e
        ·simpa using e
        ·omega
       subst ead
       refine hcall.mono fun e w' ⟨he, hl', hf', cs', k1, k2, k3, k4, k5⟩ => ⟨_, bt, he, ?_⟩
       have hfr : Fr (fun b => bt id = some b) w w' := by
        have : (fun b => b = bk) = fun b => bt id = some b := by
         funext b; rw [hb]; exact propext ⟨fun e => by rw [e], fun e => (Option.some.inj e).symm⟩
        rwa [this] at k5
       have hsplit : flat l = flat (l.take n) ++ flat (l.drop n) := by rw [← qe9, List.take_append_drop]
       have hlt' : (flat l').length = n * sz'' := by rw [q02 (sz := sz'') fun d hd => (hf' d hd).1, hl']
       refine Rel.write h hlive _ hfr ?_ dst _ _ _ (fun y hy => by cases hy; exact .tup _ _ rfl fun j v x hj => by simp at hj)
       refine ⟨h0, fun d hd => ?_, .inr ⟨bk, cs', hb, k1, fun hz e => ?_, ?_, fun j v x hj hx => ?_⟩⟩
       ·rcases List.mem_append.1 hd with hd | hd
        ·exact hf' d hd
        ·exact hs d (List.mem_of_mem_drop hd)
       ·have := congrArg List.length e
        simp at this
        rw [this.1] at hl'
        simp at hl'
        omega
       ·rw [qe9, List.length_append, hlt']
        rw [hsplit, List.length_append, hlt] at h6
        omega
       ·rw [qe9] at hx
        by_cases hj2 : j < n * sz''
        ·rw [List.getElem?_append_left (by omega)] at hx
         exact k3 _ j v x hj hx
        ·rw [List.getElem?_append_right (by omega)] at hx
         rw [k4 j (by omega)] at hj
         have : (flat l)[j]? = some x := by
          rw [hsplit, List.getElem?_append_right (by omega), hlt, ← hlt']; exact hx
         refine (h7 j v x hj this).ext (fun b hb2 hx2 => k5.ext.same b hb2 fun e => hx2 ?_) (fun _ _ hh => hh)
         subst e
         exact qb7 (by rw [hlive]; rfl) hb
     ·omega
    ·cases hr
   ·cases hr
  ·cases hr
 ·cases hr
theorem qyl (hT : TOk C) (h : Rel C E bt s a w) {q : Bool} {dst : Option Tmp} {f : FuncId} {vs : List V} {args : Array Value} (hn : args.size = vs.length)
 (hargs : ∀ (j : Nat) (v : Value) (x : V), args[j]? = some v → vs[j]? = some x → VR w (Xs E.X0 s.hp bt) bt (Nf s.hp) v x) {r : Res} (hr : qbt C q s dst f vs = some r) (hpok : r.ok) :
 Calls C.P f args w fun e w' => ∃ v bt', e = .returned v ∧ Rel C E bt' (r.dl.app C dst s) (a.put dst v) w' := by
 unfold qbt at hr
 split at hr
 ·exact qnk hT h hn hargs hr hpok
 ·rename_i sz g hti
  split at hr
  ·rename_i r' ht
   cases hr
   exact qyk h (hT.i f sz g hti) hn hargs ht hpok
  ·exact qnk hT h hn hargs hr hpok
end
end Go.Ev
namespace Go.Ev
section
variable {C : Cfg} {E : Env} {bt : Nat → Option Nat} {s : St} {a : Act} {w : World} {X : Nat → Prop} {nf : Nat → Prop} {P : Program}
theorem qez {t kt et : TypeId} (h : mapT P t = some (kt, et)) : P.underlying t = some (.map kt et) := by
 unfold mapT at h
 split at h
 ·rename_i e; cases h; exact e
 ·cases h
def q5a (w : World) (X : Nat → Prop) (bt : Nat → Option Nat) (nf : Nat → Prop) (v : Value) (ks : List D) (vs : List V) : Prop :=
 (v = .map none ∧ ks = [] ∧ vs = []) ∨ ∃ bk es clock, v = .map (some bk) ∧ w.heap[bk]? = some (.map es clock) ∧ es.size = ks.length ∧ es.size = vs.length ∧
   (∀ (j : Nat) (e : MapEntry) (d : D), es[j]? = some e → ks[j]? = some d → RD w X e.key d) ∧ ∀ (j : Nat) (e : MapEntry) (x : V), es[j]? = some e → vs[j]? = some x → VR w X bt nf e.val x
theorem qup (h : Rel C E bt s a w) {v : Value} {m : V} (hv : VR w (Xs E.X0 s.hp bt) bt (Nf s.hp) v m) {ks : List D} {vs : List V} {rd : List Nat} (hm : qhn s m = some (ks, vs, rd)) :
 q5a w (Xs E.X0 s.hp bt) bt (Nf s.hp) v ks vs := by
 unfold qhn at hm
 split at hm
 ·rename_i ks' vs'
  cases hm
  have := q0z hv
  cases this with
  | mp bk es clock _ _ hX hb hs hk hv' h1 h2 =>
    exact .inr ⟨bk, es, clock, rfl, hb, hk, by simpa using hv', h1, fun j e x hj hx => by
     simp only [List.getElem?_map, Option.map_eq_some_iff] at hx
     obtain ⟨d, hd, rfl⟩ := hx
     exact .d _ _ (h2 j e d hj hd)⟩
  | mp0 => exact .inl ⟨rfl, rfl, rfl⟩
 ·rename_i id
  split at hm
  ·rename_i ks' vs' hg
   cases hm
   obtain ⟨bk, hb, _, rfl⟩ := qn3 hv
   obtain ⟨t, ho⟩ := qlq hg
   obtain ⟨bk', es, clock, h1, h2, h0, h3, h4, h5, h6⟩ := h.objs id _ ho
   rw [hb] at h1; cases h1
   exact .inr ⟨bk, es, clock, rfl, h2, h3, h4, h5, h6⟩
  ·cases hm
 ·cases hm
theorem qq9 {kt : TypeId} {d : D} {v : Value} (hd : isK P kt d = true) (hv : RD w X v d) : ∃ τ, P.underlying kt = some τ ∧ MapKept.IsKey τ v ∧ (τ = .bool ∨ (∃ k, τ = .int k) ∨ τ = .string) := by
 unfold isK at hd
 split at hd
 ·rename_i e; cases hv; exact ⟨_, e, trivial, .inl rfl⟩
 ·rename_i e
  simp only [decide_eq_true_eq] at hd
  subst hd
  cases hv; exact ⟨_, e, rfl, .inr (.inl ⟨_, rfl⟩)⟩
 ·rename_i e; cases hv; exact ⟨_, e, trivial, .inr (.inr rfl)⟩
 ·cases hd
theorem q6p (x y : ByteArray) : (x == y) = seq y x := by
 rw [Bool.eq_iff_iff, MapKept.bytes_beq]
 unfold seq
 rw [beq_iff_eq]
 constructor
 ·intro h; rw [h]
 ·intro h
  have := congrArg (fun l => (ByteArray.mk l.toArray)) h
  simp only [ByteArray.toList_eq] at h
  cases x; cases y; simp at h; rw [h]
theorem qw1 {kt : TypeId} {τ : TypeDesc} (hτ : P.underlying kt = some τ) {d k : D} {u v : Value} (hd : isK P kt d = true) (hk : isK P kt k = true) (hu : RD w X u d) (hv : RD w X v k) :
 Instr.sameNow τ v u = some (kEq d k) := by
 unfold isK at hd hk
 rw [hτ] at hd hk
 split at hd
 ·rename_i e; cases e
  cases hu
  split at hk
  ·cases hv; simp [Instr.sameNow, kEq, Bool.beq_comm]
  ·rename_i e; cases e
  ·rename_i e; cases e
  ·cases hk
 ·rename_i e
  cases e
  cases hu
  simp only [decide_eq_true_eq] at hd
  subst hd
  split at hk
  ·rename_i e; cases e
  ·rename_i e
   cases e
   cases hv
   simp only [decide_eq_true_eq] at hk
   subst hk
   simp only [Instr.sameNow, kEq, if_true]
   congr 1
   rw [Bool.eq_iff_iff]; simp; exact eq_comm
  ·rename_i e; cases e
  ·cases hk
 ·rename_i e; cases e
  cases hu
  split at hk
  ·rename_i e; cases e
  ·rename_i e; cases e
  ·cases hv; simp [Instr.sameNow, kEq, q6p]
  ·cases hk
 ·cases hd
theorem qg5 {kt : TypeId} {τ : TypeDesc} (hτ : P.underlying kt = some τ) {k : D} {v : Value} (hk : isK P kt k = true) (hv : RD w X v k) :
 ∀ (l : List MapEntry) (ks : List D) (i : Nat), l.length = ks.length → (∀ d ∈ ks, isK P kt d = true) → (∀ (j : Nat) (e : MapEntry) (d : D), l[j]? = some e → ks[j]? = some d → RD w X e.key d) →
   (qdm ks k = none ∧ Instr.findNow τ v l i = some none) ∨ ∃ j e, qdm ks k = some j ∧ l[j]? = some e ∧ Instr.findNow τ v l i = some (some (i + j, e.val))
 | [], [], i, _, _, _ => .inl ⟨rfl, rfl⟩
 | e :: l, d :: ks, i, hl, hks, hr => by
   have h1 := qw1 hτ (hks d (by simp)) hk (hr 0 e d rfl rfl) hv
   cases hq : kEq d k with
   | true =>
     refine .inr ⟨0, e, by simp [qdm, hq], rfl, ?_⟩
     rw [hq] at h1
     simp [Instr.findNow, h1]
   | false =>
     rw [hq] at h1
     rcases qg5 hτ hk hv l ks (i + 1) (by simpa using hl) (fun d hd => hks d (by simp [hd])) (fun j e d hj hd => hr (j + 1) e d (by simpa using hj) (by simpa using hd)) with ⟨g1, g2⟩ | ⟨j, e', g1, g2, g3⟩
     ·exact .inl ⟨by simp [qdm, hq, g1], by simp [Instr.findNow, h1, g2]⟩
     ·exact .inr ⟨j + 1, e', by simp [qdm, hq, g1], by simpa using g2, by simp [Instr.findNow, h1, g3]; omega⟩
 | [], _ :: _, _, hl, _, _ => by simp at hl
 | _ :: _, [], _, hl, _, _ => by simp at hl
theorem qo5 {t kt et : TypeId} (hm : mapT P t = some (kt, et)) {v : Value} {ks : List D} {vs : List V} (hma : q5a w X bt nf v ks vs) {k : D} {kv : Value} (hk : isK P kt k = true) (hks : ∀ d ∈ ks, isK P kt d = true) (hkv : RD w X kv k)
 {z : Value} (hz : (zeroValue et).run P w = .ok z w) (cm : Bool) :
 (qdm ks k = none ∧ (Instr.lookup t v kv cm).run P w = .ok (if cm then .tuple #[z, .bool false] else z) w) ∨
 ∃ j u x, qdm ks k = some j ∧ vs[j]? = some x ∧ VR w X bt nf u x ∧ (Instr.lookup t v kv cm).run P w = .ok (if cm then .tuple #[u, .bool true] else u) w := by
 obtain ⟨τ, hτ, hkey, _⟩ := qq9 hk hkv
 have hck : ∀ e, (Instr.checkKey e 10000 kt kv).run P w = .ok () w := fun e => MapKept.run_checkKey hτ hkey e 9999
 rcases hma with ⟨rfl, rfl, rfl⟩ | ⟨bk, es, clock, rfl, hb, e1, e2, h1, h2⟩
 ·refine .inl ⟨rfl, ?_⟩
  have hf : (Instr.findKey kt kv []).run P w = .ok none w := MapKept.run_findKey hτ rfl
  simp [Instr.lookup, run_underlying (qez hm), hck, hf, hz, Result.andThen]
 ·have hfn := qg5 hτ hk hkv es.toList ks 0 (by simpa using e1) hks (fun j e d hj hd => h1 j e d (by simpa using hj) hd)
  rcases hfn with ⟨g1, g2⟩ | ⟨j, e, g1, g2, g3⟩
  ·refine .inl ⟨g1, ?_⟩
   have hf := MapKept.run_findKey (w := w) hτ g2
   simp [Instr.lookup, run_underlying (qez hm), MapKept.run_getObj_map hb, hck, hf, hz, Result.andThen]
  ·have g2' : es[j]? = some e := by simpa using g2
   have hlt := (Array.getElem?_eq_some_iff.1 g2').1
   refine .inr ⟨j, e.val, vs[j]'(by omega), g1, by simp, h2 j e _ g2' (by simp), ?_⟩
   have hf := MapKept.run_findKey (w := w) hτ g3
   simp [Instr.lookup, run_underlying (qez hm), MapKept.run_getObj_map hb, hck, hf, Result.andThen]
theorem qr6 {t : TypeId} {z : List D} (hz : qbb P t = some z) (w : World) : ∃ v, (zeroValue t).run P w = .ok v w ∧ v.cells.size = z.length ∧ ∀ (j : Nat) (u : Value) (d : D), v.cells[j]? = some u → z[j]? = some d → cval u = some d := by
 obtain ⟨i, v, h1, h2, h3, h4⟩ := qfw hz
 exact ⟨v, by simp [zeroValue, typeInfo, h1, h2, Result.andThen], h3, h4⟩
theorem qhq {o : Oper} {t : TypeId} {x y : Operand} {cm : Bool} (ho : o.op = .lookup t x y cm) {v : Value} {w' : World} (h : (Instr.lookup t (a.eval x) (a.eval y) cm).run P w = .ok v w') : (execOp a.eval o).run P w = .ok (.value v) w' := by
 simp [execOp, ho, h]
theorem qym {t : TypeId} {z : D} (hz : qdb P t = some z) (w : World) : ∃ v, (zeroValue t).run P w = .ok v w ∧ cval v = some z := by
 unfold qdb at hz
 simp only [Option.bind_eq_some_iff] at hz
 obtain ⟨v, ⟨i, h1, h2⟩, h3⟩ := hz
 exact ⟨v, by simp [zeroValue, typeInfo, h1, h2, Result.andThen], h3⟩
theorem quq (h : Rel C E bt s a w) {o : Oper} {t : TypeId} {x y : Operand} {cm : Bool} (ho : o.op = .lookup t x y cm) {m k : V} (hx : s.val x = some m) (hy : s.val y = some k) {r : Res}
 (hr : qds C s t m k cm = some r) (hok : r.ok) : Out C E o s a w r.dl := by
 unfold qds at hr
 split at hr
 rotate_left
 ·cases hr
 rename_i kt et k' hm
 have hkv := q0z (q0s h hy)
 split at hr
 rotate_left
 ·cases hr
 rename_i z0 ks vs rd hz hmo
 obtain ⟨zv, hzr, hzs, hzc⟩ := qr6 hz w
 have hma := qup h (q0s h hx) hmo
 split at hr
 ·rename_i hcm
  subst hcm
  split at hr
  ·cases hr
  rename_i hnb
  cases hr
  rcases qo5 hm hma hok.2 hok.1 hkv hzr true with ⟨g1, g2⟩ | ⟨j, u, x', g1, g2, g3, g4⟩
  ·refine Out.same h (qhq ho g2) (fun q hq => ?_)
   cases hq
   rw [g1]
   refine .tup _ _ rfl fun j v q hj hq => ?_
   match j with
   | 0 => simp at hj hq; subst hj; subst hq; exact .opt _ _ _ (fun e => by cases e) (fun _ b e => by
       subst e
       simp only [Value.cells, List.size_toArray, List.length_cons, List.length_nil] at hzs
       match z0, hzs with
       | [d0], _ =>
         have := hzc 0 (.bool b) d0 rfl rfl
         cases this
         exact hnb rfl)
   | 1 => simp at hj hq; subst hj; subst hq; exact .d _ _ (.b _)
   | j + 2 => simp at hj
  ·refine Out.same h (qhq ho g4) (fun q hq => ?_)
   cases hq
   have : mget ks vs k' = x' := by simp [mget, g1, List.getD, g2]
   rw [g1, this]
   refine .tup _ _ rfl fun j v q hj hq => ?_
   match j with
   | 0 => simp at hj hq; subst hj; subst hq; exact .opt _ _ _ (fun _ => g3) (fun e => by cases e)
   | 1 => simp at hj hq; subst hj; subst hq; exact .d _ _ (.b _)
   | j + 2 => simp at hj
 ·rename_i hcm
  have hcm : cm = false := by simpa using hcm
  subst hcm
  split at hr
  rotate_left
  ·cases hr
  rename_i z hz1
  obtain ⟨zv1, hzr1, hcv⟩ := qym hz1 w
  split at hr
  rotate_left
  ·cases hr
  rename_i d hd
  cases hr
  obtain ⟨o1, o2, o3⟩ := hok
  rcases qo5 hm hma o2 o1 hkv hzr1 false with ⟨g1, g2⟩ | ⟨j, u, x', g1, g2, g3, g4⟩
  ·refine Out.same h (qhq ho g2) (fun q hq => ?_)
   cases hq
   have : d = z := by
    unfold qtt at hd
    simp only [g1] at hd
    split at hd <;> cases hd <;> rfl
   subst this
   exact .d _ _ (qij hcv)
  ·refine Out.same h (qhq ho g4) (fun q hq => ?_)
   cases hq
   have hsh := o3 x' (List.mem_of_getElem? g2)
   have hgd : vs.getD j (.d .np) = x' := by simp [List.getD, g2]
   have : x' = .d d := by
    unfold qtt at hd
    simp only [g1, hgd] at hd
    unfold sh1 at hsh
    split at hsh
    ·cases hd; rfl
    ·simp only [decide_eq_true_eq] at hsh
     subst hsh
     cases hd; rfl
    ·cases hd; rfl
    ·cases hsh
   rw [← this]
   exact g3
theorem qtn (h : Rel C E bt s a w) {o : Oper} {t : TypeId} (ho : o.op = .makeMap t none) {r : Res} (hr : newObj s o.dst True (.mp t [] []) (.mref (nm o.dst 0)) = some r) : Out C E o s a w r.dl := by
 obtain ⟨hfree, rfl⟩ := qck hr
 have hrun : (execOp a.eval o).run C.P w = .ok (.value (.map (some w.heap.size))) (w.alloc (.map #[] 0)) := by
  simp [execOp, ho, Instr.makeMap, Result.andThen]
 refine ⟨_, _, _, _, hrun, .inl rfl, h.make hfree (w' := w.alloc (.map #[] 0)) (.mp t [] []) (some w.heap.size) (fun M => qiw M w _) (fun bk hb => by cases hb; exact Nat.le_refl _) ?_ o.dst _ _ [] ?_⟩
 ·exact ⟨w.heap.size, #[], 0, by simp, qkr w _, MapKept.stamped_empty 0, rfl, rfl, fun j e d hj => by simp at hj, fun j e d hj => by simp at hj⟩
 ·intro y hy
  cases hy
  exact .mref _ w.heap.size qov (by simp)
theorem qr7 {bk : Nat} {es : Array MapEntry} {clock : Nat} (hb : w.heap[bk]? = some (.map es clock)) {M : Nat → Prop} (hM : M bk) (o : Obj) : Fr M w { w with heap := w.heap.setIfInBounds bk o } := by
 refine ⟨⟨by simp, fun b _ hn => ?_, fun b cs t hc => ?_⟩, rfl, rfl, rfl⟩
 ·exact (MapKept.heap_set (w := w) (o' := o) hb).2 b (fun e => hn (e ▸ hM))
 ·have : b ≠ bk := fun e => by subst e; rw [hb] at hc; cases hc
  exact ⟨cs, by rw [show ({ w with heap := w.heap.setIfInBounds bk o } : World).heap[b]? = w.heap[b]? from (MapKept.heap_set (w := w) (o' := o) hb).2 b this]; exact hc, rfl⟩
theorem qo6 (h : Rel C E bt s a w) {o : Oper} {t : TypeId} {x y z : Operand} (ho : o.op = .mapUpdate t x y z) {m k v : V} (hx : s.val x = some m) (hy : s.val y = some k) (hz : s.val z = some v) {r : Res}
 (hr : qcg C s t m k v = some r) (hok : r.ok) : Out C E o s a w r.dl := by
 unfold qcg at hr
 split at hr
 rotate_left
 ·cases hr
 rename_i kt et id k' hm
 split at hr
 rotate_left
 ·cases hr
 rename_i t' ks vs hl
 cases hr
 obtain ⟨hks, hk⟩ := hok
 have hkv := q0z (q0s h hy)
 have hv := q0s h hz
 obtain ⟨bk, hb, hnf, hmv⟩ := qn3 (q0s h hx)
 obtain ⟨bk', es, clock, h1, h2, h0, h3, h4, h5, h6⟩ := h.objs id (.mp t' ks vs) (by rw [hl]; rfl)
 rw [hb] at h1; cases h1
 have hXb : Xs E.X0 s.hp bt bk := qb7 (by rw [hl]; rfl) hb
 obtain ⟨τ, hτ, hkey, _⟩ := qq9 hk hkv
 have hck : (Instr.checkKey false 10000 kt (a.eval y)).run C.P w = .ok () w := MapKept.run_checkKey hτ hkey false 9999
 have hkeys : ∀ e ∈ es.toList, MapKept.IsKey τ e.key := fun e he => by
  obtain ⟨j, hj, rfl⟩ := List.getElem_of_mem he
  have hj' : j < es.size := by simpa using hj
  have hd : ks[j]? = some (ks[j]'(by omega)) := by simp
  obtain ⟨τ', g1, g2, _⟩ := qq9 (hks _ (List.getElem_mem (by omega : j < ks.length))) (h5 j es[j] _ (by simp) hd)
  rw [hτ] at g1; cases g1
  simpa using g2
 have ext : ∀ o, Ext (Xs E.X0 s.hp bt) w { w with heap := w.heap.setIfInBounds bk o } := fun o => (qr7 (M := Xs E.X0 s.hp bt) h2 hXb o).ext
 have hRD : ∀ {o u d}, RD w (Xs E.X0 s.hp bt) u d → RD { w with heap := w.heap.setIfInBounds bk o } (Xs E.X0 s.hp bt) u d := fun {o u d} hh => hh.ext (ext o).same (fun _ _ q => q)
 have hVR : ∀ {o u d}, VR w (Xs E.X0 s.hp bt) bt (Nf s.hp) u d → VR { w with heap := w.heap.setIfInBounds bk o } (Xs E.X0 s.hp bt) bt (Nf s.hp) u d := fun {o u d} hh => hh.ext (ext o) (fun _ _ q => q) (fun _ _ => rfl) (fun _ q => q)
 have fin : ∀ {o' : Obj} {ob : Obj'}, (Instr.mapUpdate t (.map (some bk)) (a.eval y) (a.eval z)).run C.P w = .ok () { w with heap := w.heap.setIfInBounds bk o' } →
  OR { w with heap := w.heap.setIfInBounds bk o' } (Xs E.X0 s.hp bt) bt (Nf s.hp) id ob → Out C E o s a w ⟨[(id, .live ob)], none, []⟩ := fun {o' ob} hrun hor => by
  refine ⟨_, _, _, _, ?_, .inr ⟨rfl, rfl⟩, h.write hl ob (qr7 h2 hb _) hor o.dst undef none [] (fun y hy => by cases hy)⟩
  simp only [execOp, ho, hmv, Go.Sem.run_bind, hrun, Result.andThen_ok, Go.Sem.run_pure]
 rcases qg5 hτ hk hkv es.toList ks 0 (by simpa using h3) hks (fun j e d hj hd => h5 j e d (by simpa using hj) hd) with ⟨g1, g2⟩ | ⟨j, e, g1, g2, g3⟩
 ·have hne : ∀ e ∈ es.toList, e.key ≠ a.eval y := by
   rcases MapKept.findNow_spec hkey es.toList 0 hkeys with ⟨_, q⟩ | ⟨j, e, q, _⟩
   ·exact q
   ·rw [g2] at q; cases q
  refine fin (o' := .map (es.push { key := a.eval y, val := a.eval z, born := clock }) (clock + 1)) ?_ ?_
  ·simp [Instr.mapUpdate, run_underlying (qez hm), MapKept.run_getObj_map h2, hck, MapKept.run_findKey hτ g2, MapKept.run_setObj_map _ h2, Result.andThen]
  ·refine ⟨bk, _, _, hb, (MapKept.heap_set h2).1, MapKept.stamped_push h0 hne, by simp [qmr, g1, h3], by simp [qms, g1, h4], fun j e d hj hd => ?_, fun j e d hj hd => ?_⟩
   ·simp only [qmr, g1] at hd
    rw [Array.getElem?_push] at hj
    split at hj
    ·rename_i e1
     cases hj
     subst e1
     rw [List.getElem?_append_right (by omega), h3] at hd
     simp at hd
     subst hd
     exact hRD hkv
    ·have hlt := (Array.getElem?_eq_some_iff.1 hj).1
     rw [List.getElem?_append_left (by omega)] at hd
     exact hRD (h5 j e d hj hd)
   ·simp only [qms, g1] at hd
    rw [Array.getElem?_push] at hj
    split at hj
    ·rename_i e1
     cases hj
     subst e1
     rw [List.getElem?_append_right (by omega), h4] at hd
     simp at hd
     subst hd
     exact hVR hv
    ·have hlt := (Array.getElem?_eq_some_iff.1 hj).1
     rw [List.getElem?_append_left (by omega)] at hd
     exact hVR (h6 j e d hj hd)
 ·have hek : e.key = a.eval y := by
   rcases MapKept.findNow_spec hkey es.toList 0 hkeys with ⟨q, _⟩ | ⟨j', e', q1, q2, q3⟩
   ·rw [g3] at q; cases q
   ·rw [g3] at q1
    simp only [Option.some.injEq, Prod.mk.injEq] at q1
    have : j = j' := by omega
    subst this
    rw [g2] at q2; cases q2
    exact q3
  have hj : es[j]? = some e := by simpa using g2
  refine fin (o' := .map (es.modify j fun e => { e with key := a.eval y, val := a.eval z }) clock) ?_ ?_
  ·have g3' : Instr.findNow τ (a.eval y) es.toList 0 = some (some (j, e.val)) := by simpa using g3
   simp [Instr.mapUpdate, run_underlying (qez hm), MapKept.run_getObj_map h2, hck, MapKept.run_findKey hτ g3', hj, hek, MapKept.run_keyThatStays hkey, MapKept.run_setObj_map _ h2, Result.andThen]
  ·have hkey' : ∀ e', es[j]? = some e' → ({ e' with key := a.eval y, val := a.eval z } : MapEntry).key = e'.key := fun e' he' => by rw [hj] at he'; cases he'; exact hek.symm
   refine ⟨bk, _, _, hb, (MapKept.heap_set h2).1, MapKept.stamped_modify h0 _ _ (fun _ _ => rfl) (fun e' _ he' => hkey' e' he'), by simp [qmr, g1, h3], by simp [qms, g1, h4], fun i e' d hi hd => ?_, fun i e' d hi hd => ?_⟩
   ·simp only [qmr, g1] at hd
    rw [Array.getElem?_modify] at hi
    split at hi
    ·rename_i e1
     subst e1
     rw [hj] at hi
     simp only [Option.map_some, Option.some.injEq] at hi
     subst hi
     have := hRD (o := .map (es.modify j fun e => { e with key := a.eval y, val := a.eval z }) clock) (h5 j e d hj hd)
     rw [hek] at this
     exact this
    ·exact hRD (h5 i e' d hi hd)
   ·simp only [qms, g1] at hd
    rw [Array.getElem?_modify] at hi
    split at hi
    ·rename_i e1
     subst e1
     rw [hj] at hi
     simp only [Option.map_some, Option.some.injEq] at hi
     subst hi
     rw [List.getElem?_set_self (by have := (Array.getElem?_eq_some_iff.1 hj).1; omega)] at hd
     cases hd
     exact hVR hv
    ·rename_i e1
     rw [List.getElem?_set_ne e1] at hd
     exact hVR (h6 i e' d hi hd)
end
end Go.Ev
namespace Go.Ev
section
variable {C : Cfg} {E : Env} {bt : Nat → Option Nat} {s : St} {a : Act} {w : World} {X : Nat → Prop} {nf : Nat → Prop} {P : Program}
theorem qto (z : Array Value) (n : Nat) (h : ∀ u ∈ z.toList, u.oneCell' = true) : ∀ u ∈ (Builtin.zeroCells z n).toList, u.oneCell' = true := by
 intro u hu
 simp only [Builtin.zeroCells, Array.toList_map, List.mem_map, Array.toList_range, List.mem_range] at hu
 obtain ⟨i, hi, rfl⟩ := hu
 have hz : 0 < z.size := by
  rcases Nat.eq_zero_or_pos z.size with h0 | h0
  ·rw [h0] at hi; omega
  ·exact h0
 have hlt : i % z.size < z.size := Nat.mod_lt _ hz
 rw [getElem!_pos z _ hlt]
 exact h _ (by simp)
theorem qw2 (h : Rel C E bt s a w) {o : Oper} {x : Operand} {t e : TypeId} (ho : o.op = .call ⟨.builtin .clear, #[x], #[t]⟩) {id sz off n : Nat} (hx : s.val x = some (.row id sz off n)) (he : qcj C.P t = some e)
 {t' : TypeId} {zb : Bool} {l : List D} (hl : qb5 s id = some (t', sz, zb, l)) {z : List D} (hz : qbb C.P e = some z) (hzl : z.length = sz) (hdst : o.dst = none) (hok : off + n ≤ l.length) :
 Out C E o s a w ⟨[(id, .live (.row t' sz false (l.take off)))], none, []⟩ := by
 have hlive := qeu hl
 obtain ⟨hsz0, hs, hrest⟩ := h.objs id (.row t' sz zb l) (by rw [hlive]; rfl)
 have hs1 : ∀ d ∈ l, d.cells.length = sz := fun d hd => (hs d hd).1
 have hput : ∀ v, a.put o.dst v = a := fun v => by rw [hdst]; rfl
 have fin : ∀ {w' : World}, (Builtin.clear_ #[t] o.type #[a.eval x]).run C.P w = .ok (.tuple #[]) w' → Fr (fun b => bt id = some b) w w' →
  OR w' (Xs E.X0 s.hp bt) bt (Nf s.hp) id (.row t' sz false (l.take off)) → Out C E o s a w ⟨[(id, .live (.row t' sz false (l.take off)))], none, []⟩ := fun {w'} hrun hfr hor => by
  refine ⟨_, _, _, _, qfp ho ?_, .inl rfl, h.write hlive _ hfr hor o.dst (.tuple #[]) none [] (fun y hy => by cases hy)⟩
  simp only [builtin, List.map_toArray, List.map_cons, List.map_nil, Go.Sem.run_bind, hrun, Result.andThen_ok, Go.Sem.run_pure]
 have ht := qfd he
 have hfits : ∀ d ∈ l.take off, d.fits sz := fun d hd => hs d (List.mem_of_mem_take hd)
 rcases (qdg (q0s h hx)).2 with ⟨bk, cap, ad, hb, hev, had, hncap, hkk⟩ | ⟨hb, ho0, hn0, hev⟩
 ·rcases hrest with ⟨h3, h4⟩ | ⟨bk', cs, h3, h4, h5, h6, h7⟩
  ·rw [hb] at h3; cases h3
  ·rw [hb] at h3; cases h3
   have horSame : OR w (Xs E.X0 s.hp bt) bt (Nf s.hp) id (.row t' sz false (l.take off)) := by
    refine ⟨hsz0, hfits, .inr ⟨bk, cs, hb, h4, (fun q => by cases q), ?_, fun j v d hj hd => ?_⟩⟩
    ·rw [qdd off hs1, List.length_take]; omega
    ·rw [qdd off hs1, List.getElem?_take] at hd
     split at hd
     ·exact h7 j v d hj hd
     ·cases hd
   rcases Nat.eq_zero_or_pos n with h0 | h0
   ·subst h0
    refine fin (w' := w) ?_ (Fr.refl _ _) horSame
    rw [hev]
    simp [Builtin.clear_, run_underlying ht, Result.andThen]
   ·have hflat := q02 hs1
    have had : ad = ⟨bk, off * sz, none⟩ := by
     rcases had with q | q
     ·exact q
     ·omega
    subst had
    obtain ⟨zv, hzr, z1, z2⟩ := qr6 hz w
    have hone : ∀ u ∈ zv.cells.toList, u.oneCell' = true := fun u hu => by
     obtain ⟨j, hj, rfl⟩ := List.getElem_of_mem hu
     have hj' : j < zv.cells.size := by simpa using hj
     have hd : z[j]? = some (z[j]'(by omega)) := by simp
     have := z2 j zv.cells[j] _ (by simp) hd
     have h1 := q27 this
     have h2 := (qij (w := w) (X := fun _ => False) this).oneCell h1
     simpa using h2
    have hzs := qj5 zv n
    rw [z1, hzl] at hzs
    have hmul : (off + n) * sz ≤ l.length * sz := Nat.mul_le_mul_right _ hok
    have hadd : (off + n) * sz = off * sz + n * sz := Nat.add_mul _ _ _
    have hst := run_storeCells_at C.P bk (off * sz) t' (Builtin.zeroCells zv.cells n).toList 0 cs w h4 (by simp [hzs]; omega) (qto _ _ hone)
    simp only [Nat.add_zero] at hst
    generalize hcs' : ((cs.toList.take (off * sz) ++ (Builtin.zeroCells zv.cells n).toList ++ cs.toList.drop (off * sz + (Builtin.zeroCells zv.cells n).toList.length)).toArray) = cs' at hst
    have hsize : cs'.size = cs.size := by
     rw [← hcs']
     simp [hzs]
     omega
    refine fin (w' := w.setRow bk cs') ?_ (qge h4 hb cs' hsize) ?_
    ·rw [hev]
     obtain ⟨n', rfl⟩ : ∃ n', n = n' + 1 := ⟨n - 1, by omega⟩
     simp [Builtin.clear_, run_underlying ht, hzr, hst, Result.andThen]
    ·have hfr : Fr (fun b => bt id = some b) w (w.setRow bk cs') := qge h4 hb cs' hsize
     have hext := hfr.ext.mono (fun b hbt => qb7 (X0 := E.X0) (hp := s.hp) (bt := bt) (id := id) (by rw [hlive]; rfl) hbt)
     refine ⟨hsz0, hfits, .inr ⟨bk, cs', hb, setRow_heap w bk cs cs' t' _ h4, (fun q => by cases q), ?_, fun j v d hj hd => ?_⟩⟩
     ·rw [qdd off hs1, List.length_take]; omega
     ·rw [qdd off hs1, List.getElem?_take] at hd
      split at hd
      ·rename_i hlt
       have hj2 : cs[j]? = some v := by
        rw [← hcs', List.getElem?_toArray, List.append_assoc, List.getElem?_append_left (by simp; omega), List.getElem?_take, if_pos hlt] at hj
        simpa using hj
       exact (h7 j v d hj2 hd).ext hext.same (fun _ _ hx => hx)
      ·cases hd
 ·subst ho0; subst hn0
  refine fin (w' := w) ?_ (Fr.refl _ _) ?_
  ·rw [hev]
   simp [Builtin.clear_, run_underlying ht, Result.andThen]
  ·refine ⟨hsz0, hfits, ?_⟩
   rcases hrest with ⟨h3, h4⟩ | ⟨bk', cs, h3, h4, h5, h6, h7⟩
   ·exact .inl ⟨h3, by simp⟩
   ·rw [hb] at h3; cases h3
end
end Go.Ev
namespace Go.Ev
section
variable {C : Cfg} {E : Env} {bt : Nat → Option Nat} {s : St} {a : Act} {w : World} {X : Nat → Prop} {nf : Nat → Prop} {P : Program}
theorem qi8 {o : Oper} {src dst : TypeId} {x : Operand} (ho : o.op = .convert src dst x) {v : Value} {w' : World} (h : (convert src dst (a.eval x)).run P w = .ok v w') : (execOp a.eval o).run P w = .ok (.value v) w' := by
 simp only [execOp, ho, Sem.run_bind, h]; rfl
theorem Rel.alloc (h : Rel C E bt s a w) (o : Obj) : Rel C E bt s a (w.alloc o) := by
 have he := fun X => qry X w o
 exact ⟨h.df, h.sz, fun i v hv => (h.slots i v hv).ext (he _) (fun _ _ hx => hx) (fun _ _ => rfl) (fun _ hf => hf), fun id o' hid => (h.objs id o' hid).ext (he _) (fun _ _ hx => hx) (fun _ _ => rfl) (fun _ hf => hf) (qdz hid) (fun bk hbk => Go.RowKit.Below.heap_alloc w o bk ((h.objs id o' hid).lt hbk)), h.inj, h.own, h.nx, h.fr.trans (qiw _ w o), h.pin⟩
theorem Rel.notX (h : Rel C E bt s a w) : ¬ Xs E.X0 s.hp bt w.heap.size := by
 rintro (hx | ⟨i, hl, hi⟩)
 ·have := E.hx _ hx; have := h.fr.ext.size; omega
 ·have := h.lt (qc5 hl) hi; omega
theorem qxg {t : TypeId} {k : IntKind} (h : ckT P t = .int k) : P.underlying t = some (.int k) := by
 unfold ckT at h
 split at h
 ·cases h; assumption
 ·cases h
 ·split at h <;> cases h
 ·cases h
theorem qmw {t : TypeId} (h : ckT P t = .str) : P.underlying t = some .string := by
 unfold ckT at h
 split at h
 ·cases h
 ·assumption
 ·split at h <;> cases h
 ·cases h
theorem qr8 {t : TypeId} (h : ckT P t = .bytes) : ∃ e, P.underlying t = some (.slice e) ∧ P.underlying e = some (.int .u8) := by
 unfold ckT at h
 split at h
 ·cases h
 ·cases h
 ·rename_i e he
  split at h
  ·exact ⟨e, he, by assumption⟩
  ·cases h
 ·cases h
theorem qia (b : ByteArray) : (qdc b).length = b.size := by unfold qdc; rw [List.length_map, Array.length_toList]; rfl
theorem qnl (b : ByteArray) : flat (qdc b) = qdc b := by
 unfold qdc
 generalize b.data.toList = l
 induction l with
 | nil => rfl
 | cons x l ih => rw [List.map_cons, qc0, ih]; rfl
theorem qxh : ∀ {l : List D}, l.all isU8 = true → flat l = l
 | [], _ => rfl
 | d :: l, h => by
   rw [List.all_cons, Bool.and_eq_true] at h
   rw [qc0, qxh h.2]
   have : d.cells = [d] := by
    cases d <;> first | rfl | cases h.1
   rw [this]; rfl
theorem q9b {v : Value} {d : D} (h : RD w X v d) (hd : isU8 d = true) : ∃ n, v = .int .u8 n ∧ d = .i .u8 n := by
 cases h with
 | i k n =>
   unfold isU8 at hd
   split at hd
   ·rename_i e; cases e; exact ⟨_, rfl, rfl⟩
   ·cases hd
 | _ => cases hd
theorem qnm : ∀ (ns : List Int) (r : ByteArray), ns.foldl (fun r n => r.push (UInt8.ofNat n.toNat)) r = ⟨r.data ++ (ns.map fun n => UInt8.ofNat n.toNat).toArray⟩
 | [], r => by simp
 | n :: l, r => by
   simp only [List.foldl_cons, List.map_cons]
   rw [qnm l]
   simp [ByteArray.push]
theorem qyn {yv : Value} {ys : List D} {news : List Value} (h : Src P w X 1 yv ys news) (hu : ys.all isU8 = true) : ∃ ns : List Int, news = ns.map (Value.int .u8) ∧ ys = ns.map (D.i .u8) := by
 have hsz : news.length = ys.length := by rw [h.size, Nat.mul_one]
 have hrd := h.rd
 rw [qxh hu] at hrd
 clear h
 induction ys generalizing news with
 | nil => exact ⟨[], List.eq_nil_of_length_eq_zero (by simpa using hsz), rfl⟩
 | cons d l ih =>
   cases news with
   | nil => simp at hsz
   | cons v vs =>
     rw [List.all_cons, Bool.and_eq_true] at hu
     obtain ⟨n, e1, e2⟩ := q9b (hrd 0 v d rfl rfl) hu.1
     obtain ⟨ns, e3, e4⟩ := ih hu.2 (by simpa using hsz) fun j v d hj hd => hrd (j + 1) v d (by simpa using hj) (by simpa using hd)
     exact ⟨n :: ns, by simp [e1, e3], by simp [e2, e4]⟩
theorem qyo (h : Rel C E bt s a w) {o : Oper} {src dst : TypeId} {x : Operand} (ho : o.op = .convert src dst x) {v : V} (hv : s.val x = some v) {r : Res} (hr : qfb C s src dst v = some r) (hok : r.ok) : Out C E o s a w r.dl := by
 have hval := q0s h hv
 unfold qfb at hr
 split at hr
 ·rename_i k0 k kk n h1 h2
  rw [qbl hr]
  have hs := qxg h1
  have hd := qxg h2
  have hd' := q0z hval
  generalize hvx : a.eval x = u at hd'
  cases hd'
  refine Out.same h (v := .int k (k.wrap n)) (qi8 ho ?_) (fun y hy => by cases hy; exact .d _ _ (.i _ _))
  rw [hvx]
  simp [convert, run_underlying hs, run_underlying hd, Conv.intToInt]
 ·rename_i b h1 h2
  rw [qbl hr]
  have hs := qmw h1
  have hd := qmw h2
  have hd' := q0z hval
  generalize hvx : a.eval x = u at hd'
  cases hd'
  refine Out.same h (v := .string b) (qi8 ho ?_) (fun y hy => by cases hy; exact .d _ _ (.s _))
  rw [hvx]
  simp [convert, run_underlying hs, run_underlying hd]
 ·rename_i b h1 h2
  rw [qbl hr]
  have hs := qmw h1
  obtain ⟨e, hd, he⟩ := qr8 h2
  have hd' := q0z hval
  generalize hvx : a.eval x = u at hd'
  cases hd'
  have hrun := run_bytes_of_string (P := C.P) w src dst e b hs hd he
  have hr1 : Rel C E bt s a w.drew := h.heap rfl rfl rfl rfl
  have hr2 := hr1.alloc (.cells (bytesRow b (grownCap w b.size 0 e)) e ((bytesRow b (grownCap w b.size 0 e)).size, (bytesRow b (grownCap w b.size 0 e)).size + 1))
  have hge := grownCap_ge w b.size 0 e
  have hnew : (w.drew.alloc (.cells (bytesRow b (grownCap w b.size 0 e)) e ((bytesRow b (grownCap w b.size 0 e)).size, (bytesRow b (grownCap w b.size 0 e)).size + 1))).heap[w.heap.size]? = some (.cells (bytesRow b (grownCap w b.size 0 e)) e ((bytesRow b (grownCap w b.size 0 e)).size, (bytesRow b (grownCap w b.size 0 e)).size + 1)) := qkr w.drew _
  refine ⟨_, _, _, bt, qi8 ho (by rw [hvx]; exact hrun), .inl rfl, hr2.pure o.dst (fun y hy => ?_)⟩
  cases hy
  have key : RD (w.drew.alloc (.cells (bytesRow b (grownCap w b.size 0 e)) e ((bytesRow b (grownCap w b.size 0 e)).size, (bytesRow b (grownCap w b.size 0 e)).size + 1))) (Xs E.X0 s.hp bt) (.slice (some ⟨w.heap.size, 0, none⟩) (qdc b).length (grownCap w b.size 0 e)) (.sl 1 (qdc b)) := ?_
  ·rw [qia] at key
   exact .d _ _ key
  refine .sl _ _ 1 (qdc b) (fun j => .int .u8 (((b.data.toList.getD j 0).toNat : Nat) : Int)) (by rw [qia]; exact hge) (by omega) (fun d hd => ?_) (fun _ => ⟨rfl, h.notX⟩) (fun j d hj => ?_) (fun j d hj => ?_)
  ·unfold qdc at hd
   obtain ⟨y, _, rfl⟩ := List.mem_map.1 hd
   exact ⟨rfl, by simp [D.cells, D.one]⟩
  ·rw [qnl] at hj
   have hjl : j < b.data.size := by
    have := (List.getElem?_eq_some_iff.1 hj).1
    rw [qia] at this; exact this
   unfold World.cell?
   rw [Nat.zero_add]
   simp only [hnew, Option.isSome_none, Bool.false_eq_true, if_false]
   unfold bytesRow
   rw [Array.getElem?_append_left (by simpa using hjl)]
   simp only [Array.getElem?_map, Array.getElem?_eq_getElem hjl, Option.map_some, List.getD_eq_getElem?_getD, Array.getElem?_toList, Option.getD_some]
  ·rw [qnl] at hj
   unfold qdc at hj
   rw [List.getElem?_map, Option.map_eq_some_iff] at hj
   obtain ⟨y, hy, rfl⟩ := hj
   rw [List.getD_eq_getElem?_getD, hy, Option.getD_some]
   exact .i _ _
 ·rename_i h1 h2
  obtain ⟨e, hs, he⟩ := qr8 h1
  have hd := qmw h2
  split at hr
  ·rename_i ds rd hel
   cases hr
   have hu : ds.all isU8 = true := hok
   obtain ⟨news, hsrc⟩ := qua h hval hel
   obtain ⟨ns, rfl, rfl⟩ := qyn hsrc hu
   have hsd : strD (ns.map (D.i .u8)) = ⟨(ns.map fun n => UInt8.ofNat n.toNat).toArray⟩ := by
    unfold strD
    rw [List.map_map]; rfl
   have hconv : (convert src dst (a.eval x)).run C.P w = .ok (.string (strD (ns.map (D.i .u8)))) w := by
    have hl := hsrc.len w
    have hf := hsrc.first w rfl
    generalize a.eval x = yv at hl hf hval
    cases yv with
    | slice p n c =>
      rw [run_convert_bytes_string w src dst e p n c hs he hd]
      simp only [Builtin.lenOf, Sem.run_pure, Result.ok.injEq, and_true] at hl
      cases p with
      | none =>
        simp only [Builtin.firstCells, Sem.run_pure, Result.ok.injEq, and_true] at hf
        have : ns = [] := by
         have := congrArg Array.size hf
         simpa using this.symm
        subst this
        have : strD (([] : List Int).map (D.i .u8)) = ByteArray.empty := rfl
        rw [this]
        simp [Conv.bytesToString]
      | some ad =>
        have hf2 : (loadCells ad (ns.length * 1)).run C.P w = .ok (ns.map (Value.int .u8)).toArray w := by simpa [Builtin.firstCells] using hf
        rw [Nat.mul_one] at hf2
        have hn : n = ns.length := by simpa using hl
        subst hn
        rw [run_bytesToString w ad _ c ns hf2, qnm, hsd]
        simp [ByteArray.empty, ByteArray.emptyWithCapacity]
        rfl
    | string q =>
      exfalso
      cases hval with
      | d _ x hh => cases hh; cases hel
      | opt _ g x h1 h2 => cases hel
    | _ => exfalso; simp [Builtin.lenOf, Sem.run, stuck] at hl
   exact Out.same h (qi8 ho hconv) (fun y hy => by cases hy; exact .d _ _ (.s _))
  ·cases hr
 ·cases hr
theorem qyp {o : Oper} {t : TypeId} {x y : Operand} (ho : o.op = .makeSlice t x y) {v : Value} {w' : World} (h : (Instr.makeSlice t (a.eval x) (a.eval y)).run P w = .ok v w') : (execOp a.eval o).run P w = .ok (.value v) w' := by
 simp only [execOp, ho, Sem.run_bind, h]; rfl
theorem qw3 (h : Rel C E bt s a w) {o : Oper} {t : TypeId} {x y : Operand} (ho : o.op = .makeSlice t x y) {n c : V} (hn : s.val x = some n) (hc : s.val y = some c) {r : Res} (hr : qfc C s o.dst t n c = some r) (hok : r.ok) : Out C E o s a w r.dl := by
 have hvn := q0s h hn
 have hvc := q0s h hc
 unfold qfc at hr
 split at hr
 ·rename_i e k1 p k2 q he
  split at hr
  ·rename_i sz by_ z hsz hby hz
   split at hr
   ·rename_i hzl
    obtain ⟨hfree, rfl⟩ := qck hr
    obtain ⟨h0, rfl, hb, h62, hcells, hone⟩ := hok
    obtain ⟨i, zv, hq, hzv, z1, z2⟩ := qfw hz
    obtain ⟨i2, hi2, hi2s⟩ := qks hsz
    rw [hq] at hi2; cases hi2
    have hib : i.bytes = by_ := by
     unfold qb1 at hby; rw [hq] at hby; simpa using hby
    have hun := q0z hvn
    have huc := q0z hvc
    generalize hx : a.eval x = ux at hun
    generalize hy : a.eval y = uy at huc
    cases hun; cases huc
    have hrun := run_make (P := C.P) w t e i zv (qfd he) hq hzv k1 k2 p p h0 (Int.le_refl _) (by rw [hib]; have : (by_ : Int) * p = p * (by_ : Int) := Int.mul_comm _ _; omega) (by omega)
    have hfits : (zD C.P e).fits (sz + 1) := ⟨by rw [hcells, hzl], fun c hc => by rw [hcells] at hc; exact List.all_eq_true.1 hone c hc⟩
    have hsz1 : (madeCells zv.cells (p.toNat * i.size)).size = p.toNat * (sz + 1) := by rw [size_madeCells, hi2s]
    have hrep : (List.replicate p.toNat (zD C.P e)).length = p.toNat := List.length_replicate
    have hm := qn4 h hfree (w' := w) rfl rfl rfl rfl (t := e) (cs := madeCells zv.cells (p.toNat * i.size)) (l := List.replicate p.toNat (zD C.P e)) (sz := sz + 1) (cap := p.toNat) (z := false) (Nat.succ_pos _)
     (fun d hd => by rw [(List.mem_replicate.1 hd).2]; exact hfits) (fun hh => by cases hh) (by rw [hrep]; exact Nat.le_refl _) hsz1
     (qr2 (Nat.succ_pos _) (fun d hd => by rw [(List.mem_replicate.1 hd).2]; exact hfits.1) (fun q d c v e' hd hc hv he' => by
       have hd' := (List.mem_replicate.1 (List.mem_of_getElem? hd)).2
       subst hd'
       have hql : q < p.toNat := by rw [← hrep]; exact (List.getElem?_eq_some_iff.1 hd).1
       have hzc : zv.cells.size = sz + 1 := by omega
       have hlt : q * (sz + 1) + c < p.toNat * i.size := by
        rw [hi2s]
        calc q * (sz + 1) + c < q * (sz + 1) + (sz + 1) := by omega
         _ = (q + 1) * (sz + 1) := by rw [Nat.add_mul, Nat.one_mul]
         _ ≤ p.toNat * (sz + 1) := Nat.mul_le_mul_right _ hql
       unfold madeCells at hv
       rw [Array.getElem?_map, Array.getElem?_range, if_pos hlt] at hv
       simp only [Option.map_some, Option.some.injEq] at hv
       rw [hzc] at hv
       have hmod : (q * (sz + 1) + c) % (sz + 1) = c := by rw [Nat.add_comm, Nat.add_mul_mod_self_right]; exact Nat.mod_eq_of_lt hc
       rw [hmod, getElem!_pos zv.cells c (by omega)] at hv
       rw [hcells] at he'
       have := z2 c zv.cells[c] e' (by simp [hzc, hc]) he'
       rw [← hv]
       exact qij this)) []
    rw [hrep] at hm
    exact ⟨_, _, _, _, qyp ho (by rw [hx, hy]; exact hrun), .inl rfl, hm⟩
   ·cases hr
  ·cases hr
 ·cases hr
end
end Go.Ev
namespace Go.Ev
section
variable {C : Cfg} {E : Env} {bt : Nat → Option Nat} {s : St} {a : Act} {w : World} {X : Nat → Prop} {nf : Nat → Prop} {P : Program}
def qee (P : Program) (f : FuncId) : Prop := ∃ fn, P.funcs[f]? = some fn ∧ fn.body.isSome = true ∧ (fn.name == "runtime.NumGoroutine") = false
theorem qur {f : FuncId} (h : qee P f) (args : Array Value) : (callFunc f args).run P w = .ok (.enter f args) w := by
 obtain ⟨fn, h1, h2, h3⟩ := h
 have h2' : ¬ fn.body = none := by
  intro hb; rw [hb] at h2; cases h2
 have h3' : ¬ fn.name = "runtime.NumGoroutine" := by simpa using h3
 simp [callFunc, h1, h2', h3']
theorem qus {t : TypeId} (h : qcs P t = true) : P.underlying t = some .string := by
 unfold qcs at h
 split at h
 ·assumption
 ·cases h
theorem qgv {t e : TypeId} (h : P.underlying t = some (.slice e)) : P.underlying t = some (.slice (P.elem t)) := by
 rw [h]; simp [Program.elem, h]
theorem q3b {t : TypeId} {v : Value} {x : V} {n : Nat} (hv : VR w X bt nf v x) (hn : lenOf P t x = some n) (ty : TypeId) :
 (Builtin.len_ #[t] ty #[v]).run P w = .ok (.int .i64 n) w := by
 unfold lenOf at hn
 split at hn
 ·split at hn
  ·rename_i hs
   cases hn
   have := q0z hv; cases this
   exact run_len_string w t ty _ (qus hs)
  ·cases hn
 ·split at hn
  ·rename_i hs
   cases hn
   obtain ⟨e, he⟩ := qfx hs
   have := q0z hv; cases this
   exact run_len_slice w t ty _ _ _ (qgv he)
  ·cases hn
 ·split at hn
  ·rename_i hs
   cases hn
   obtain ⟨e, he⟩ := qfx hs
   have := q0z hv
   rcases quh this with ⟨ad, c, rfl⟩ | ⟨rfl, rfl⟩
   ·exact run_len_slice w t ty _ _ _ (qgv he)
   ·exact run_len_slice w t ty _ _ _ (qgv he)
  ·cases hn
 ·split at hn
  ·rename_i hs
   cases hn
   obtain ⟨e, he⟩ := qfx hs
   cases hv
   ·exact run_len_slice w t ty _ _ _ (qgv he)
   ·exact run_len_slice w t ty _ _ _ (qgv he)
  ·cases hn
 ·cases hn
theorem q00w {args : Array Operand} {vs : List V} (h : Rel C E bt s a w) (hv : vals s args.toList = some vs) : (args.map a.eval).size = vs.length ∧
 ∀ (j : Nat) (v : Value) (x : V), (args.map a.eval)[j]? = some v → vs[j]? = some x → VR w (Xs E.X0 s.hp bt) bt (Nf s.hp) v x := by
 obtain ⟨h1, h2⟩ := qfo hv
 refine ⟨by simpa using h1.symm, fun j v x hj hx => ?_⟩
 simp only [Array.getElem?_map, Option.map_eq_some_iff] at hj
 obtain ⟨y, hy, rfl⟩ := hj
 obtain ⟨x', hx', hval⟩ := h2 j y (by simpa using hy)
 rw [hx] at hx'; cases hx'
 exact q0s h hval
theorem q5b {args : Array Operand} {v : V} (hv : vals s args.toList = some [v]) : ∃ x, args = #[x] ∧ s.val x = some v := by
 obtain ⟨h1, h2⟩ := qfo hv
 obtain ⟨l⟩ := args
 match l, h1, h2 with
 | [x], _, h2 =>
   obtain ⟨v', hv', he⟩ := h2 0 x rfl
   cases hv'
   exact ⟨x, rfl, he⟩
theorem qyq {args : Array Operand} {v u : V} (hv : vals s args.toList = some [v, u]) : ∃ x y, args = #[x, y] ∧ s.val x = some v ∧ s.val y = some u := by
 obtain ⟨h1, h2⟩ := qfo hv
 obtain ⟨l⟩ := args
 match l, h1, h2 with
 | [x, y], _, h2 =>
   obtain ⟨v', hv', he⟩ := h2 0 x rfl
   obtain ⟨u', hu', he'⟩ := h2 1 y rfl
   cases hv'; cases hu'
   exact ⟨x, y, rfl, he, he'⟩
theorem qxi {α : Type} {ts : Array α} {t : α} (h : ts.toList = [t]) : ts = #[t] := by obtain ⟨l⟩ := ts; simp at h; simp [h]
theorem q6q {α : Type} {ts : Array α} {t u : α} (h : ts.toList = [t, u]) : ts = #[t, u] := by obtain ⟨l⟩ := ts; simp at h; simp [h]
theorem qtp (h : Rel C E bt s a w) {o : Oper} {b : Builtin} {args : Array Operand} {ts : Array TypeId} (ho : o.op = .call ⟨.builtin b, args, ts⟩) {vs : List V} (hv : vals s args.toList = some vs)
 {r : Res} (hr : qep C s o.dst b ts.toList vs = some r) (hok : r.ok) : Out C E o s a w r.dl := by
 unfold qep at hr
 split at hr
 ·rename_i t v hts
  obtain ⟨x, rfl, hx⟩ := q5b hv
  have := qxi hts; subst this
  split at hr
  ·rename_i n hn
   rw [qbl hr]
   refine Out.same h (v := .int .i64 n) (qfp ho ?_) (fun y hy => by cases hy; exact .d _ _ (.i _ _))
   have := q3b (P := C.P) (q0s h hx) hn o.type
   simp only [builtin, List.map_toArray, List.map_cons, List.map_nil, Sem.run_bind, this, Result.andThen_ok, Sem.run_pure]
  ·split at hr
   ·rename_i q ks vs' rd hm hmo
    cases hr
    obtain ⟨kt, et⟩ := q
    refine Out.same h (v := .int .i64 ks.length) (qfp ho ?_) (fun y hy => by cases hy; exact .d _ _ (.i _ _))
    have : (Builtin.len_ #[t] o.type #[a.eval x]).run C.P w = .ok (.int .i64 ks.length) w := by
     rcases qup h (q0s h hx) hmo with ⟨e, rfl, rfl⟩ | ⟨bk, es, clock, e, hb, e1, _⟩
     ·rw [e]
      simp [Builtin.len_, run_underlying (qez hm), goInt]
     ·rw [e, ← e1]
      simp [Builtin.len_, run_underlying (qez hm), MapKept.run_getObj_map hb, goInt, Result.andThen]
    simp only [builtin, List.map_toArray, List.map_cons, List.map_nil, Sem.run_bind, this, Result.andThen_ok, Sem.run_pure]
   ·cases hr
 ·rename_i t1 t2 x y hts
  obtain ⟨ox, oy, rfl, hx, hy⟩ := qyq hv
  have := q6q hts; subst this
  exact quc h ho hx hy hr hok
 ·rename_i t v hts
  obtain ⟨x, rfl, hx⟩ := q5b hv
  have := qxi hts; subst this
  split at hr
  ·rename_i id sz off n e he
   split at hr
   ·rename_i t' sz' zb l sz'' z hl hsz hz
    split at hr
    ·rename_i hc
     obtain ⟨rfl, rfl, hzl, hd⟩ := hc
     cases hr
     exact qw2 h ho hx he hl hz hzl hd hok
    ·cases hr
   ·cases hr
  ·cases hr
 ·rename_i k a' k' b'
  split at hr
  ·rename_i hk
   subst hk
   rw [qbl hr]
   obtain ⟨x, y, rfl, hx, hy⟩ := qyq hv
   have vx := q0z (q0s h hx)
   have vy := q0z (q0s h hy)
   generalize hvx : a.eval x = ux at vx
   generalize hvy : a.eval y = uy at vy
   cases vx; cases vy
   refine Out.same h (v := .int k (if b' < a' then b' else a')) (qfp ho ?_) (fun y hy => by cases hy; exact .d _ _ (.i _ _))
   simp only [builtin, List.map_toArray, List.map_cons, List.map_nil, hvx, hvy, Sem.run_bind, run_min_int2, Result.andThen_ok, Sem.run_pure]
  ·cases hr
 ·rename_i k a' k' b'
  split at hr
  ·rename_i hk
   subst hk
   rw [qbl hr]
   obtain ⟨x, y, rfl, hx, hy⟩ := qyq hv
   have vx := q0z (q0s h hx)
   have vy := q0z (q0s h hy)
   generalize hvx : a.eval x = ux at vx
   generalize hvy : a.eval y = uy at vy
   cases vx; cases vy
   refine Out.same h (v := .int k (if a' < b' then b' else a')) (qfp ho ?_) (fun y hy => by cases hy; exact .d _ _ (.i _ _))
   simp only [builtin, List.map_toArray, List.map_cons, List.map_nil, hvx, hvy, Sem.run_bind, run_max_int2, Result.andThen_ok, Sem.run_pure]
  ·cases hr
 ·cases hr
structure TEnter (C : Cfg) : Prop where
 t : ∀ f args r, C.T f args = some r → qee C.P f
 i : ∀ f x, C.ti f = some x → qee C.P f
theorem qyr {q : Bool} {dst : Option Tmp} {f : FuncId} {vs : List V} {r : Res} (hr : qcw C q s dst f vs = some r) : ∃ os r', C.T f os = some r' := by
 unfold qcw at hr
 split at hr
 ·cases hr
 ·split at hr
  ·cases hr
  ·rename_i r' h
   exact ⟨_, _, h⟩
theorem q00x (hE : TEnter C) {q : Bool} {dst : Option Tmp} {f : FuncId} {vs : List V} {r : Res} (hr : qbt C q s dst f vs = some r) : qee C.P f := by
 unfold qbt at hr
 split at hr
 ·obtain ⟨os, r', h⟩ := qyr hr
  exact hE.t f os r' h
 ·rename_i h
  exact hE.i f _ h
theorem qo7 (hT : TOk C) (hE : TEnter C) (h : Rel C E bt s a w) {q : Bool} {o : Oper} {x : Operand} {args : Array Operand} {ts : Array TypeId} (ho : o.op = .call ⟨.value x, args, ts⟩)
 {f : FuncId} {caps : Array Value} {cs : List V} (hx : a.eval x = .func (.func f) #[] caps) (hn : caps.size = cs.length)
 (hc : ∀ (j : Nat) (v : Value) (y : V), caps[j]? = some v → cs[j]? = some y → VR w (Xs E.X0 s.hp bt) bt (Nf s.hp) v y)
 {vs : List V} (hv : vals s args.toList = some vs) {r : Res} (hr : qbt C q s o.dst f (vs ++ cs) = some r) (hpok : r.ok)
 (next : Act → World → Prop) (Q : Exit → Act → World → Prop) (hk : ∀ bt' a' w', Rel C E bt' (r.dl.app C o.dst s) a' w' → next a' w') : o.wp C.P a w next Q := by
 have hex : (execOp a.eval o).run C.P w = .ok (.enter f (args.map a.eval ++ caps)) w := by
  simp only [execOp, ho, resolve, Deferred.ofValue, hx, Sem.run_bind, Sem.run_pure, Result.andThen_ok, invoke, Array.empty_append]
  exact qur (q00x hE hr) _
 unfold Oper.wp
 rw [hex]
 obtain ⟨a1, a2⟩ := q00w h hv
 have hc' := qyl hT h (q := q) (dst := o.dst) (f := f) (vs := vs ++ cs) (args := args.map a.eval ++ caps) (by simp [hn, ← a1]) (fun j v y hj hy => by
  by_cases hlt : j < vs.length
  ·rw [Array.getElem?_append_left (by omega)] at hj
   rw [List.getElem?_append_left hlt] at hy
   exact a2 j v y hj hy
  ·rw [Array.getElem?_append_right (by omega)] at hj
   rw [List.getElem?_append_right (by omega)] at hy
   rw [a1] at hj
   exact hc _ v y hj hy) hr hpok
 refine Calls.mono hc' fun e w' he => ?_
 obtain ⟨v, bt', rfl, hrel⟩ := he
 exact hk _ _ _ hrel
theorem q00y (hT : TOk C) (hE : TEnter C) (h : Rel C E bt s a w) {q : Bool} {o : Oper} {r : Res} (hr : aop C q o s = some r) (hok : r.ok)
 (next : Act → World → Prop) (Q : Exit → Act → World → Prop) (hk : ∀ bt' a' w', Rel C E bt' (r.dl.app C o.dst s) a' w' → next a' w') : o.wp C.P a w next Q := by
 have hr0 := hr
 unfold aop at hr
 split at hr
 ·rename_i x ho; exact (qoz h (.inl ho) hr).wp next Q hk
 ·rename_i x ho; exact (qoz h (.inr ho) hr).wp next Q hk
 ·rename_i c x y ho; exact (qyh h ho hr0 hok).wp next Q hk
 ·rename_i t ho
  split at hr
  ·rename_i z hz; exact (qwv h ho hz hr).wp next Q hk
  ·cases hr
 ·rename_i t x ho
  split at hr
  ·rename_i v hv
   simp only [Option.bind_eq_some_iff] at hr
   obtain ⟨c, hc, hr⟩ := hr
   exact (q00o h ho hv hc hr).wp next Q hk
  ·cases hr
 ·rename_i t x ho; exact (qyi h ho hr0 hok).wp next Q hk
 ·rename_i t x y ho; exact (qwx h ho hr0 hok).wp next Q hk
 ·rename_i x ho; exact (qq5 h ho hr0).wp next Q hk
 ·rename_i op t x y ty ho
  split at hr
  ·rename_i u v hu hv; exact (q00t h ho hu hv hr hok).wp next Q hk
  ·cases hr
 ·rename_i op t x ho; exact (qyj h ho hr0).wp next Q hk
 ·rename_i t x f ho; exact (qo0 h ho hr0).wp next Q hk
 ·rename_i t x f ho; exact (qwy h ho hr0).wp next Q hk
 ·rename_i t x y ho; exact (qo1 h ho hr0 hok).wp next Q hk
 ·rename_i t x y ho; exact (qwz h ho hr0 hok).wp next Q hk
 ·rename_i t parts ho
  split at hr
  ·rename_i z pl hz hpl
   simp only [Option.bind_eq_some_iff] at hr
   obtain ⟨c, hc, hr⟩ := hr
   rw [qbl hr] at hk
   exact (qww h ho hz hpl hc).wp next Q hk
  ·cases hr
 ·rename_i t n parts ho
  split at hr
  ·rename_i e he
   split at hr
   ·rename_i sz z vs hsz hz hvs
    split at hr
    ·rename_i ds hds
     split at hr
     ·rename_i hcond
      exact (qn5 h ho he hsz hz hvs hds hcond.1 hcond.2.1 hcond.2.2 hr hok).wp next Q hk
     ·cases hr
    ·rename_i ds k is hds
     split at hr
     ·rename_i hcond
      exact (qne h ho he hsz hz hvs hds hcond.1 hcond.2.1 hcond.2.2 hr hok).wp next Q hk
     ·cases hr
    ·cases hr
   ·cases hr
  ·cases hr
 ·rename_i t x lo hi mx ho; exact (qw0 h ho hr0 hok).wp next Q hk
 ·rename_i x i ho; exact (qtm h ho hr0).wp next Q hk
 ·rename_i f first caps ho; exact (qq6 h ho hr0).wp next Q hk
 ·rename_i t ho; exact (qtn h ho hr).wp next Q hk
 ·rename_i t x y cm ho
  split at hr
  ·rename_i u v hu hv; exact (quq h ho hu hv hr hok).wp next Q hk
  ·cases hr
 ·rename_i t x y z ho
  split at hr
  ·rename_i u v q hu hv hq; exact (qo6 h ho hu hv hq hr hok).wp next Q hk
  ·cases hr
 ·rename_i src dst x ho
  split at hr
  ·rename_i v hv; exact (qyo h ho hv hr hok).wp next Q hk
  ·cases hr
 ·rename_i t x y ho
  split at hr
  ·rename_i n c hn hc; exact (qw3 h ho hn hc hr hok).wp next Q hk
  ·cases hr
 ·rename_i c ho
  obtain ⟨callee, args, ts⟩ := c
  split at hr
  ·cases hr
  ·rename_i vs hvs
   split at hr
   ·rename_i b hb
    simp only at hb
    subst hb
    exact (qtp h ho hvs hr hok).wp next Q hk
   ·rename_i x hb
    simp only at hb
    subst hb
    split at hr
    ·rename_i f ds hx
     have hv := q0z (q0s h hx)
     generalize hvx : a.eval x = ux at hv
     cases hv with
     | fn _ cs _ hn hh =>
       refine qo7 hT hE h ho hvx (by simpa using hn) (fun j v y hj hy => ?_) hvs hr hok next Q hk
       simp only [List.getElem?_map, Option.map_eq_some_iff] at hy
       obtain ⟨d, hd, rfl⟩ := hy
       exact .d _ _ (hh j v d hj hd)
    ·rename_i f caps hx
     have hv := q0s h hx
     generalize hvx : a.eval x = ux at hv
     cases hv with
     | fn _ cs _ hn hh => exact qo7 hT hE h ho hvx hn hh hvs hr hok next Q hk
    ·cases hr
   ·cases hr
 ·cases hr
end
end Go.Ev
namespace Go.Ev
section
variable {C : Cfg} {E : Env} {bt : Nat → Option Nat} {s : St} {a : Act} {w : World} {X : Nat → Prop} {nf : Nat → Prop} {P : Program}
def Wk (s s' : St) : Prop := s'.hp = s.hp ∧ ∀ i v, s'.sl i = some v → ∃ v', s.sl i = some v' ∧ ∀ w X bt nf u, VR w X bt nf u v' → VR w X bt nf u v
theorem Wk.refl (s : St) : Wk s s := ⟨rfl, fun _ v h => ⟨v, h, fun _ _ _ _ _ h => h⟩⟩
theorem Rel.wk {s' : St} (h : Rel C E bt s a w) (hw : Wk s s') : Rel C E bt s' a w := by
 obtain ⟨sl, hp⟩ := s
 obtain ⟨sl', hp'⟩ := s'
 obtain ⟨e, hw⟩ := hw
 simp only at e hw
 subst e
 exact ⟨h.df, h.sz, fun i v hv => let ⟨v', h1, h2⟩ := hw i v hv; h2 _ _ _ _ _ (h.slots i v' h1), h.objs, h.inj, h.own, h.nx, h.fr, h.pin⟩
theorem Wk.app {s s' : St} (hw : Wk s s') (dst : Option Tmp) (δ : Delta) : Wk (δ.app C dst s) (δ.app C dst s') := by
 obtain ⟨e, hw⟩ := hw
 refine ⟨by simp [Delta.app, e], fun i v hv => ?_⟩
 cases dst with
 | none => exact hw i v hv
 | some d =>
   simp only [Delta.app, qfi] at hv ⊢
   by_cases hi : i = d
   ·subst hi
    simp only [if_true] at hv ⊢
    exact ⟨v, hv, fun _ _ _ _ _ h => h⟩
   ·simp only [hi, if_false] at hv ⊢
    exact hw i v hv
theorem qff (g : Bool) : ∀ (l : List Operand) (s : St), (g = true → (qbp g s l).1 → Wk (qbp g s l).2 s) ∧ ((qbp g s l).2.hp = s.hp) ∧
 (g = true → (qbp g s l).1 → ∀ {bt a w}, Rel C E bt s a w → Rel C E bt (qbp g s l).2 a w)
 | [], s => ⟨fun _ _ => Wk.refl s, rfl, fun _ _ _ _ _ h => h⟩
 | .tmp t :: r, s => by
   unfold qbp
   split
   ·rename_i g' v hs
    have ih := qff g r ⟨fun i => if i = t then some v else s.sl i, s.hp⟩
    obtain ⟨i1, i2, i3⟩ := ih
    refine ⟨fun hg hp => ⟨i2.symm, fun i x hx => ?_⟩, i2, fun hg hp bt a w h => i3 hg hp.2 ?_⟩
    ·by_cases hi : i = t
     ·subst hi
      rw [hs] at hx; cases hx
      obtain ⟨v', h1, h2⟩ := (i1 hg hp.2).2 i v (by simp)
      exact ⟨v', h1, fun w X bt nf u hh => .opt _ _ _ (fun _ => h2 w X bt nf u hh) fun e => by rw [hp.1 hg] at e; cases e⟩
     ·exact (i1 hg hp.2).2 i x (by simpa [hi] using hx)
    ·refine ⟨h.df, h.sz, fun i x hx => ?_, h.objs, h.inj, h.own, h.nx, h.fr, h.pin⟩
     by_cases hi : i = t
     ·subst hi
      simp only [if_true, Option.some.injEq] at hx
      subst hx
      have hv := h.slots i _ hs
      show VR w _ bt _ (a.tmps.getD i undef) v
      generalize a.tmps.getD i undef = u at hv ⊢
      cases hv with
      | opt _ _ _ hh _ => exact hh (hp.1 hg)
     ·exact h.slots i x (by simpa [hi] using hx)
   ·exact qff g r s
 | .const _ :: r, s => qff g r s
 | .global _ :: r, s => qff g r s
 | .func _ :: r, s => qff g r s
theorem qgh (g : Bool) : ∀ (l : List Operand) (s : St), (qbp g s l).2.hp = s.hp
 | [], s => rfl
 | .tmp t :: r, s => by
   unfold qbp
   split
   ·rename_i g' v hs
    exact qgh g r ⟨fun i => if i = t then some v else s.sl i, s.hp⟩
   ·exact qgh g r s
 | .const _ :: r, s => qgh g r s
 | .global _ :: r, s => qgh g r s
 | .func _ :: r, s => qgh g r s
theorem qra (hT : TOk C) (hE : TEnter C) (h : Rel C E bt s a w) {q : Bool} {o : Oper} {r : Res} (hr : aopU C q true o s = some r) (hok : r.ok)
 (next : Act → World → Prop) (Q : Exit → Act → World → Prop) (hk : ∀ bt' a' w', Rel C E bt' (r.dl.app C o.dst s) a' w' → next a' w') : o.wp C.P a w next Q := by
 unfold aopU at hr
 split at hr
 ·exact q00y hT hE h hr hok next Q hk
 ·simp only [Option.map_eq_some_iff] at hr
  obtain ⟨r', hr', rfl⟩ := hr
  obtain ⟨u1, u2, u3⟩ := qff (C := C) (E := E) true o.op.operands.toList s
  exact q00y hT hE (u3 rfl hok.1 h) hr' hok.2 next Q fun bt' a' w' hh => hk bt' a' w' (hh.wk ((u1 rfl hok.1).app o.dst r'.dl))
theorem qr9 {tmps : Array Value} {t : Nat} {b : Bool} (h : tmps.getD t undef = .bool b) : tmps[t]? = some (.bool b) := by
 by_cases hl : t < tmps.size
 ·simp [Array.getD, hl] at h
  simp [hl, h]
 ·simp [Array.getD, hl, undef] at h
theorem qmx (hT : TOk C) (hE : TEnter C) (h : Rel C E bt s a w) {q : Bool} {ops : Array Oper} {o : Oper} {r : Res} (hr : aop1 C q ops o s = some r) (hok : r.ok)
 (next : Act → World → Prop) (Q : Exit → Act → World → Prop) (hk : ∀ bt' a' w', Rel C E bt' (r.dl.app C o.dst s) a' w' → next a' w') :
 if Region.wanted o (yielded ops a.tmps) then o.wp C.P a w next Q ∨ (o.asks C.P a w ∧ LetsOut Q) else next (a.put o.dst undef) w := by
 unfold aop1 at hr
 split at hr
 ·rename_i hg
  rw [if_pos (by simp [Region.wanted, hg])]
  exact .inl (qra hT hE h hr hok next Q hk)
 ·rename_i j want hg
  split at hr
  rotate_left
  ·cases hr
  rename_i g hgv
  have hw : Region.wanted o (yielded ops a.tmps) = g := by
   unfold qey at hgv
   split at hgv
   ·rename_i x hx
    simp only [Option.bind_eq_some_iff] at hx
    obtain ⟨t, ht, hx⟩ := hx
    have hv := q0z (h.slots t _ hx)
    generalize hvx : a.tmps.getD t undef = ux at hv
    cases hv
    have hy : yielded ops a.tmps j = some x := by
     unfold qbx at ht
     simp [yielded, ht, qr9 hvx]
    cases hgv
    simp only [Region.wanted, hg, hy]
    cases x <;> cases want <;> rfl
   ·rename_i g' x hx
    simp only [Option.bind_eq_some_iff] at hx
    obtain ⟨t, ht, hx⟩ := hx
    have hv := h.slots t _ hx
    generalize hvx : a.tmps.getD t undef = ux at hv
    cases hgv
    cases hv with
    | opt _ _ _ hh hb =>
      cases g' with
      | true =>
        have hv := q0z (hh rfl)
        cases hv
        have hy : yielded ops a.tmps j = some x := by
         unfold qbx at ht
         simp [yielded, ht, qr9 hvx]
        simp only [Region.wanted, hg, hy]
        cases x <;> cases want <;> rfl
      | false =>
        have hy : yielded ops a.tmps j = none := by
         unfold qbx at ht
         unfold yielded
         rw [ht]
         simp only [Option.bind_some]
         split
         ·rename_i b hb'
          refine absurd ?_ (hb rfl b)
          rw [← hvx]
          by_cases hl : t < a.tmps.size
          ·simp [hl] at hb'
           simp [Array.getD, hl, hb']
          ·simp [hl] at hb'
         ·rfl
        simp only [Region.wanted, hg, hy]
        cases want <;> rfl
   ·cases hgv
  rw [hw]
  have skip : ∀ {y : Option V} {rd : List Nat}, (∀ z, y = some z → ∃ v, z = .opt false v) → Rel C E bt (Delta.app C o.dst ⟨[], y, rd⟩ s) (a.put o.dst undef) w := by
   intro y rd hy
   refine h.pure o.dst fun z hz => ?_
   obtain ⟨v, rfl⟩ := hy z hz
   exact .opt _ _ _ (fun e => by cases e) (fun _ b e => by simp [undef] at e)
  unfold qcc at hr
  split at hr
  ·rename_i ok v rd hra
   cases hr
   cases g
   ·rw [if_neg (by simp)]
    exact hk _ _ _ (skip fun z hz => ⟨v, by cases hz; rfl⟩)
   ·rw [if_pos rfl]
    refine .inl (qra hT hE h hra (hok rfl) next Q fun bt' a' w' hh => hk bt' a' w' (hh.wk ⟨rfl, fun i z hz => ?_⟩))
    cases hd : o.dst with
    | none => rw [hd] at hz; exact ⟨z, hz, fun _ _ _ _ _ h => h⟩
    | some d =>
      rw [hd] at hz
      simp only [Delta.app, qfi] at hz ⊢
      by_cases hi : i = d
      ·subst hi
       simp only [if_true] at hz ⊢
       split at hz
       ·rename_i hlt
        cases hz
        refine ⟨v, by simp [hlt], fun _ _ _ _ _ hh => .opt _ _ _ (fun _ => hh) fun e => by cases e⟩
       ·cases hz
      ·simp only [hi, if_false] at hz ⊢
       exact ⟨z, hz, fun _ _ _ _ _ h => h⟩
  ·cases g
   ·rw [if_neg (by simp)]
    cases hr
    exact hk _ _ _ (skip fun z hz => by cases hz)
   ·rw [if_pos rfl]
    exact .inl (qra hT hE h hr hok next Q hk)
theorem qxj (hT : TOk C) (hE : TEnter C) {ops : Array Oper} (Q : Exit → Act → World → Prop) : ∀ (l : List Oper) {bt : Nat → Option Nat} {s : St} {a : Act} {w : World} {p : Prop} {s' : St}, Rel C E bt s a w → aops C ops l s = some (p, s') → p →
 (∀ bt' a' w', Rel C E bt' s' a' w' → Q .normal a' w') → wpList C.P ops Q l a w
 | [], bt, s, a, w, p, s', h, hr, hp, hk => by
   cases hr
   exact hk _ _ _ h
 | o :: l, bt, s, a, w, p, s', h, hr, hp, hk => by
   unfold aops at hr
   split at hr
   ·cases hr
   ·rename_i r hr1
    split at hr
    ·cases hr
    ·rename_i p' s'' hr2
     cases hr
     unfold wpList
     exact qmx hT hE h hr1 hp.1 _ Q fun bt' a' w' hh => qxj hT hE Q l hh hr2 hp.2 hk
end
end Go.Ev
