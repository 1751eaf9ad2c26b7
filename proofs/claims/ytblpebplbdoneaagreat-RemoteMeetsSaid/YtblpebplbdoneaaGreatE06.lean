/- Tools and contracts under the laws of this seat: DevEvFz. -/
import Derived.Test.YtblpebplbdoneaaGreatE02
set_option linter.unusedVariables false
set_option linter.unusedSimpArgs false
namespace Go.Ev
def HS.frz : HS → HS
 | .live o => .fz o
 | h => h
def frzL (id : Nat) (o : Obj') (is : List Nat) (hp : List (Nat × HS)) : List (Nat × HS) := hp.map fun p => (p.1, if p.1 = id then .live o else if is.contains p.1 then p.2.frz else p.2)
theorem qza (id : Nat) (o : Obj') (is : List Nat) : ∀ (hp : List (Nat × HS)) (i : Nat), aget (frzL id o is hp) i = (aget hp i).map fun h => if i = id then .live o else if is.contains i then h.frz else h
 | [], i => rfl
 | (j, h) :: r, i => by
   have ih := qza id o is r i
   simp only [frzL] at ih
   simp only [frzL, List.map_cons, aget]
   by_cases e : i = j
   ·subst e; simp
   ·rw [if_neg e, if_neg e]; exact ih
section
variable {C : Cfg}
theorem qbnh {s : St} {id : Nat} {t : TypeId} {c : List V} {xs : List D} {is : List Nat} (hl : s.hp id = .live (.box t c)) (hd : toDs (toD1 s) c = some (xs, is)) (hn : is.contains id = false)
 (ho : is.all (fun i => (s.hp i).obj?.isSome) = true) : Sub C s ⟨s.sl, fun i => if i = id then .live (.box t (xs.map V.d)) else if is.contains i then (s.hp i).frz else s.hp i⟩ := by
 intro E bt a w hr
 refine ⟨bt, ?_⟩
 -- the rows are frozen
 have hr1 := hr.drop (fun i => if is.contains i then (s.hp i).frz else s.hp i) (fun i => by
  by_cases hi : is.contains i = true
  ·simp only [if_pos hi]
   cases hq : s.hp i with
   | live o => exact .inr (.inl ⟨o, rfl, rfl⟩)
   | _ => exact .inl rfl
  ·simp only [if_neg hi]; exact .inl trivial)
 have hid1 : (if is.contains id then (s.hp id).frz else s.hp id) = .live (.box t c) := by rw [hn, hl]; rfl
 obtain ⟨hlen, hrd⟩ := qm8 hd
 generalize hh1 : (fun i => if is.contains i then (s.hp i).frz else s.hp i) = hp1 at hr1
 have e1 : hp1 id = .live (.box t c) := by rw [← hh1]; exact hid1
 have e2 : (fun i => if i = id then HS.live (.box t (xs.map V.d)) else if is.contains i then (s.hp i).frz else s.hp i) = fun i => if i = id then HS.live (.box t (xs.map V.d)) else hp1 i := by rw [← hh1]
 rw [e2]
 have hlive : ∀ i, ((if i = id then HS.live (.box t (xs.map V.d)) else hp1 i) : HS).isLive = (hp1 i).isLive := by
  intro i; by_cases e : i = id
  ·subst e; rw [if_pos rfl, e1]; rfl
  ·rw [if_neg e]
 have hfree : ∀ i, ((if i = id then HS.live (.box t (xs.map V.d)) else hp1 i) : HS).isFree = (hp1 i).isFree := by
  intro i; by_cases e : i = id
  ·subst e; rw [if_pos rfl, e1]; rfl
  ·rw [if_neg e]
 have hsome : ∀ i, ((if i = id then HS.live (.box t (xs.map V.d)) else hp1 i) : HS).obj?.isSome = (hp1 i).obj?.isSome := by
  intro i; by_cases e : i = id
  ·subst e; rw [if_pos rfl, e1]; rfl
  ·rw [if_neg e]
 have hX : Xs E.X0 (fun i => if i = id then HS.live (.box t (xs.map V.d)) else hp1 i) bt = Xs E.X0 hp1 bt := by
  funext b; simp only [Xs, hlive]
 have hN : Nf (fun i => if i = id then HS.live (.box t (xs.map V.d)) else hp1 i) = Nf hp1 := by
  funext i; simp only [Nf, hfree]
 -- what is held is none of the rows
 have hXm : ∀ b, Xs E.X0 hp1 bt b → Xm (Xs E.X0 s.hp bt) bt is b := by
  rintro b hb
  have hsub : Xs E.X0 s.hp bt b := by
   rcases hb with hb | ⟨i, hi, he⟩
   ·exact .inl hb
   ·refine .inr ⟨i, ?_, he⟩
    rw [← hh1] at hi
    by_cases hc : is.contains i = true
    ·simp only [if_pos hc] at hi
     cases hq : s.hp i <;> rw [hq] at hi <;> first | cases hi | rfl
    ·simpa only [if_neg hc] using hi
  refine ⟨hsub, fun k hk hbk => ?_⟩
  have hks : (s.hp k).obj?.isSome = true := (List.all_eq_true.1 ho) k hk
  rcases hb with hb | ⟨i, hi, he⟩
  ·exact hr.nx k b hks hbk hb
  ·rw [← hh1] at hi
   by_cases hc : is.contains i = true
   ·simp only [if_pos hc] at hi
    cases hq : s.hp i <;> rw [hq] at hi <;> cases hi
   ·have hi' : (s.hp i).isLive = true := by simpa only [if_neg hc] using hi
    have := hr.inj i k b hi' hks he hbk
    subst this
    exact hc (by simpa using hk)
 refine ⟨hr1.df, hr1.sz, fun i v hv => by show VR w _ bt _ _ v; rw [hX, hN]; exact hr1.slots i v hv, ?_, ?_, ?_, ?_, hr1.fr, ?_⟩
 ·intro i o hobj
  show OR w _ bt _ i o
  rw [hX, hN]
  by_cases e : i = id
  ·subst e
   simp only [if_pos] at hobj
   simp only [HS.obj?, Option.some.injEq] at hobj
   subst hobj
   obtain ⟨bk, cs, h1, h2, h3, h4⟩ := hr.objs i (.box t c) (by rw [hl]; rfl)
   refine ⟨bk, cs, h1, h2, by rw [List.length_map, hlen]; exact h3, fun j v x hj hx => ?_⟩
   rw [List.getElem?_map] at hx
   cases hxj : xs[j]? with
   | none => rw [hxj] at hx; cases hx
   | some d =>
     rw [hxj] at hx; cases hx
     have hlt : j < c.length := by have := (List.getElem?_eq_some_iff.1 hxj).1; omega
     obtain ⟨d', i', g1, g2, g3⟩ := hrd j c[j] (by simp [hlt])
     rw [hxj] at g2; cases g2
     refine .d v d ((qn6 hr (h4 j v c[j] hj (by simp [hlt])) g1).mono fun b hb => ?_)
     exact qvc g3 (hXm b hb)
  ·simp only [if_neg e] at hobj
   exact hr1.objs i o hobj
 ·intro i j bk hi hj
  exact hr1.inj i j bk ((hlive i) ▸ hi) ((hsome j) ▸ hj)
 ·intro i bk hi
  exact hr1.own i bk ((hlive i) ▸ hi)
 ·intro i bk hi
  exact hr1.nx i bk ((hsome i) ▸ hi)
 ·intro p b hp
  obtain ⟨q1, q2, q3⟩ := hr1.pin p b hp
  exact ⟨q1, q2, by show Nf _ p; rw [hN]; exact q3⟩
theorem AW.frzBox {code : Code} {Q : Exit → St → Prop} {sl : List (Nat × V)} {hp : List (Nat × HS)} {t : TypeId} {c : List V} (id : Nat) (xs : List D) (is : List Nat) (h1 : aget hp id = some (.live (.box t c)))
 (h2 : toDs (toD1 (mkS sl hp)) c = some (xs, is)) (h3 : is.contains id = false) (h4 : is.all (fun i => ((aget hp i).getD .free).obj?.isSome) = true)
 (h : AW C code (mkS sl (frzL id (.box t (xs.map V.d)) is hp)) Q) : AW C code (mkS sl hp) Q := by
 refine AW.sub (s' := mkS sl (frzL id (.box t (xs.map V.d)) is hp)) ?_ h
 have hl : (mkS sl hp).hp id = .live (.box t c) := by show (aget hp id).getD .free = _; rw [h1]; rfl
 have := qbnh (C := C) hl h2 h3 h4
 refine cast ?_ this
 congr 1
 show St.mk _ _ = St.mk _ _
 congr 1
 funext i
 show _ = (aget (frzL id _ is hp) i).getD HS.free
 rw [qza]
 show _ = ((aget hp i).map _).getD HS.free
 by_cases e : i = id
 ·subst e; rw [h1]; simp
 ·simp only [if_neg e]
  show (if is.contains i = true then ((aget hp i).getD HS.free).frz else (aget hp i).getD HS.free) = _
  cases aget hp i with
  | none => simp [HS.frz]
  | some h => simp
end
end Go.Ev
