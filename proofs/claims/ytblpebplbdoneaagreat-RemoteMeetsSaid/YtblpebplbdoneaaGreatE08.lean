/- Tools and contracts under the laws of this seat: DevEvRv. -/
import Derived.Test.YtblpebplbdoneaaGreatE04
set_option linter.unusedVariables false
set_option linter.unusedSimpArgs false
namespace Go.Ev
def SemJ (P : Program) (f : FuncId) (t sz : Nat) (l l' : List D) : Prop :=
 ∀ (w : World) (v : Value) (os : List (Option Nat)), RO w (fun _ => False) v (.own t sz l) os → Calls P f #[v] w fun e w' => e = .returned (.tuple #[]) ∧ RO w' (fun _ => False) v (.own t sz l') os ∧ Fr (Blk os) w w'
theorem qjl {w : World} {X : Nat → Prop} {v : Value} {t sz : Nat} {l : List D} {os : List (Option Nat)} (h : RO w X v (.own t sz l) os) : os = [none] ∧ l = [] ∧ v = .slice none 0 0 ∧ 0 < sz ∨
 ∃ bk cap ad cs, os = [some bk] ∧ v = .slice (some ad) l.length cap ∧ (ad = ⟨bk, 0, none⟩ ∨ cap = 0) ∧ l.length ≤ cap ∧ cap * sz = cs.size ∧ w.heap[bk]? = some (.cells cs t (0, 0)) ∧ 0 < sz ∧ (∀ d ∈ l, d.fits sz) ∧
   ∀ (j : Nat) (v : Value) (x : D), cs[j]? = some v → (flat l)[j]? = some x → RD w X v x := by
 cases h with
 | nil t sz h0 => exact .inl ⟨rfl, rfl, rfl, h0⟩
 | own t sz bk cap ad cs l had hcap hcs hb h0 hs hc => exact .inr ⟨bk, cap, ad, cs, rfl, rfl, had, hcap, hcs, hb, h0, hs, hc⟩
section
variable {C : Cfg}
theorem q8l {f : FuncId} {fn : Func} {c : Code} {t sz : Nat} {l l' : List D} (hf : C.P.funcs[f]? = some fn) (hb : fn.body = some c) (hN : fn.ntmps = C.N) (hn : 1 ≤ fn.ntmps) (hres : fn.results = #[]) (hpins : C.pins = [0])
 (hfl : l.all D.flatA = true) (hfl' : l'.all D.flatA = true) (hlen : l'.length = l.length)
 (h : AW C c (qkr [.own t sz l]) (fun e s' => (e = .normal ∨ e = .ret) ∧ ∃ z, s'.hp 0 = .live (.row t sz z l'))) : SemJ C.P f t sz l l' := by
 intro w v os hro
 have hX : ∀ b, (fun _ : Nat => False) b → b < w.heap.size := fun _ h => h.elim
 have hos1 : ∃ q, os = [q] := by
  rcases qjl hro with ⟨e, _⟩ | ⟨bk, _, _, _, e, _⟩
  ·exact ⟨_, e⟩
  ·exact ⟨_, e⟩
 have hap : qm0 os := by
  obtain ⟨q, rfl⟩ := hos1
  intro i j b hi hj
  have hi' := (List.getElem?_eq_some_iff.1 hi).1
  have hj' := (List.getElem?_eq_some_iff.1 hj).1
  simp at hi' hj'
  omega
 have hro2 : RO w (fun b => False ∨ Blk os b) v (.own t sz l) os := by
  rcases qjl hro with ⟨e1, e2, e3, e4⟩ | ⟨bk, cap, ad, cs, e1, e2, e3, e4, e5, e6, e7, e8, e9⟩
  ·subst e1; subst e2; subst e3; exact .nil t sz e4
  ·subst e1; subst e2
   exact .own t sz bk cap ad cs l e3 e4 e5 e6 e7 e8 fun j v x hj hx => (e9 j v x hj hx).flat (qoh (List.mem_of_getElem? hx) hfl) w _
 have har : AR w (fun b => False ∨ Blk os b) #[v] [.own t sz l] os := ⟨rfl, [os], rfl, by simp, fun j u o q hj ho hq => by
  cases j with
  | zero => simp at hj ho hq; subst hj; subst ho; subst hq; exact hro2
  | succ j => simp at ho⟩
 obtain ⟨pin, bt, hrel, _⟩ := qyl (C := { C with pins := [] }) (args := [.own t sz l]) (X := fun _ => False) hX hap (fun _ _ h => h) har (by
  have h0 : 0 < sz := by rcases qjl hro with ⟨_, _, _, e⟩ | ⟨_, _, _, _, _, _, _, _, _, _, e, _⟩ <;> exact e
  simp [qs9, O.ok, O.ok2, O.ok1, inO, inO2, inO1]) rfl hn hN
 -- the row is held by its name
 have hbt : ∀ bk, os = [some bk] → bt 0 = some bk := by
  intro bk e
  have hv := hrel.slots 0 (.row 0 sz 0 l.length) rfl
  have ho := hrel.objs 0 (.row t sz false l) rfl
  rcases qjl hro with ⟨e1, _⟩ | ⟨bk', cap, ad, cs, e1, e2, e3, e4, e5, e6, e7, e8, e9⟩
  ·rw [e1] at e; cases e
  ·rw [e1] at e; cases e
   have hvv : ((#[v] ++ Array.replicate (fn.ntmps - (#[v] : Array Value).size) undef : Array Value)).getD 0 undef = v := by simp [Array.getD]
   have hlive := hrel.own 0
   -- its block is the one that was handed over
   obtain ⟨h0, hs, hr⟩ := ho
   rcases hr with ⟨h3, _⟩ | ⟨bk2, cs2, h3, h4, _⟩
   ·exfalso
    have hv2 : VR w (Xs (fun _ => False) (qkr [.own t sz l]).hp bt) bt (Nf (qkr [.own t sz l]).hp) v (.row 0 sz 0 l.length) := by rw [← hvv]; exact hv
    subst e2
    cases hv2 with
    | row _ _ _ _ bk3 cap3 ad3 had hf3 hb3 hn3 hk3 => rw [h3] at hb3; cases hb3
   ·have := (hlive bk2 rfl h3).1
    rcases this with h5 | h5
    ·have : bk2 < w.heap.size := (Array.getElem?_eq_some_iff.1 h4).1
     have : w.heap.size ≤ bk2 := h5
     omega
    ·have : some bk2 ∈ os := h5
     rw [e1] at this
     simp at this
     rw [h3, this]
 let pin2 : Nat → Option Nat := fun p => if p = 0 then (os.head?).join else none
 have hrel2 : Rel C ⟨fun _ => False, Blk os, w, hX, pin2⟩ bt (qkr [.own t sz l]) { tmps := #[v] ++ Array.replicate (fn.ntmps - (#[v] : Array Value).size) undef, defers := [] } w :=
  ⟨hrel.df, hrel.sz, hrel.slots, hrel.objs, hrel.inj, hrel.own, hrel.nx, hrel.fr, fun p b hp => by
    have hp : (if p = 0 then (os.head?).join else none) = some b := hp
    split at hp
    ·rename_i e; subst e
     obtain ⟨q, rfl⟩ := hos1
     simp at hp
     subst hp
     exact ⟨by rw [hpins]; simp, hbt b rfl, rfl⟩
    ·cases hp⟩
 refine calls_of_wp hf hb (Go.wp_mono (h _ bt _ w hrel2) fun e a' w' ⟨s', bt', ⟨hq, z, hz⟩, hr⟩ => ?_)
 have fin : a'.defers = [] ∧ ∃ u, (results fn a'.tmps).run C.P w' = .ok u w' ∧ (fun e w' => e = Ending.returned (.tuple #[]) ∧ RO w' (fun _ => False) v (.own t sz l') os ∧ Fr (Blk os) w w') (.returned u) w' := by
  refine ⟨hr.df, .tuple #[], by simp [results, hres], rfl, ?_, hr.fr⟩
  rcases qjl hro with ⟨e1, e2, e3, e4⟩ | ⟨bk, cap, ad, cs, e1, e2, e3, e4, e5, e6, e7, e8, e9⟩
  ·subst e1; subst e2; subst e3
   rw [List.eq_nil_of_length_eq_zero (l := l') (by simpa using hlen)]
   exact .nil t sz e4
  ·subst e1; subst e2
   obtain ⟨h0, hs, hrest⟩ := hr.objs 0 (.row t sz z l') (by rw [hz]; rfl)
   have hb0 : bt' 0 = some bk := (hr.pin 0 bk rfl).2.1
   obtain ⟨cs', k1, k2⟩ := hr.fr.ext.shape bk cs t e6
   rcases hrest with ⟨h3, _⟩ | ⟨bk2, cs2, h3, h4, h5, h6, h7⟩
   ·rw [hb0] at h3; cases h3
   ·rw [hb0] at h3; cases h3
    rw [k1] at h4; cases h4
    rw [← hlen]
    exact .own t sz bk cap ad cs' l' e3 (by omega) (by omega) k1 e7 hs fun j v x hj hx => (h7 j v x hj hx).flat (qoh (List.mem_of_getElem? hx) hfl') w' _
 rcases hq with rfl | rfl
 ·exact fin
 ·exact fin
end
section
variable {C : Cfg} {E : Env} {bt : Nat → Option Nat} {s : St} {a : Act} {w : World}
theorem q4x (h : Rel C E bt s a w) {dst : Option Tmp} {f : FuncId} {sz : Nat} {id n : Nat} {v : Value} {t : TypeId} {z : Bool} {l l' : List D} (hI : SemJ C.P f t sz l l') (hfl : l.all D.flatA = true) (hlen : l'.length = l.length)
 (hfl' : l'.all D.flatA = true) (hv : VR w (Xs E.X0 s.hp bt) bt (Nf s.hp) v (.row id sz 0 n)) (hlive : s.hp id = .live (.row t sz z l)) (hnl : n = l.length) :
 Calls C.P f #[v] w fun e w' => ∃ u, e = .returned u ∧ Rel C E bt (Delta.app C dst ⟨[(id, .live (.row t sz false l'))], none, []⟩ s) (a.put dst u) w' := by
 obtain ⟨h0, hs, hrest⟩ := h.objs id _ (show (s.hp id).obj? = some (.row t sz z l) by rw [hlive]; rfl)
 subst hnl
 have fin : ∀ os, RO w (fun _ => False) v (.own t sz l) os → (Blk os = fun b => bt id = some b) →
  Calls C.P f #[v] w fun e w' => ∃ u, e = .returned u ∧ Rel C E bt (Delta.app C dst ⟨[(id, .live (.row t sz false l'))], none, []⟩ s) (a.put dst u) w' := by
  intro os hro hblk
  refine (hI w v os hro).mono fun e w' ⟨he, hro', hfr⟩ => ⟨_, he, ?_⟩
  rw [hblk] at hfr
  refine Rel.write h hlive _ hfr ?_ dst _ _ _ (fun y hy => by cases hy)
  rcases qjl hro' with ⟨e1, e2, e3, e4⟩ | ⟨bk, cap, ad, cs, e1, e2, e3, e4, e5, e6, e7, e8, e9⟩
  ·have hb : bt id = none := by
    cases hb : bt id with
    | none => rfl
    | some b =>
      have : Blk os b := by rw [hblk]; exact hb
      rw [e1] at this; simp [Blk] at this
   exact ⟨h0, by rw [e2]; simp, .inl ⟨hb, e2⟩⟩
  ·have hb : bt id = some bk := by
    have : Blk os bk := by rw [e1]; simp [Blk]
    rw [hblk] at this; exact this
   refine ⟨h0, e8, .inr ⟨bk, cs, hb, e6, (fun hz => by cases hz), ?_, fun j v x hj hx => (e9 j v x hj hx).flat (qoh (List.mem_of_getElem? hx) hfl') w' _⟩⟩
   rw [qc6 (sz := sz) fun d hd => (e8 d hd).1, ← e5]
   exact Nat.mul_le_mul_right _ e4
 rcases (qhb hv).2 with ⟨bk, cap, ad, hb, rfl, had, hcap, hk⟩ | ⟨hb, _, hn0, rfl⟩
 ·rcases hrest with ⟨h3, h4⟩ | ⟨bk', cs, h3, h4, h5, h6, h7⟩
  ·rw [hb] at h3; cases h3
  ·rw [hb] at h3; cases h3
   obtain ⟨cs2, t2, q1, q2⟩ := hk
   rw [h4] at q1; cases q1
   rw [Nat.zero_add] at q2
   refine fin [some bk] (.own t sz bk cap ad cs l (by simpa using had) hcap q2 h4 h0 hs fun j v x hj hx => (h7 j v x hj hx).flat (qoh (List.mem_of_getElem? hx) hfl) w _) ?_
   funext b
   rw [hb]
   simp only [Blk, List.mem_singleton]
   exact propext ⟨fun e => e.symm, fun e => e.symm⟩
 ·have hl : l = [] := List.eq_nil_of_length_eq_zero hn0
  subst hl
  refine fin [none] (.nil t sz h0) ?_
  funext b
  rw [hb]
  simp [Blk]
end
section
variable {C : Cfg} {Q : Exit → St → Prop} {i : Nat} {o1 o2 : Oper} {m : Operand} {mt dd : Nat} {f : FuncId} {ts : Array TypeId} {sl : List (Nat × V)} {hp : List (Nat × HS)}
theorem AW.turnJ {sz id : Nat} {t : TypeId} {z : Bool} {l l' : List D} (hI : SemJ C.P f t sz l l') (he : qld C.P f) (hfl : l.all D.flatA = true) (hlen : l'.length = l.length) (hfl' : l'.all D.flatA = true)
 (g1 : o1.guard = none) (p1 : o1.op = .move m) (e1 : o1.dst = some mt) (g2 : o2.guard = none) (p2 : o2.op = .call ⟨.value (.func f), #[.tmp mt], ts⟩) (e2 : o2.dst = some dd) (hN : mt < C.N)
 (hm : (mkS sl hp).val m = some (.row id sz 0 l.length)) (hmt : aget sl mt = none) (hdd : aget sl dd = none) (hid : aget hp id = some (.live (.row t sz z l)))
 (hq : Q .normal (mkS sl ((id, .live (.row t sz false l')) :: hp))) : AW C (.region i #[o1, o2] false) (mkS sl hp) Q := by
 intro E bt a w hr
 have hsz := hr.sz
 refine wp_region_list ?_
 show wpList C.P #[o1, o2] _ [o1, o2] a w
 refine qji g1 (v := a.eval m) (w' := w) (by simp [execOp, p1]) ?_
 rw [e1]
 have hlive : (mkS sl hp).hp id = .live (.row t sz z l) := by show (aget hp id).getD HS.free = _; rw [hid]; rfl
 have hv := qb0 hr hm
 have hr1 : Rel C E bt (mkS sl hp) (a.put (some mt) (a.eval m)) w := by
  refine (hr.pure (some mt) (v := a.eval m) (x := none) (rd := []) (fun y hy => by cases hy)).less (fun i v hv => ?_) rfl
  have hv' : aget sl i = some v := hv
  have n1 : i ≠ mt := fun e => by rw [e, hmt] at hv'; cases hv'
  simp only [Delta.app, qg6, if_neg n1]
  exact hv
 have hev : (a.put (some mt) (a.eval m)).eval (.tmp mt) = a.eval m := by
  show (a.put (some mt) _).tmps.getD mt undef = _
  rw [qfs a mt mt _ (by omega), if_pos rfl]
 refine wpList_plain g2 fun K' hK' => ?_
 have hex : (execOp (a.put (some mt) (a.eval m)).eval o2).run C.P w = .ok (.enter f #[a.eval m]) w := by
  have hf : ∀ q, (a.put (some mt) (a.eval m)).eval (.func q) = .func (.func q) #[] #[] := fun q => rfl
  simp only [execOp, p2, resolve, Deferred.ofValue, hf, Sem.run_bind, Sem.run_pure, Result.andThen_ok, invoke, List.map_toArray, List.map_cons, List.map_nil, hev, Array.empty_append, Array.append_empty]
  exact qmd he _
 unfold Oper.wp
 rw [hex]
 refine Calls.mono (q4x hr1 (dst := o2.dst) hI hfl hlen hfl' hv hlive rfl) fun e w' ⟨u, he, hrel⟩ => ?_
 subst he
 refine hK' _ _ (wpList_nil ⟨_, bt, hq, ?_⟩)
 refine hrel.less (fun i v hv => ?_) ?_
 ·have hv' : aget sl i = some v := hv
  rw [e2]
  have n1 : i ≠ dd := fun e => by rw [e, hdd] at hv'; cases hv'
  simp only [Delta.app, qg6, if_neg n1]
  exact hv
 ·funext i
  show (aget ((id, HS.live (.row t sz false l')) :: hp) i).getD HS.free = qbc (mkS sl hp).hp [(id, .live (.row t sz false l'))] i
  rw [qe1]
  simp only [aget]
  by_cases e : i = id
  ·rw [if_pos e, if_pos e]; rfl
  ·rw [if_neg e, if_neg e]; rfl
end
end Go.Ev
