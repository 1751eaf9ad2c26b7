/- Tools and contracts under the laws of this seat: DevEvRg, DevEvRm, DevEvRt, DevEvKs. -/
import Derived.Test.YtlejldoefoppaaaGreatDoorE02
import Derived.Maps.RangeRun
import Derived.Maps.OwnSet
import Derived.Maps.Range
import Derived.Lib.SlKeysI
import Derived.Laws.AppendOwn
set_option linter.unusedVariables false
set_option linter.unusedSimpArgs false
namespace Go.Ev
def IsIter (w : World) (r : Nat) : Prop := ∃ m s seen c, w.heap[r]? = some (.mapIter m s seen c)
theorem IsIter.lt {w : World} {r : Nat} (h : IsIter w r) : r < w.heap.size := by
 obtain ⟨_, _, _, _, h⟩ := h
 exact (Array.getElem?_eq_some_iff.1 h).1
theorem IsIter.notCells {w : World} {r : Nat} (h : IsIter w r) (k : ∃ cs t m, w.heap[r]? = some (.cells cs t m)) : False := by
 obtain ⟨m, s, seen, c, e⟩ := h
 obtain ⟨cs, t, m', e'⟩ := k
 rw [e] at e'; cases e'
theorem IsIter.cell {w : World} {r : Nat} (h : IsIter w r) (a : Addr) (e : a.block = r) : w.cell? a = none := by
 obtain ⟨_, _, _, _, h⟩ := h
 unfold World.cell?
 rw [e, h]
theorem RD.keep {w : World} {X : Nat → Prop} {v : Value} {d : D} {r : Nat} (hi : IsIter w r) (h : RD w X v d) : RD w (fun b => X b ∨ b = r) v d := by
 induction h with
 | b x => exact .b x
 | i k n => exact .i k n
 | s x => exact .s x
 | agg cs l hn _ ih => exact .agg cs l hn ih
 | nil => exact .nil
 | sl0 sz => exact .sl0 sz
 | sl a cap sz l u hc hsz hs ha hw _ ih =>
   refine .sl a cap sz l u hc hsz hs (fun hl => ⟨(ha hl).1, ?_⟩) hw ih
   rintro (hx | e)
   ·exact (ha hl).2 hx
   ·obtain ⟨d, hd⟩ := qxe hsz (fun d hd => (hs d hd).1) hl
    have := hw 0 d hd
    rw [hi.cell ⟨a.block, a.off + 0, none⟩ e] at this; cases this
 | cp a l u ha hw _ ih =>
   refine .cp a l u ⟨ha.1, fun hl => ?_⟩ hw ih
   rintro (hx | e)
   ·exact ha.2 hl hx
   ·cases l with
    | nil => exact hl rfl
    | cons d l =>
      have := hw 0 d rfl
      rw [hi.cell ⟨a.block, a.off + 0, none⟩ e] at this; cases this
 | np => exact .np
 | fn f cs l hn _ ih => exact .fn f cs l hn ih
 | mp bk es clock ks vs hX hb hs hk hv _ _ ih1 ih2 =>
   refine .mp bk es clock ks vs ?_ hb hs hk hv ih1 ih2
   rintro (hx | e)
   ·exact hX hx
   ·obtain ⟨_, _, _, _, hi⟩ := hi
    rw [e, hi] at hb; cases hb
 | mp0 => exact .mp0
theorem VR.keep {w : World} {X : Nat → Prop} {bt : Nat → Option Nat} {nf : Nat → Prop} {v : Value} {x : V} {r : Nat} (hi : IsIter w r) (h : VR w X bt nf v x) : VR w (fun b => X b ∨ b = r) bt nf v x := by
 induction h with
 | d v x h => exact .d v x (h.keep hi)
 | agg cs l hn _ ih => exact .agg cs l hn ih
 | ptr id off bk hf hb => exact .ptr id off bk hf hb
 | row id sz off n bk cap ad had hf hb hn hk => exact .row id sz off n bk cap ad had hf hb hn hk
 | row0 id sz hf hb => exact .row0 id sz hf hb
 | rp id sz j off bk hf hb => exact .rp id sz j off bk hf hb
 | fn f cs l hn _ ih => exact .fn f cs l hn ih
 | tup cs l hn _ ih => exact .tup cs l hn ih
 | opt v g x _ hb ih => exact .opt v g x ih hb
 | ub b x h => exact .ub b x h
 | nb b x h => exact .nb b x h
 | mref id bk hf hb => exact .mref id bk hf hb
theorem OR.keep {w : World} {X : Nat → Prop} {bt : Nat → Option Nat} {nf : Nat → Prop} {id : Nat} {o : Obj'} {r : Nat} (hi : IsIter w r) (h : OR w X bt nf id o) : OR w (fun b => X b ∨ b = r) bt nf id o := by
 cases o with
 | box t c =>
   obtain ⟨bk, cs, h1, h2, h3, h4⟩ := h
   exact ⟨bk, cs, h1, h2, h3, fun j v x hj hx => (h4 j v x hj hx).keep hi⟩
 | row t sz z l =>
   obtain ⟨h0, h1, h2⟩ := h
   refine ⟨h0, h1, ?_⟩
   rcases h2 with h2 | ⟨bk, cs, h3, h4, h5, h6, h7⟩
   ·exact .inl h2
   ·exact .inr ⟨bk, cs, h3, h4, h5, h6, fun j v x hj hx => (h7 j v x hj hx).keep hi⟩
 | mp t ks vs =>
   obtain ⟨bk, es, clock, h1, h2, h0, h3, h4, h5, h6⟩ := h
   exact ⟨bk, es, clock, h1, h2, h0, h3, h4, fun j e d hj hd => (h5 j e d hj hd).keep hi, fun j e x hj hx => (h6 j e x hj hx).keep hi⟩
theorem OR.notIter {w : World} {X : Nat → Prop} {bt : Nat → Option Nat} {nf : Nat → Prop} {id : Nat} {o : Obj'} {r : Nat} (hi : IsIter w r) (h : OR w X bt nf id o) : bt id ≠ some r := by
 intro hb
 obtain ⟨_, _, _, _, hi⟩ := hi
 cases o with
 | box t c =>
   obtain ⟨bk, cs, h1, h2, _⟩ := h
   rw [hb] at h1; cases h1
   rw [hi] at h2; cases h2
 | row t sz z l =>
   obtain ⟨_, _, h2⟩ := h
   rcases h2 with ⟨h2, _⟩ | ⟨bk, cs, h3, h4, _⟩
   ·rw [hb] at h2; cases h2
   ·rw [hb] at h3; cases h3
    rw [hi] at h4; cases h4
 | mp t ks vs =>
   obtain ⟨bk, es, clock, h1, h2, _⟩ := h
   rw [hb] at h1; cases h1
   rw [hi] at h2; cases h2
section
variable {C : Cfg} {E : Env} {bt bt' : Nat → Option Nat} {s s' : St} {a a' : Act} {w w' : World} {r id : Nat}
def Lv (s : St) (bt : Nat → Option Nat) (b : Nat) : Prop := ∃ i, (s.hp i).isLive = true ∧ bt i = some b
def Env.sub (E : Env) (s : St) (bt : Nat → Option Nat) (w : World) (r id : Nat) (h : ∀ b, (E.X0 b ∨ b = r) → b < w.heap.size) (hg : GI w (fun b => (E.X0 b ∨ b = r) ∨ Lv s bt b)) : Env :=
 ⟨fun b => E.X0 b ∨ b = r, Lv s bt, w, h, fun p => if p = id then some r else E.pin p, hg⟩
theorem Rel.subLt (h : Rel C E bt s a w) (hi : IsIter w r) : ∀ b, (E.X0 b ∨ b = r) → b < w.heap.size := by
 rintro b (hx | rfl)
 ·exact Nat.lt_of_lt_of_le (E.hx b hx) h.fr.ext.size
 ·exact hi.lt
theorem Rel.subGi (h : Rel C E bt s a w) (hi : IsIter w r) : GI w (fun b => (E.X0 b ∨ b = r) ∨ Lv s bt b) := by
 refine ⟨h.gi.inv, fun b hb hx => ?_⟩
 rcases hx with (hx | rfl) | hx
 ·exact h.gi.not b hb (.inl hx)
 ·exact hi.notCells (Glob.cells w h.gi.inv _ hb)
 ·exact h.gi.not b hb (.inr hx)
theorem Rel.inn (h : Rel C E bt s a w) (hi : IsIter w r) (hp : id ∈ C.pins) (hb : bt id = some r) (hd : (s.hp id).isFree = false) : Rel C (E.sub s bt w r id (h.subLt hi) (h.subGi hi)) bt s a w := by
 have hX : ∀ b, b < w.heap.size → Xs (E.sub s bt w r id (h.subLt hi) (h.subGi hi)).X0 s.hp bt b → Xs E.X0 s.hp bt b ∨ b = r := by
  rintro b _ ((hx | hx) | hx)
  ·exact .inl (.inl hx)
  ·exact .inr hx
  ·exact .inl (.inr hx)
 refine ⟨h.df, h.sz, fun i v hv => ((h.slots i v hv).keep hi).ext (Ext.refl _ _) hX (fun _ _ => rfl) (fun _ hf => hf), fun i o ho => ((h.objs i o ho).keep hi).ext (Ext.refl _ _) hX (fun _ _ => rfl) (fun _ hf => hf) (qdz ho) (fun _ _ => rfl), h.inj, fun i bk hl hbi => ⟨.inr ⟨i, hl, hbi⟩, ?_⟩, fun i bk hl hbi => ?_, Fr.refl _ _, fun p b hpb => ?_⟩
 ·rintro (hx | rfl)
  ·exact (h.own i bk hl hbi).2 hx
  ·obtain ⟨o, ho⟩ := Option.isSome_iff_exists.1 (qc5 hl)
   exact (h.objs i o ho).notIter hi hbi
 ·rintro (hx | rfl)
  ·exact h.nx i bk hl hbi hx
  ·obtain ⟨o, ho⟩ := Option.isSome_iff_exists.1 hl
   exact (h.objs i o ho).notIter hi hbi
 ·have hpb : (if p = id then some r else E.pin p) = some b := hpb
  split at hpb
  ·cases hpb; subst_vars; exact ⟨hp, hb, hd⟩
  ·exact h.pin p b hpb
theorem Rel.out (h : Rel C E bt s a w) {hx : ∀ b, (E.X0 b ∨ b = r) → b < w.heap.size} {hg : GI w (fun b => (E.X0 b ∨ b = r) ∨ Lv s bt b)} (hb : bt id = some r) (h' : Rel C (E.sub s bt w r id hx hg) bt' s' a' w') :
 Rel C E bt' s' a' w' ∧ bt' id = some r ∧ (∀ b, b < w.heap.size → ¬ Lv s bt b → w'.heap[b]? = w.heap[b]?) ∧ w.heap.size ≤ w'.heap.size ∧ ∀ b, b < w.heap.size → Lv s' bt' b → Lv s bt b := by
 have hX : ∀ b, b < w'.heap.size → Xs E.X0 s'.hp bt' b → Xs (E.sub s bt w r id hx hg).X0 s'.hp bt' b := by
  rintro b _ (hx | hx)
  ·exact .inl (.inl hx)
  ·exact .inr hx
 have hL : ∀ b, Lv s bt b → (E.w0.heap.size ≤ b ∨ E.Mv b) ∧ ¬ E.X0 b := fun b ⟨i, hl, hi⟩ => h.own i b hl hi
 have hsz : w.heap.size ≤ w'.heap.size := h'.fr.ext.size
 have hsame : ∀ b, b < w.heap.size → ¬ Lv s bt b → w'.heap[b]? = w.heap[b]? := h'.fr.ext.same
 have hbid : bt' id = some r := (h'.pin id r (if_pos rfl)).2.1
 refine ⟨⟨h'.df, h'.sz, fun i v hv => (h'.slots i v hv).ext (Ext.refl _ _) hX (fun _ _ => rfl) (fun _ hf => hf), fun i o ho => (h'.objs i o ho).ext (Ext.refl _ _) hX (fun _ _ => rfl) (fun _ hf => hf) (qdz ho) (fun _ _ => rfl), h'.inj, fun i bk hl hbi => ?_, fun i bk hl hbi hx => h'.nx i bk hl hbi (.inl hx), ?_, fun p b hpb => ?_⟩, hbid, hsame, hsz, fun b hlt ⟨i, hl, hbi⟩ => ?_⟩
 ·obtain ⟨h1, h2⟩ := h'.own i bk hl hbi
  refine ⟨?_, fun hx => h2 (.inl hx)⟩
  rcases h1 with h1 | h1
  ·have := h.fr.ext.size
   have h1 : w.heap.size ≤ bk := h1
   exact .inl (by omega)
  ·exact (hL bk h1).1
 ·refine ⟨⟨Nat.le_trans h.fr.ext.size hsz, fun b hlt hm => ?_, (h.fr.ext.mono (X' := fun _ => True) (fun _ _ => trivial)).trans (h'.fr.ext.mono (X' := fun _ => True) (fun _ _ => trivial)) |>.shape⟩, h'.fr.os.trans h.fr.os, h'.fr.tape.trans h.fr.tape, h'.fr.output.trans h.fr.output⟩
  rw [hsame b (Nat.lt_of_lt_of_le hlt h.fr.ext.size) (fun hl => ?_)]
  ·exact h.fr.ext.same b hlt hm
  ·rcases (hL b hl).1 with h1 | h1
   ·omega
   ·exact hm h1
 ·by_cases e : p = id
  ·subst e
   have h1 := h.pin p b hpb
   rw [hb] at h1
   have := h'.pin p r (if_pos rfl)
   exact ⟨this.1, by rw [this.2.1]; exact h1.2.1, this.2.2⟩
  ·exact h'.pin p b (by show (if p = id then some r else E.pin p) = some b; rw [if_neg e]; exact hpb)
 ·rcases (h'.own i b hl hbi).1 with h1 | h1
  ·have h1 : w.heap.size ≤ b := h1
   omega
  ·exact h1
end
end Go.Ev
namespace Go.Ev
open Go.ChangeMaps (setBlock)
theorem qir {P : Program} {ops : Array Oper} {rest : List Oper} {o : Oper} {a : Act} {w w' : World} {v : Value} {Q : Exit → Act → World → Prop} (hg : o.guard = none)
 (h : (execOp a.eval o).run P w = .ok (.value v) w') (hK : wpList P ops Q rest (a.put o.dst v) w') : wpList P ops Q (o :: rest) a w := by
 refine wpList_plain hg fun K' hK' => ?_
 unfold Oper.wp
 simp only [h]
 exact hK' _ _ hK
section
variable {C : Cfg} {E : Env} {bt : Nat → Option Nat} {s s' : St} {a : Act} {w w' : World} {r id : Nat}
theorem Rel.less (h : Rel C E bt s a w) (hs : ∀ i v, s'.sl i = some v → s.sl i = some v) (hh : s'.hp = s.hp) : Rel C E bt s' a w := by
 obtain ⟨h1, h2, h3, h4, h5, h6, h7, h8, h9⟩ := h
 refine ⟨h1, h2, fun i v hv => ?_, ?_, ?_, ?_, ?_, h8, ?_⟩ <;> rw [hh]
 ·exact h3 i v (hs i v hv)
 ·exact h4
 ·exact h5
 ·exact h6
 ·exact h7
 ·exact h9
theorem Rel.dead (h : Rel C E bt s a w) (hfree : (s.hp id).isFree = true) (hfr : ∀ M, Fr M w w') (dst : Option Tmp) :
 Rel C E (fun i => if i = id then some r else bt i) (Delta.app C dst ⟨[(id, .dead)], some (.ptr id 0), []⟩ s) (a.put dst (.pointer (some ⟨r, 0, none⟩))) w' := by
 have hlive : ∀ i, (q0e s.hp [(id, .dead)] i).isLive = true → i ≠ id ∧ (s.hp i).isLive = true := by
  intro i hi
  rw [qbo] at hi
  by_cases e : i = id
  ·rw [if_pos e] at hi; cases hi
  ·rw [if_neg e] at hi; exact ⟨e, hi⟩
 have hobj : ∀ i o, (q0e s.hp [(id, .dead)] i).obj? = some o → i ≠ id ∧ (s.hp i).obj? = some o := by
  intro i o hi
  rw [qbo] at hi
  by_cases e : i = id
  ·rw [if_pos e] at hi; cases hi
  ·rw [if_neg e] at hi; exact ⟨e, hi⟩
 have hX : ∀ b, b < w.heap.size → Xs E.X0 (q0e s.hp [(id, .dead)]) (fun i => if i = id then some r else bt i) b → Xs E.X0 s.hp bt b := by
  rintro b _ (hx | ⟨i, hi, he⟩)
  ·exact .inl hx
  ·obtain ⟨h1, h2⟩ := hlive i hi
   simp only [if_neg h1] at he
   exact .inr ⟨i, h2, he⟩
 have hbt : ∀ i, Nf s.hp i → (fun i => if i = id then some r else bt i) i = bt i := by
  intro i hi
  have : i ≠ id := fun e => by subst e; simp [Nf, hfree] at hi
  simp [this]
 have hnf : ∀ i, Nf s.hp i → Nf (q0e s.hp [(id, .dead)]) i := by
  intro i hi
  have : i ≠ id := fun e => by subst e; simp [Nf, hfree] at hi
  simpa [Nf, qbo, this] using hi
 refine ⟨(qfv _ _ _).trans h.df, (qdi _ _ _).trans h.sz, qgd h.sz (fun i y hy => (h.slots i y hy).ext (hfr _).ext hX hbt hnf) (fun y hy => ?_), fun i o ho => ?_, fun i j bk hi hj hbi hbj => ?_, fun i bk hi hbi => ?_, fun i bk hi hbi => ?_, h.fr.trans (hfr _), fun p b hp => let ⟨h1, h2, h3⟩ := h.pin p b hp; ⟨h1, (hbt p h3).trans h2, hnf p h3⟩⟩
 ·cases hy
  exact .ptr id 0 r (by show Nf (q0e s.hp [(id, .dead)]) id; simp [Nf, qbo, HS.isFree]) (if_pos rfl)
 ·obtain ⟨h1, h2⟩ := hobj i o ho
  exact (h.objs i o h2).ext (hfr _).ext hX hbt hnf (qdz h2) (fun bk hbk => (hfr (fun _ => False)).ext.same bk ((h.objs i o h2).lt hbk) (fun hh => hh))
 ·obtain ⟨h1, h2⟩ := hlive i hi
  obtain ⟨o, ho⟩ := Option.isSome_iff_exists.1 hj
  obtain ⟨h3, h4⟩ := hobj j o ho
  simp only [if_neg h1] at hbi
  simp only [if_neg h3] at hbj
  exact h.inj i j bk h2 (by rw [h4]; rfl) hbi hbj
 ·obtain ⟨h1, h2⟩ := hlive i hi
  simp only [if_neg h1] at hbi
  exact h.own i bk h2 hbi
 ·obtain ⟨o, ho⟩ := Option.isSome_iff_exists.1 hi
  obtain ⟨h3, h4⟩ := hobj i o ho
  simp only [if_neg h3] at hbi
  exact h.nx i bk (by rw [h4]; rfl) hbi
theorem Rel.iter (h : Rel C E bt s a w) (hi : IsIter w r) (hr : E.w0.heap.size ≤ r) {o : Obj} (hh : w'.heap = w.heap.setIfInBounds r o) (h1 : w'.os = w.os) (h2 : w'.tape = w.tape) (h3 : w'.output = w.output) : Rel C E bt s a w' := by
 have he : Ext (fun b => Xs E.X0 s.hp bt b ∨ b = r) w w' := by
  refine ⟨by rw [hh]; simp, fun b _ hn => ?_, fun b cs t hb => ⟨cs, ?_, rfl⟩⟩
  ·rw [hh, Array.getElem?_setIfInBounds, if_neg (fun e => hn (.inr e.symm))]
  ·rw [hh, Array.getElem?_setIfInBounds, if_neg (fun e => ?_)]
   ·exact hb
   ·obtain ⟨_, _, _, _, hi⟩ := hi
    rw [e, hb] at hi; cases hi
 refine ⟨h.df, h.sz, fun i v hv => ((h.slots i v hv).keep hi).ext he (fun b _ hx => .inl hx) (fun _ _ => rfl) (fun _ hf => hf), fun i o ho => ((h.objs i o ho).keep hi).ext he (fun b _ hx => .inl hx) (fun _ _ => rfl) (fun _ hf => hf) (qdz ho) (fun bk hbk => ?_), h.inj, h.own, h.nx, ?_, h.pin⟩
 ·rw [hh, Array.getElem?_setIfInBounds, if_neg (fun e => (h.objs i o ho).notIter hi (by subst e; exact hbk))]
 ·refine ⟨⟨Nat.le_trans h.fr.ext.size he.size, fun b hb hm => ?_, (h.fr.ext.mono (X' := fun _ => True) (fun _ _ => trivial)).trans (he.mono (X' := fun _ => True) (fun _ _ => trivial)) |>.shape⟩, h1.trans h.fr.os, h2.trans h.fr.tape, h3.trans h.fr.output⟩
  rw [hh, Array.getElem?_setIfInBounds, if_neg (by omega)]
  exact h.fr.ext.same b hb hm
theorem qvt {v : Value} {X : Nat → Prop} {nf : Nat → Prop} (h : VR w X bt nf v (.ptr id 0)) : ∃ bk, v = .pointer (some ⟨bk, 0, none⟩) ∧ bt id = some bk := by
 cases h with
 | ptr _ _ bk hf hb => exact ⟨bk, rfl, hb⟩
end
def qe8 (es : Array MapEntry) (k : Nat) : Nat := ((es[k]?).map (·.born)).getD 0
theorem qzb {es : Array MapEntry} {clock : Nat} (h : MapKept.Stamped es clock) {i j : Nat} (hi : i < es.size) (hj : j < es.size) (e : qe8 es i = qe8 es j) : i = j := by
 have hn := ((MapKept.stamped_iff es clock).1 h).2.1
 unfold qe8 at e
 rw [Array.getElem?_eq_getElem hi, Array.getElem?_eq_getElem hj] at e
 simp only [Option.map_some, Option.getD_some] at e
 have key : ∀ (i j : Nat) (hi : i < es.size) (hj : j < es.size), i < j → es[i].born ≠ es[j].born := fun i j hi hj hl => by
  have := List.pairwise_iff_getElem.1 hn i j (by simpa using hi) (by simpa using hj) hl
  simpa using this
 rcases Nat.lt_trichotomy i j with h1 | h1 | h1
 ·exact absurd e (key i j hi hj h1)
 ·exact h1
 ·exact absurd e.symm (key j i hj hi h1)
structure AtHead (C : Cfg) (E : Env) (n : Nat) (ks vs : List D) (slI : List Nat → List (Nat × V)) (hpI : List Nat → List (Nat × HS)) (it r : Nat) (es : Array MapEntry) (bm clock : Nat) (done : List Nat) (bt : Nat → Option Nat) (a : Act) (w : World) : Prop where
 rel : Rel C E bt (mkS (slI done) (hpI done)) a w
 itv : a.tmps.getD it undef = .pointer (some ⟨r, 0, none⟩)
 nd : done.Nodup
 lt : ∀ k ∈ done, k < n
 sc : ∃ c0, clock ≤ c0 ∧ w.heap[r]? = some (.mapIter (some bm) clock (done.map (qe8 es)).toArray c0)
 hb : w.heap[bm]? = some (.map es clock)
 hX : ¬ Xs E.X0 (mkS (slI done) (hpI done)).hp bt bm
 kv : ∀ (j : Nat) (e : MapEntry), es[j]? = some e → (∀ d, vs[j]? = some d → RD w (Xs E.X0 (mkS (slI done) (hpI done)).hp bt) e.val d)
section
variable {C : Cfg} {Q : Exit → St → Prop} {i5 b0 i6 b1 i7 mt it nx ok en ex u : Nat} {T kt et : TypeId} {o1 o2 o3 o4 o5 o6 o7 : Oper} {m : Operand} {bodyC : Code} {sl : List (Nat × V)} {hp : List (Nat × HS)} {ks vs : List D}
 {slI : List Nat → List (Nat × V)} {hpI : List Nat → List (Nat × HS)}
theorem Rel.pinUp {E : Env} {bt : Nat → Option Nat} {s : St} {a : Act} {w : World} {ps : List Nat} (h : Rel C E bt s a w) (hps : ∀ p ∈ C.pins, p ∈ ps) : Rel { C with pins := ps } E bt s a w :=
 ⟨h.df, h.sz, h.slots, h.objs, h.inj, h.own, h.nx, h.fr, fun p b hp => let ⟨h1, h2, h3⟩ := h.pin p b hp; ⟨hps p h1, h2, h3⟩⟩
theorem Rel.pinDown {E : Env} {bt bt' : Nat → Option Nat} {s s' : St} {a a' : Act} {w w' : World} {ps : List Nat} (h0 : Rel C E bt' s' a' w') (h : Rel { C with pins := ps } E bt s a w) : Rel C E bt s a w :=
 ⟨h.df, h.sz, h.slots, h.objs, h.inj, h.own, h.nx, h.fr, fun p b hp => let ⟨_, h2, h3⟩ := h.pin p b hp; ⟨(h0.pin p b hp).1, h2, h3⟩⟩
theorem AtHead.round {E : Env} {r : Nat} {es : Array MapEntry} {bm clock : Nat} {done : List Nat} {bt : Nat → Option Nat} {a : Act} {w : World} (h : AtHead C E es.size ks vs slI hpI it r es bm clock done bt a w)
 (hst : MapKept.Stamped es clock) (hv : es.size = vs.length) (hr0 : E.w0.heap.size ≤ r)
 (g3 : o3.guard = none) (p3 : o3.op = .next (.tmp it) false) (e3 : o3.dst = some nx) (g4 : o4.guard = none) (p4 : o4.op = .extract (.tmp nx) 0) (e4 : o4.dst = some ok)
 (g5 : o5.guard = none) (p5 : o5.op = .entry (.tmp it)) (e5 : o5.dst = some en) (g6 : o6.guard = none) (p6 : o6.op = .extract (.tmp en) 1) (e6 : o6.dst = some ex) (g7 : o7.guard = none) (p7 : o7.op = .assign (.tmp ex)) (e7 : o7.dst = some u)
 (hN : nx < C.N ∧ ok < C.N ∧ en < C.N ∧ ex < C.N ∧ u < C.N) (hne : it ≠ nx ∧ it ≠ ok ∧ it ≠ en ∧ it ≠ ex ∧ it ≠ u ∧ nx ≠ ok)
 (hsl : ∀ d, aget (slI d) nx = none ∧ aget (slI d) ok = none ∧ aget (slI d) en = none ∧ aget (slI d) ex = none ∧ aget (slI d) it = some (.ptr (16 * it) 0))
 (hhp : ∀ d, aget (hpI d) (16 * it) = some .dead)
 (body : ∀ d j, d.Nodup → (∀ k ∈ d, k < vs.length) → j < vs.length → j ∉ d → AW { C with pins := 16 * it :: C.pins } bodyC (mkS ((u, .d (vs.getD j .np)) :: slI d) (hpI d)) (fun e s' => e = .normal ∧ Sub { C with pins := 16 * it :: C.pins } s' (mkS (slI (d ++ [j])) (hpI (d ++ [j])))))
 (K : Exit → Act → World → Prop)
 (hend : ∀ a', done.Perm (List.range vs.length) → Rel C E bt (mkS (slI done) (hpI done)) a' w → K (.exit b0) a' w)
 (hnext : ∀ j bt' a' w', j < vs.length → AtHead C E es.size ks vs slI hpI it r es bm clock (done ++ [j]) bt' a' w' → K .normal a' w') :
 (Code.seq (.region i6 #[o3, o4] false) (.seq (.cond (.tmp ok) .skip (.exit b0)) (.block b1 (.seq (.region i7 #[o5, o6, o7] false) bodyC)))).wp C.P K a w := by
 obtain ⟨hrel, hit, hnd, hlt, ⟨c0, hc0, hiter⟩, hb, hX, hkv⟩ := h
 have hsz := hrel.sz
 have hIt : IsIter w r := ⟨_, _, _, _, hiter⟩
 have hold : ∀ x ∈ es.toList, x.born < clock := ((MapKept.stamped_iff es clock).1 hst).1
 refine wp_seq (wp_region_list ?_)
 show wpList C.P #[o3, o4] _ [o3, o4] a w
 have ev3 : a.eval (.tmp it) = .pointer (some ⟨r, 0, none⟩) := hit
 have two : ∀ (x : Value) (cs : Array Value) (w' : World), cs[0]? = some x → ∀ Q', Q' .normal ((a.put (some nx) (.tuple cs)).put (some ok) x) w' → wpList C.P #[o3, o4] Q' [o4] (a.put (some nx) (.tuple cs)) w' := by
  intro x cs w' hx Q' hQ
  refine qir g4 (v := x) (w' := w') ?_ (by rw [e4]; exact wpList_nil hQ)
  have : (a.put (some nx) (.tuple cs)).eval (.tmp nx) = .tuple cs := by
   show (a.put (some nx) (.tuple cs)).tmps.getD nx undef = _
   rw [qd0 a nx nx _ (by omega), if_pos rfl]
  simp [execOp, p4, this, Instr.extract, hx]
 have okv : ∀ (x : Value) (cs : Array Value), ((a.put (some nx) (.tuple cs)).put (some ok) x).eval (.tmp ok) = x := by
  intro x cs
  show ((a.put (some nx) (.tuple cs)).put (some ok) x).tmps.getD ok undef = _
  rw [qd0 _ ok ok _ (by rw [qdi]; omega), if_pos rfl]
 have itv : ∀ (x y : Value), ((a.put (some nx) x).put (some ok) y).tmps.getD it undef = .pointer (some ⟨r, 0, none⟩) := by
  intro x y
  rw [qd0 _ ok it _ (by rw [qdi]; omega), if_neg hne.2.1, qd0 _ nx it _ (by omega), if_neg hne.1]
  exact hit
 have put2 : ∀ (w' : World) (x y : Value), Rel C E bt (mkS (slI done) (hpI done)) a w' → Rel C E bt (mkS (slI done) (hpI done)) ((a.put (some nx) x).put (some ok) y) w' := by
  intro w' x y hr
  refine ((hr.pure (some nx) (v := x) (x := none) (rd := []) (fun y hy => by cases hy)).pure (some ok) (v := y) (x := none) (rd := []) (fun y hy => by cases hy)).less (fun i v hv => ?_) rfl
  have hv' : aget (slI done) i = some v := hv
  have n1 : i ≠ nx := fun e => by rw [e, (hsl done).1] at hv'; cases hv'
  have n2 : i ≠ ok := fun e => by rw [e, (hsl done).2.1] at hv'; cases hv'
  simp only [Delta.app, qfi, if_neg n1, if_neg n2]
  exact hv
 rcases run_next_at (P := C.P) w o3.type r bm clock c0 _ es clock hiter hb hold hc0 with ⟨h0, hrun⟩ | ⟨e, he, w1, hal, hrun⟩
 ·refine qir g3 (v := .tuple #[.bool false]) (w' := w) (by simp [execOp, p3, ev3, hrun]) ?_
  rw [e3]
  refine two (.bool false) _ w rfl _ ?_
  refine wp_seq (wp_cond_split (t := false) (okv _ _) (fun e => by cases e) fun _ => wp_exit ?_)
  refine hend _ ?_ (put2 _ _ _ hrel)
  have hall := all_seen es _ h0
  refine (List.perm_ext_iff_of_nodup hnd List.nodup_range).2 fun k => ?_
  rw [List.mem_range]
  refine ⟨fun hk => by have := hlt k hk; omega, fun hk => ?_⟩
  have hk' : k < es.size := by omega
  have := hall es[k] (by simp)
  simp only [Array.contains_iff_mem, List.mem_toArray, List.mem_map] at this
  obtain ⟨j, hj, e⟩ := this
  have ek : es[k].born = qe8 es k := by simp [qe8, hk']
  rw [ek] at e
  rwa [qzb hst (hlt j hj) hk' e] at hj
 ·obtain ⟨j, hj, rfl⟩ : ∃ j, ∃ hj : j < es.size, es[j] = e := by
   have := mem_left he
   obtain ⟨j, hj, e'⟩ := List.getElem_of_mem this.1
   exact ⟨j, by simpa using hj, by simpa using e'⟩
  have hjd : j ∉ done := fun hm => by
   have := (mem_left he).2
   rw [← Bool.not_eq_true, Array.contains_iff_mem, List.mem_toArray, List.mem_map] at this
   exact this ⟨j, hm, by simp [qe8, hj]⟩
  generalize hw2 : setBlock w1 r (Obj.mapIter (some bm) clock ((done.map (qe8 es)).toArray.push es[j].born) clock) = w2 at hrun
  have hheap1 : w1.heap = w.heap := by rcases hal with rfl | rfl <;> rfl
  have hheap : w2.heap = w.heap.setIfInBounds r (Obj.mapIter (some bm) clock ((done.map (qe8 es)).toArray.push es[j].born) clock) := by rw [← hw2, ← hheap1]; rfl
  have hos : w2.os = w.os ∧ w2.tape = w.tape ∧ w2.output = w.output := by rw [← hw2]; rcases hal with rfl | rfl <;> exact ⟨rfl, rfl, rfl⟩
  have hiter2 : w2.heap[r]? = some (.mapIter (some bm) clock ((done.map (qe8 es)).toArray.push es[j].born) clock) := by
   rw [hheap, Array.getElem?_setIfInBounds, if_pos rfl, if_pos hIt.lt]
  have hIt2 : IsIter w2 r := ⟨_, _, _, _, hiter2⟩
  have hrb : r ≠ bm := fun e => by rw [e, hb] at hiter; cases hiter
  have hb2 : w2.heap[bm]? = some (.map es clock) := by rw [hheap, Array.getElem?_setIfInBounds, if_neg hrb]; exact hb
  have hrel2 := (put2 w2 (.tuple #[.bool true, es[j].key, es[j].val]) (.bool true) (hrel.iter hIt hr0 hheap hos.1 hos.2.1 hos.2.2))
  have hex2 : Ext (fun b => Xs E.X0 (mkS (slI done) (hpI done)).hp bt b ∨ b = r) w w2 := by
   refine ⟨by rw [hheap]; simp, fun b _ hn => ?_, fun b cs t hbb => ⟨cs, ?_, rfl⟩⟩
   ·rw [hheap, Array.getElem?_setIfInBounds, if_neg (fun e => hn (.inr e.symm))]
   ·rw [hheap, Array.getElem?_setIfInBounds, if_neg (fun e => ?_)]
    ·exact hbb
    ·rw [← e, hiter] at hbb; cases hbb
  have hkv2 : ∀ (j : Nat) (e : MapEntry), es[j]? = some e → ∀ d, vs[j]? = some d → RD w2 (Xs E.X0 (mkS (slI done) (hpI done)).hp bt) e.val d := fun j e hj d hd =>
   ((hkv j e hj d hd).keep hIt).ext hex2.same (fun b _ hx => .inl hx)
  refine qir g3 (v := .tuple #[.bool true, es[j].key, es[j].val]) (w' := w2) (by simp [execOp, p3, ev3, hrun]) ?_
  rw [e3]
  refine two (.bool true) _ w2 rfl _ ?_
  refine wp_seq (wp_cond_split (t := true) (okv _ _) (fun _ => wp_skip ?_) (fun e => by cases e))
  refine wp_block (wp_seq (wp_region_list ?_))
  have hit2 := itv (.tuple #[.bool true, es[j].key, es[j].val]) (.bool true)
  generalize (a.put (some nx) (.tuple #[.bool true, es[j].key, es[j].val])).put (some ok) (.bool true) = a2 at hrel2 hit2 ⊢
  have hsz2 := hrel2.sz
  show wpList C.P #[o5, o6, o7] _ [o5, o6, o7] a2 w2
  have hentry := run_entry_at (P := C.P) w2 r bm clock (done.map (qe8 es)).toArray es clock es[j] hiter2 hb2 (by simp) ((MapKept.stamped_iff es clock).1 hst).2.1
  refine qir g5 (v := .tuple #[es[j].key, es[j].val]) (w' := w2) (by
   have : a2.eval (.tmp it) = .pointer (some ⟨r, 0, none⟩) := hit2
   simp [execOp, p5, this, hentry]) ?_
  rw [e5]
  refine qir g6 (v := es[j].val) (w' := w2) (by
   have : (a2.put (some en) (.tuple #[es[j].key, es[j].val])).eval (.tmp en) = .tuple #[es[j].key, es[j].val] := by
    show (a2.put (some en) _).tmps.getD en undef = _
    rw [qd0 a2 en en _ (by omega), if_pos rfl]
   simp [execOp, p6, this, Instr.extract]) ?_
  rw [e6]
  refine qir g7 (v := es[j].val) (w' := w2) (by
   have : ((a2.put (some en) (.tuple #[es[j].key, es[j].val])).put (some ex) es[j].val).eval (.tmp ex) = es[j].val := by
    show ((a2.put (some en) _).put (some ex) _).tmps.getD ex undef = _
    rw [qd0 _ ex ex _ (by rw [qdi]; omega), if_pos rfl]
   simp [execOp, p7, this]) (wpList_nil ?_)
  rw [e7]
  have hit3 : (((a2.put (some en) (.tuple #[es[j].key, es[j].val])).put (some ex) es[j].val).put (some u) es[j].val).tmps.getD it undef = .pointer (some ⟨r, 0, none⟩) := by
   rw [qd0 _ u it _ (by rw [qdi, qdi]; omega), if_neg hne.2.2.2.2.1, qd0 _ ex it _ (by rw [qdi]; omega), if_neg hne.2.2.2.1, qd0 _ en it _ (by omega), if_neg hne.2.2.1]
   exact hit2
  have hvj : vs[j]? = some (vs.getD j .np) := by
   rw [List.getD_eq_getElem?_getD, List.getElem?_eq_getElem (by omega), Option.getD_some]
  have hrel3 : Rel C E bt (mkS ((u, .d (vs.getD j .np)) :: slI done) (hpI done)) (((a2.put (some en) (.tuple #[es[j].key, es[j].val])).put (some ex) es[j].val).put (some u) es[j].val) w2 := by
   refine (((hrel2.pure (some en) (v := .tuple #[es[j].key, es[j].val]) (x := none) (rd := []) (fun y hy => by cases hy)).pure (some ex) (v := es[j].val) (x := none) (rd := []) (fun y hy => by cases hy)).pure (some u) (v := es[j].val) (x := some (.d (vs.getD j .np))) (rd := []) (fun y hy => ?_)).less (fun i v hv => ?_) rfl
   ·cases hy
    exact .d _ _ (hkv2 j es[j] (by simp [hj]) _ hvj)
   ·have hv' : aget ((u, V.d (vs.getD j .np)) :: slI done) i = some v := hv
    simp only [aget] at hv'
    simp only [Delta.app, qfi]
    by_cases eu : i = u
    ·rw [if_pos eu] at hv' ⊢
     rw [if_pos hN.2.2.2.2]
     exact hv'
    ·rw [if_neg eu] at hv' ⊢
     have n1 : i ≠ en := fun e => by rw [e, (hsl done).2.2.1] at hv'; cases hv'
     have n2 : i ≠ ex := fun e => by rw [e, (hsl done).2.2.2.1] at hv'; cases hv'
     rw [if_neg n2, if_neg n1]
     exact hv'
  generalize ((a2.put (some en) (.tuple #[es[j].key, es[j].val])).put (some ex) es[j].val).put (some u) es[j].val = a3 at hrel3 hit3 ⊢
  have hbtid : bt (16 * it) = some r := by
   have := hrel3.slots it (.ptr (16 * it) 0) (by
    show aget ((u, V.d (vs.getD j .np)) :: slI done) it = _
    simp only [aget]
    rw [if_neg hne.2.2.2.2.1]
    exact (hsl done).2.2.2.2)
   rw [hit3] at this
   obtain ⟨bk, e1, e2⟩ := qvt this
   cases e1; exact e2
  have hrel4 := hrel3.pinUp (ps := 16 * it :: C.pins) (fun p hp => List.mem_cons_of_mem _ hp)
  have hin := hrel4.inn hIt2 (List.mem_cons_self) hbtid (by show ((aget (hpI done) (16 * it)).getD HS.free).isFree = false; rw [hhp done]; rfl)
  refine Go.wp_mono (body done j hnd (fun k hk => by have := hlt k hk; omega) (by omega) hjd _ _ _ _ hin) ?_
  rintro e' a' w' ⟨s', bt', ⟨rfl, hsub⟩, hr'⟩
  obtain ⟨bt'', hr''⟩ := hsub _ _ _ _ hr'
  obtain ⟨q1, q2, q3, q4, q5⟩ := hrel4.out hbtid hr''
  have q1 := Rel.pinDown hrel q1
  have hXs : ∀ b, b < w2.heap.size → Xs E.X0 (mkS (slI (done ++ [j])) (hpI (done ++ [j]))).hp bt'' b → Xs E.X0 (mkS (slI done) (hpI done)).hp bt b := by
   rintro b hlt (hx | hx)
   ·exact .inl hx
   ·exact .inr (q5 b hlt hx)
  have hbm2 : bm < w2.heap.size := (Array.getElem?_eq_some_iff.1 hb2).1
  have hnl : ∀ b, ¬ Xs E.X0 (mkS (slI done) (hpI done)).hp bt b → ¬ Lv (mkS ((u, .d (vs.getD j .np)) :: slI done) (hpI done)) bt b := fun b hn hl => hn (.inr hl)
  refine hnext j bt'' a' w' (by omega) ⟨q1, ?_, ?_, ?_, ⟨clock, Nat.le_refl _, ?_⟩, ?_, fun hx => hX (hXs bm hbm2 hx), fun k e hk d hd => (hkv2 k e hk d hd).ext (fun b hb hn => q3 b hb (hnl b hn)) hXs⟩
  ·have := q1.slots it (.ptr (16 * it) 0) ((hsl (done ++ [j])).2.2.2.2)
   obtain ⟨bk, e1, e2⟩ := qvt this
   rw [q2] at e2; cases e2; exact e1
  ·rw [List.nodup_append]
   exact ⟨hnd, by simp, fun x hx y hy e => by rw [List.mem_singleton] at hy; subst hy; subst e; exact hjd hx⟩
  ·intro k hk
   rw [List.mem_append, List.mem_singleton] at hk
   rcases hk with hk | rfl
   ·exact hlt k hk
   ·exact hj
  ·rw [q3 r hIt2.lt (fun hl => ?_), hiter2]
   ·simp [qe8, hj]
   ·obtain ⟨i, hl, hi⟩ := hl
    obtain ⟨o, ho⟩ := Option.isSome_iff_exists.1 (qc5 hl)
    exact (hrel3.objs i o ho).notIter hIt2 hi
  ·rw [q3 bm hbm2 (hnl bm hX)]; exact hb2
end
end Go.Ev
namespace Go.Ev
section
variable {C : Cfg} {E : Env} {bt : Nat → Option Nat} {s : St} {a : Act} {w : World}
variable {Q : Exit → St → Prop} {i : Nat} {o1 o2 : Oper} {m : Operand} {mt dd : Nat} {f : FuncId} {k : FuncId} {ts : Array TypeId} {sl : List (Nat × V)} {hp : List (Nat × HS)}
end
end Go.Ev
namespace Go.Ev
theorem COk.pins {C : Cfg} {ps : List Nat} (h : COk C) : COk { C with pins := ps } := ⟨⟨h.t.t, h.t.i⟩, ⟨h.e.t, h.e.i⟩, h.m⟩
end Go.Ev
namespace Go.Ev
open Go.Maps Go.RowKit Go.Proofs Go.MapKept
open Go.WideElems (Fit rd rg)
theorem qom {M : Nat → Prop} {w w' : World} (h : Below w.heap.size w w') : Fr M w w' :=
 ⟨⟨h.size, fun b hb _ => h.block b hb, fun b cs t hc => ⟨cs, (h.block b (Array.getElem?_eq_some_iff.1 hc).1).trans hc, rfl⟩⟩, h.os, h.tape, h.output⟩
section
variable {C : Cfg} {E : Env} {bt : Nat → Option Nat} {s : St} {a : Act} {w w' : World}
end
section
variable {C : Cfg} {Q : Exit → St → Prop} {i : Nat} {o1 o2 o3 : Oper} {m : Operand} {d1 d2 d3 : Nat} {fK fS fI : FuncId} {ts2 ts3 : Array TypeId} {sl : List (Nat × V)} {hp : List (Nat × HS)} {rest : List Oper} {ks : List Int} {xs : List D} {t tR : TypeId}
variable {n : Operand} {kt et : TypeId} {kk : List D} {k x : D} {j : Nat} {z0 : List D}
end
end Go.Ev
