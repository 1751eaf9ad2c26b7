/- Tools and contracts under the laws of this seat: DevEvL to DevEvT. -/
import Derived.Test.YtblpebplbdoneaaGreatE00
import Derived.Laws.IdiomStrings
import Derived.Laws.MakeOwn
set_option linter.unusedVariables false
set_option linter.unusedSimpArgs false
namespace Go.Ev
section
variable {C : Cfg} {E : Env} {bt : Nat → Option Nat} {s : St} {a : Act} {w : World} {X : Nat → Prop} {nf : Nat → Prop} {P : Program}
theorem qfz {v : Value} {k : IntKind} {i : Int} {y : Nat} {c : BoundsCode} (hv : v = .int k i) (h0 : 0 ≤ i) (h1 : i ≤ (y : Int)) : (Instr.sliceBound v y c).run P w = .ok i.toNat w := by
 subst hv
 simp [Instr.sliceBound, asIntOf, h0, h1]
theorem qmm (h : Rel C E bt s a w) {x : Option Operand} {z l : Int} (hb : qhq s x z = some l) : (x = none ∧ l = z) ∨ ∃ y k, x = some y ∧ a.eval y = .int k l := by
 cases x with
 | none => simp only [qhq, Option.some.injEq] at hb; exact .inl ⟨rfl, hb.symm⟩
 | some y =>
   simp only [qhq] at hb
   unfold qs1 at hb
   split at hb
   ·rename_i k n hv
    cases hb
    have := qcp (qb0 h hv)
    generalize hu : a.eval y = u at this
    cases this
    exact .inr ⟨y, k, rfl, hu⟩
   ·cases hb
theorem qke (h : Rel C E bt s a w) {sl : Bool} {len cap : Nat} {lo hi : Option Operand} {l hh : Int} (hl : qhq s lo 0 = some l) (hhb : qhq s hi len = some hh) (h0 : 0 ≤ l) (h1 : l ≤ hh) (h2 : hh ≤ (cap : Int)) :
 (Instr.sliceBounds sl len cap (lo.map a.eval) (hi.map a.eval) none).run C.P w = .ok (l.toNat, hh.toNat, cap) w := by
 have hle : (hh.toNat : Int) = hh := by omega
 rcases qmm h hhb with ⟨rfl, e⟩ | ⟨y, k, rfl, e⟩
 ·subst e
  rcases qmm h hl with ⟨rfl, e⟩ | ⟨y, k, rfl, e⟩
  ·subst e; simp [Instr.sliceBounds]
  ·simp only [Instr.sliceBounds, Option.map_none, Option.map_some, Sem.run_bind, Sem.run_pure, Result.andThen_ok, qfz (y := len) e h0 h1]
   simp
 ·rcases qmm h hl with ⟨rfl, e'⟩ | ⟨y', k', rfl, e'⟩
  ·subst e'; simp only [Instr.sliceBounds, Option.map_none, Option.map_some, Sem.run_bind, Sem.run_pure, Result.andThen_ok, qfz (y := cap) e (by omega) h2]
   simp
  ·simp only [Instr.sliceBounds, Option.map_some, Sem.run_bind, Sem.run_pure, Result.andThen_ok, qfz (y := cap) e (by omega) h2, qfz (y := hh.toNat) e' h0 (by omega)]
theorem qtv (h : Rel C E bt s a w) {sl : Bool} {len cap : Nat} {lo hi : Option Operand} {mx : Operand} {l hh m : Int} (hl : qhq s lo 0 = some l) (hhb : qhq s hi len = some hh)
 (hm : qs1 (s.val mx) = some m) (hhi : hi ≠ none) (h0 : 0 ≤ l) (h1 : l ≤ hh) (h2 : hh ≤ m) (h3 : m ≤ (cap : Int)) :
 (Instr.sliceBounds sl len cap (lo.map a.eval) (hi.map a.eval) (some (a.eval mx))).run C.P w = .ok (l.toNat, hh.toNat, m.toNat) w := by
 have hm' := qmm h (x := some mx) (z := 0) (l := m) (by simpa [qhq] using hm)
 obtain ⟨k3, e3⟩ : ∃ k, a.eval mx = .int k m := by
  rcases hm' with ⟨hh, _⟩ | ⟨y, k, hy, e⟩
  ·cases hh
  ·cases hy; exact ⟨k, e⟩
 rcases qmm h hhb with ⟨hh, _⟩ | ⟨y, k, rfl, e⟩
 ·exact absurd hh hhi
 ·rcases qmm h hl with ⟨rfl, e'⟩ | ⟨y', k', rfl, e'⟩
  ·subst e'
   simp only [Instr.sliceBounds, Option.map_none, Option.map_some, Sem.run_bind, Sem.run_pure, Result.andThen_ok, qfz (y := cap) e3 (by omega) h3, qfz (y := m.toNat) e (by omega) (by omega)]
   simp
  ·simp only [Instr.sliceBounds, Option.map_some, Sem.run_bind, Sem.run_pure, Result.andThen_ok, qfz (y := cap) e3 (by omega) h3, qfz (y := m.toNat) e (by omega) (by omega), qfz (y := hh.toNat) e' h0 (by omega)]
theorem qiw {o : Oper} {t : TypeId} {x : Operand} {lo hi mx : Option Operand} (ho : o.op = .slice t x lo hi mx) (ht : C.P.underlying t = some .string ∨ ∃ e, C.P.underlying t = some (.slice e)) {v : Value} {w' : World}
 (h : (Instr.slice t (a.eval x) (lo.map a.eval) (hi.map a.eval) (mx.map a.eval)).run C.P w = .ok v w') : (execOp a.eval o).run C.P w = .ok (.value v) w' := by
 rcases ht with hu | ⟨e, hu⟩ <;> simp [execOp, ho, Instr.sliceAt, run_underlying hu, h]
theorem qxb {l : List D} {sz i n : Nat} (hs : ∀ d ∈ l, d.fits sz) : ∀ d ∈ (l.drop i).take n, d.fits sz := fun d hd => hs d (List.mem_of_mem_drop (List.mem_of_mem_take hd))
theorem qhw {t e : TypeId} {n : Nat} (hu : P.underlying t = some (.slice e)) (hn : qb4 P e = some n) {ad : Option Addr} {len cap l hh m : Nat} {lo hi mx : Option Value}
 (hb : (Instr.sliceBounds true len cap lo hi mx).run P w = .ok (l, hh, m) w) : (Instr.slice t (.slice ad len cap) lo hi mx).run P w = .ok (.slice (if m = l then ad else ad.map (·.add (l * n))) (hh - l) (m - l)) w := by
 simp [Instr.slice, run_underlying hu, hb, qiu hn]
theorem q4d (h : Rel C E bt s a w) {q : Bool} {o : Oper} {t : TypeId} {x : Operand} {lo hi mx : Option Operand} (ho : o.op = .slice t x lo hi mx) {r : Res} (hr : aop C q o s = some r) (hok : r.ok) : Out C E o s a w r.dl := by
 simp only [aop, ho] at hr
 split at hr
 ·-- string
  rename_i b hu hx
  unfold qkk at hr
  split at hr
  ·rename_i l hh hl hhb
   rw [qiv hr] at hok ⊢
   obtain ⟨h0, h1, h2⟩ := hok
   have rx := qcp (qb0 h hx)
   generalize hvx : a.eval x = ux at rx
   cases rx
   have hb := qke h (sl := false) (len := b.size) (cap := b.size) hl hhb h0 h1 h2
   refine Out.same h (v := .string (b.extract l.toNat hh.toNat)) (qiw ho (.inl hu) ?_) (fun z hz => by cases hz; exact .d _ _ (.s _))
   rw [hvx]
   simp [Instr.slice, run_underlying hu, hb]
  ·cases hr
 ·rename_i e v hu hx
  split at hr
  rotate_left
  ·cases hr
  rename_i n hn
  have rx := qb0 h hx
  unfold qls at hr
  split at hr
  ·-- nil
   split at hr
   ·rename_i l hh hl hhb
    rw [qiv hr] at hok ⊢
    obtain ⟨h0, h1, h2⟩ := hok
    have hv := qpx (qcp rx)
    have hb := qke h (sl := true) (len := 0) (cap := 0) hl hhb h0 h1 (by simpa using h2)
    have hl0 : l = 0 := by omega
    have hh0 : hh = 0 := by omega
    subst hl0; subst hh0
    refine Out.same h (v := .slice none 0 0) (qiw ho (.inr ⟨e, hu⟩) ?_) (fun z hz => by cases hz; exact .d _ _ .nil)
    rw [hv]
    have := qhw (P := C.P) (w := w) hu hn (ad := none) hb
    simpa using this
   ·cases hr
  ·-- data
   rename_i sz ds
   split at hr
   rotate_left
   ·cases hr
   rename_i hsz
   subst hsz
   have rx := qcp rx
   generalize hvx : a.eval x = ux at rx
   split at hr
   ·rename_i l hh hl hhb
    rw [qiv hr] at hok ⊢
    obtain ⟨h0, h1, h2⟩ := hok
    cases rx with
    | sl0 _ =>
      have hb := qke h (sl := true) (len := 0) (cap := 0) hl hhb h0 h1 h2
      have hl0 : l = 0 := by simp at h2; omega
      have hh0 : hh = 0 := by simp at h2; omega
      subst hl0; subst hh0
      refine Out.same h (v := .slice none 0 0) (qiw ho (.inr ⟨e, hu⟩) ?_) (fun z hz => by cases hz; exact .d _ _ (by simpa using RD.sl0 sz))
      rw [hvx]
      have := qhw (P := C.P) (w := w) hu hn (ad := none) hb
      simpa using this
    | sl ad cap _ _ u hc hsz0 hs ha hw hrd =>
      have hb := qke h (sl := true) (len := ds.length) (cap := cap) hl hhb h0 h1 (by omega)
      have hrun := qhw (P := C.P) (w := w) hu hn (ad := some ad) hb
      have hlen : ((ds.drop l.toNat).take (hh.toNat - l.toNat)).length = hh.toNat - l.toNat := by simp; omega
      have hs1 : ∀ d ∈ ds, d.cells.length = sz := fun d hd => (hs d hd).1
      refine Out.same h (qiw ho (.inr ⟨e, hu⟩) (by rw [hvx]; exact hrun)) (fun z hz => ?_)
      cases hz
      refine .d _ _ ?_
      by_cases hm : cap = l.toNat
      ·rw [if_pos hm]
       have hz : hh.toNat - l.toNat = 0 := by omega
       have := RD.sl (w := w) (X := Xs E.X0 s.hp bt) ad (cap - l.toNat) sz [] u (by simp) hsz0 (by simp) (fun hne => absurd rfl hne) (fun j d hj => by simp [flat] at hj) (fun j d hj => by simp [flat] at hj)
       rw [hz]
       simpa using this
      ·rw [if_neg hm]
       by_cases hne : (ds.drop l.toNat).take (hh.toNat - l.toNat) = []
       ·rw [hne] at hlen ⊢
        have hz : hh.toNat - l.toNat = 0 := by simpa using hlen.symm
        rw [hz]
        have := RD.sl (w := w) (X := Xs E.X0 s.hp bt) (ad.add (l.toNat * sz)) (cap - l.toNat) sz [] u (by simp) hsz0 (by simp) (fun hne => absurd rfl hne) (fun j d hj => by simp [flat] at hj) (fun j d hj => by simp [flat] at hj)
        simpa using this
       ·have hds : ds ≠ [] := fun e => hne (by rw [e]; simp)
        obtain ⟨hsp, hnx⟩ := ha hds
        obtain ⟨b, o2, sp⟩ := ad
        simp only at hsp hw hnx
        subst hsp
        have hflat : ∀ (j : Nat) (d : D), (flat ((ds.drop l.toNat).take (hh.toNat - l.toNat)))[j]? = some d → (flat ds)[l.toNat * sz + j]? = some d := by
         intro j d hj
         rw [qhn _ (fun d hd => hs1 d (List.mem_of_mem_drop hd)), qm9 _ hs1, List.getElem?_take] at hj
         split at hj
         ·rwa [List.getElem?_drop] at hj
         ·cases hj
        have := RD.sl (w := w) (X := Xs E.X0 s.hp bt) ⟨b, o2 + l.toNat * sz, none⟩ (cap - l.toNat) sz _ (fun j => u (l.toNat * sz + j)) (by rw [hlen]; omega) hsz0 (qxb hs) (fun _ => ⟨rfl, hnx⟩)
         (fun j d hj => by have := hw _ d (hflat j d hj); simpa [Nat.add_assoc] using this) (fun j d hj => hrd _ d (hflat j d hj))
        rw [hlen] at this
        simpa [Addr.add_lit] using this
   ·rename_i l hh m' hl hhb
    split at hr
    ·rename_i m hm
     split at hr
     ·rename_i hsome
      cases hr
      obtain ⟨h0, h1, h2, h3⟩ := hok
      have hhi : hi ≠ none := fun e => by rw [e] at hsome; cases hsome
      have fin : ∀ {ad : Option Addr} {cap : Nat}, a.eval x = .slice ad ds.length cap → ds.length ≤ cap → Out C E o s a w ⟨[], none, []⟩ := by
       intro ad cap hv hc
       have hb := qtv h (sl := true) (len := ds.length) (cap := cap) hl hhb hm hhi h0 h1 h2 (by omega)
       exact Out.same h (qiw ho (.inr ⟨e, hu⟩) (by rw [hv]; exact qhw (P := C.P) (w := w) hu hn hb)) (fun z hz => by cases hz)
      cases rx with
      | sl0 _ => exact fin hvx (Nat.le_refl _)
      | sl ad cap _ _ u hc _ _ _ _ _ => exact fin hvx hc
     ·cases hr
    ·cases hr
   ·cases hr
  ·-- a row of the call's own
   rename_i id sz off k
   split at hr
   ·rename_i t' sz' z ds l hh hrow hl hhb
    split at hr
    ·rename_i hc
     obtain ⟨rfl, rfl⟩ := hc
     cases hr
     obtain ⟨h0, h1, h2⟩ := hok
     obtain ⟨hz0, hs, hrest⟩ := h.objs id _ (qh2 hrow)
     have hs1 : ∀ d ∈ ds, d.cells.length = sz' := fun d hd => (hs d hd).1
     have hfl := qc6 hs1
     rcases (qhb rx).2 with ⟨bk, cap, ad, hb, hv, had, hk, hkk⟩ | ⟨hb, hoff, hk, hv⟩
     ·rcases hrest with ⟨h3, h4⟩ | ⟨bk', cs, h3, h4, h5, h6, h7⟩
      ·rw [hb] at h3; cases h3
      ·rw [hb] at h3; cases h3
       obtain ⟨cs2, t2, q1, q2⟩ := hkk
       rw [h4] at q1; cases q1
       have hcap : ds.length ≤ off + cap := by
        rcases Nat.lt_or_ge (off + cap) ds.length with hlt | hge
        ·have : (off + cap + 1) * sz' ≤ ds.length * sz' := Nat.mul_le_mul_right _ hlt
         rw [Nat.succ_mul] at this
         omega
        ·exact hge
       have hbd := qke h (sl := true) (len := k) (cap := cap) hl hhb h0 h1 (by omega)
       have hrun := qhw (P := C.P) (w := w) hu hn (ad := some ad) hbd
       have hsum : (off + l.toNat + (cap - l.toNat)) * sz' = cs.size := by rw [← q2]; congr 1; omega
       refine Out.same h (qiw ho (.inr ⟨e, hu⟩) (by rw [hv]; exact hrun)) (fun z hz => ?_)
       cases hz
       have hf := (qhb rx).1
       by_cases hcl : cap = l.toNat
       ·rw [if_pos hcl]
        exact .row id sz' (off + l.toNat) _ bk _ ad (.inr (by omega)) hf hb (by omega) ⟨cs, _, h4, hsum⟩
       ·rw [if_neg hcl]
        have had : ad = ⟨bk, off * sz', none⟩ := by
         rcases had with h | h
         ·exact h
         ·omega
        subst had
        simp only [Option.map_some, Addr.add_lit]
        exact .row id sz' (off + l.toNat) _ bk _ _ (.inl (by rw [Nat.add_mul])) hf hb (by omega) ⟨cs, _, h4, hsum⟩
     ·subst hoff; subst hk
      rcases hrest with ⟨h3, h4⟩ | ⟨bk', cs, h3, h4, h5, h6, h7⟩
      ·subst h4
       have hl0 : l = 0 := by simp at h2; omega
       have hh0 : hh = 0 := by simp at h2; omega
       subst hl0; subst hh0
       have hbd := qke h (sl := true) (len := 0) (cap := 0) hl hhb h0 h1 (by omega)
       have hrun := qhw (P := C.P) (w := w) hu hn (ad := none) hbd
       exact Out.same h (v := .slice none 0 0) (qiw ho (.inr ⟨e, hu⟩) (by rw [hv]; simpa using hrun)) (fun z hz => by cases hz; exact .row0 _ _ (qhb rx).1 hb)
      ·rw [hb] at h3; cases h3
    ·cases hr
   ·rename_i t' sz' z ds l hh m' hrow hl hhb
    split at hr
    ·rename_i m hm
     split at hr
     ·rename_i hc
      obtain ⟨rfl, rfl, hsome⟩ := hc
      cases hr
      obtain ⟨h0, h1, h2, h3⟩ := hok
      have hhi : hi ≠ none := fun e => by rw [e] at hsome; cases hsome
      have fin : ∀ {ad : Option Addr} {cap : Nat}, a.eval x = .slice ad k cap → m ≤ (cap : Int) → Out C E o s a w ⟨[], none, [id]⟩ := by
       intro ad cap hv hc
       have hb := qtv h (sl := true) (len := k) (cap := cap) hl hhb hm hhi h0 h1 h2 hc
       exact Out.same h (qiw ho (.inr ⟨e, hu⟩) (by rw [hv]; exact qhw (P := C.P) (w := w) hu hn hb)) (fun z hz => by cases hz)
      obtain ⟨hz0, hs, hrest⟩ := h.objs id _ (qh2 hrow)
      have hs1 : ∀ d ∈ ds, d.cells.length = sz' := fun d hd => (hs d hd).1
      have hfl := qc6 hs1
      rcases (qhb rx).2 with ⟨bk, cap, ad, hb, hv, had, hk, hkk⟩ | ⟨hb, hoff, hk, hv⟩
      ·rcases hrest with ⟨h3', h4⟩ | ⟨bk', cs, h3', h4, h5, h6, h7⟩
       ·rw [hb] at h3'; cases h3'
       ·rw [hb] at h3'; cases h3'
        obtain ⟨cs2, t2, q1, q2⟩ := hkk
        rw [h4] at q1; cases q1
        have hcap : ds.length ≤ off + cap := by
         rcases Nat.lt_or_ge (off + cap) ds.length with hlt | hge
         ·have : (off + cap + 1) * sz' ≤ ds.length * sz' := Nat.mul_le_mul_right _ hlt
          rw [Nat.succ_mul] at this
          omega
         ·exact hge
        exact fin hv (by omega)
      ·subst hoff; subst hk
       rcases hrest with ⟨h3', h4⟩ | ⟨bk', cs, h3', h4, h5, h6, h7⟩
       ·subst h4
        exact fin hv (by simpa using h3)
       ·rw [hb] at h3'; cases h3'
     ·cases hr
    ·cases hr
   ·cases hr
  ·cases hr
 ·cases hr
end
end Go.Ev
namespace Go.Ev
inductive RO (w : World) (X : Nat → Prop) : Value → O → List (Option Nat) → Prop where
 | d (v : Value) (x : D) (h : RD w X v x) : RO w X v (.d x) []
 | nil (t sz : Nat) (h0 : 0 < sz) : RO w X (.slice none 0 0) (.own t sz []) [none]
 | own (t sz bk cap : Nat) (ad : Addr) (cs : Array Value) (l : List D) (had : ad = ⟨bk, 0, none⟩ ∨ cap = 0) (hcap : l.length ≤ cap) (hcs : cap * sz = cs.size)
    (hb : w.heap[bk]? = some (.cells cs t (0, 0))) (h0 : 0 < sz) (hs : ∀ d ∈ l, d.fits sz) (hc : ∀ (j : Nat) (v : Value) (x : D), cs[j]? = some v → (flat l)[j]? = some x → RD w X v x) :
    RO w X (.slice (some ad) l.length cap) (.own t sz l) [some bk]
 | agg (cs : Array Value) (l : List O) (oss : List (List (Option Nat))) (hn : cs.size = l.length) (hm : oss.length = l.length)
    (h : ∀ (j : Nat) (v : Value) (o : O) (os : List (Option Nat)), cs[j]? = some v → l[j]? = some o → oss[j]? = some os → RO w X v o os) : RO w X (.agg cs) (.agg l) oss.flatten
 | tup (cs : Array Value) (l : List O) (oss : List (List (Option Nat))) (hn : cs.size = l.length) (hm : oss.length = l.length)
    (h : ∀ (j : Nat) (v : Value) (o : O) (os : List (Option Nat)), cs[j]? = some v → l[j]? = some o → oss[j]? = some os → RO w X v o os) : RO w X (.tuple cs) (.tup l) oss.flatten
 | bx (t bk : Nat) (cs : Array Value) (l : List O) (oss : List (List (Option Nat))) (hb : w.heap[bk]? = some (.cells cs t (0, 0))) (hn : cs.size = l.length) (hm : oss.length = l.length)
    (h : ∀ (j : Nat) (v : Value) (o : O) (os : List (Option Nat)), cs[j]? = some v → l[j]? = some o → oss[j]? = some os → RO w X v o os) : RO w X (.pointer (some ⟨bk, 0, none⟩)) (.bx t l) (some bk :: oss.flatten)
def qm0 (os : List (Option Nat)) : Prop := ∀ (i j b : Nat), os[i]? = some (some b) → os[j]? = some (some b) → i = j
def Blk (os : List (Option Nat)) (b : Nat) : Prop := some b ∈ os
structure AR (w : World) (X : Nat → Prop) (vs : Array Value) (args : List O) (os : List (Option Nat)) : Prop where
 n : vs.size = args.length
 h : ∃ oss : List (List (Option Nat)), oss.length = args.length ∧ os = oss.flatten ∧
   ∀ (j : Nat) (v : Value) (o : O) (q : List (Option Nat)), vs[j]? = some v → args[j]? = some o → oss[j]? = some q → RO w X v o q
def qe6 : List O → List Value → List Value
 | .bx _ _ :: l, v :: vs => v :: qe6 l vs
 | _ :: l, _ :: vs => qe6 l vs
 | _, _ => []
def Ret (args : List O) (vs : List Value) (v u : Value) : Prop :=
 match qe6 args vs with
 | [] => u = v
 | ps => ∃ us : List Value, u = .tuple (us ++ ps).toArray ∧ v = match us with | [x] => x | us => .tuple us.toArray
def Sem (P : Program) (f : FuncId) (args : List O) (r : O) : Prop :=
 ∀ (w : World) (vs : Array Value) (X : Nat → Prop) (os : List (Option Nat)), (∀ b, X b → b < w.heap.size) → qm0 os → (∀ b, Blk os b → ¬ X b) → AR w (fun b => X b ∨ Blk os b) vs args os →
   Calls P f vs w fun e w' => ∃ v u os', e = .returned v ∧ Ret args vs.toList v u ∧ RO w' (fun b => X b ∨ Blk os' b) u r os' ∧ qm0 os' ∧ (∀ b, Blk os' b → ¬ X b ∧ (Blk os b ∨ w.heap.size ≤ b)) ∧ Fr (Blk os) w w'
structure InOk (w : World) (X : Nat → Prop) (bt : Nat → Option Nat) (nf : Nat → Prop) (b j : Nat) (v : Value) (os : List (Option Nat)) (x : V) (H : List (Nat × HS)) (j' : Nat) : Prop where
 cnt : j' = j + os.length
 val : VR w X bt nf v x
 rows : ∀ p ∈ H, ∃ k o, k < os.length ∧ p = (b + j + k, .live o) ∧ OR w X bt nf (b + j + k) o
 all : ∀ k, k < os.length → ∃ p ∈ H, p.1 = b + j + k
 nodup : (H.map (·.1)).Nodup
theorem qs4 {w : World} {X : Nat → Prop} {bt : Nat → Option Nat} {nf : Nat → Prop} {b j : Nat} {v : Value} {o : O} {os : List (Option Nat)} (h : RO w X v o os) (ho : o.ok1 = true)
 (hbt : ∀ (k : Nat) (q : Option Nat), os[k]? = some q → bt (b + j + k) = q) (hnf : ∀ k, k < os.length → nf (b + j + k)) :
 InOk w X bt nf b j v os (inO1 b j o).1 (inO1 b j o).2.1 (inO1 b j o).2.2 := by
 cases h with
 | d v x h => exact ⟨rfl, .d _ _ h, by simp [inO1], by simp, by simp [inO1]⟩
 | nil t sz h0 =>
   refine ⟨rfl, .row0 _ _ (hnf 0 (by simp)) (hbt 0 none rfl), ?_, ?_, by simp [inO1]⟩
   ·intro p hp
    simp only [inO1, List.mem_singleton] at hp
    exact ⟨0, .row t sz false [], by simp, by simpa using hp, h0, by simp, .inl ⟨hbt 0 none rfl, rfl⟩⟩
   ·intro k hk
    simp at hk; subst hk
    exact ⟨(b + j, .live (.row t sz false [])), by simp [inO1], by simp⟩
 | own t sz bk cap ad cs l had hcap hcs hb h0 hs hc =>
   refine ⟨rfl, ?_, ?_, ?_, by simp [inO1]⟩
   ·exact .row _ _ 0 _ bk cap ad (by simpa using had) (hnf 0 (by simp)) (hbt 0 _ rfl) hcap ⟨cs, t, hb, by rw [Nat.zero_add]; exact hcs⟩
   ·intro p hp
    simp only [inO1, List.mem_singleton] at hp
    refine ⟨0, .row t sz false l, by simp, by simpa using hp, h0, hs, .inr ⟨bk, cs, hbt 0 _ rfl, hb, (fun hf => Bool.noConfusion hf), ?_, hc⟩⟩
    rw [qc6 (fun d hd => (hs d hd).1), ← hcs]
    exact Nat.mul_le_mul_right _ hcap
   ·intro k hk
    simp at hk; subst hk
    exact ⟨(b + j, .live (.row t sz false l)), by simp [inO1], by simp⟩
 | agg _ _ _ _ _ _ => cases ho
 | tup _ _ _ _ _ _ => cases ho
 | bx _ _ _ _ _ _ _ _ _ => cases ho
theorem qs5 {w : World} {X : Nat → Prop} {bt : Nat → Option Nat} {nf : Nat → Prop} {b : Nat} {f : Nat → O → V × List (Nat × HS) × Nat} {ok : O → Bool}
 (hf : ∀ {j : Nat} {v : Value} {o : O} {os : List (Option Nat)}, RO w X v o os → ok o = true → (∀ (k : Nat) (q : Option Nat), os[k]? = some q → bt (b + j + k) = q) → (∀ k, k < os.length → nf (b + j + k)) →
   InOk w X bt nf b j v os (f j o).1 (f j o).2.1 (f j o).2.2) :
 ∀ (l : List O) (j : Nat) (cs : List Value) (oss : List (List (Option Nat))), cs.length = l.length → oss.length = l.length → l.all ok = true →
   (∀ (k : Nat) (v : Value) (o : O) (os : List (Option Nat)), cs[k]? = some v → l[k]? = some o → oss[k]? = some os → RO w X v o os) →
   (∀ (k : Nat) (q : Option Nat), oss.flatten[k]? = some q → bt (b + j + k) = q) → (∀ k, k < oss.flatten.length → nf (b + j + k)) →
   (inOs f j l).1.length = l.length ∧ (inOs f j l).2.2 = j + oss.flatten.length ∧ (∀ (k : Nat) (v : Value) (x : V), cs[k]? = some v → (inOs f j l).1[k]? = some x → VR w X bt nf v x) ∧
   (∀ p ∈ (inOs f j l).2.1, ∃ k o', k < oss.flatten.length ∧ p = (b + j + k, .live o') ∧ OR w X bt nf (b + j + k) o') ∧
   (∀ k, k < oss.flatten.length → ∃ p ∈ (inOs f j l).2.1, p.1 = b + j + k) ∧ ((inOs f j l).2.1.map (·.1)).Nodup
 | [], j, cs, oss, hc, ho, _, _, _, _ => by
   have e1 : cs = [] := List.eq_nil_of_length_eq_zero (by simpa using hc)
   have e2 : oss = [] := List.eq_nil_of_length_eq_zero (by simpa using ho)
   subst e1; subst e2
   simp [inOs]
 | o :: l, j, c :: cs, os :: oss, hc, ho, hall, h, hbt, hnf => by
   simp only [List.all_cons, Bool.and_eq_true] at hall
   have h1 := hf (j := j) (h 0 c o os rfl rfl rfl) hall.1 (fun k q hk => hbt k q (by
    have := (List.getElem?_eq_some_iff.1 hk).1
    rw [List.flatten_cons, List.getElem?_append_left this]; exact hk))
    (fun k hk => hnf k (by simp; omega))
   have hj := h1.cnt
   obtain ⟨g1, g2, g3, g4, g5, g6⟩ := qs5 hf l (j + os.length) cs oss (by simpa using hc) (by simpa using ho) hall.2 (fun k v o q hk hl hq => h (k + 1) v o q (by simpa using hk) (by simpa using hl) (by simpa using hq))
    (fun k q hk => by
      have := hbt (os.length + k) q (by rw [List.flatten_cons, List.getElem?_append_right (by omega)]; simpa using hk)
      rwa [← Nat.add_assoc, Nat.add_assoc b, ] at this)
    (fun k hk => by
      have := hnf (os.length + k) (by simp at hk ⊢; omega)
      rwa [← Nat.add_assoc, Nat.add_assoc b] at this)
   have e : inOs f j (o :: l) = ((f j o).1 :: (inOs f (j + os.length) l).1, (f j o).2.1 ++ (inOs f (j + os.length) l).2.1, (inOs f (j + os.length) l).2.2) := by
    simp only [inOs]; rw [hj]
   rw [e]
   refine ⟨by simp [g1], by simp [g2]; omega, fun k v x hk hx => ?_, fun p hp => ?_, fun k hk => ?_, ?_⟩
   ·cases k with
    | zero => simp at hk hx; subst hk; subst hx; exact h1.val
    | succ k => simp at hk hx; exact g3 k v x hk hx
   ·rcases List.mem_append.1 hp with hp | hp
    ·obtain ⟨k, o', q1, q2, q3⟩ := h1.rows p hp
     exact ⟨k, o', by simp; omega, q2, q3⟩
    ·obtain ⟨k, o', q1, q2, q3⟩ := g4 p hp
     refine ⟨os.length + k, o', by simp at q1 ⊢; omega, ?_, ?_⟩
     ·rw [q2]; congr 1; omega
     ·rwa [show b + j + (os.length + k) = b + (j + os.length) + k by omega]
   ·by_cases hlt : k < os.length
    ·obtain ⟨p, hp, e⟩ := h1.all k hlt
     exact ⟨p, by simp [hp], e⟩
    ·obtain ⟨p, hp, e⟩ := g5 (k - os.length) (by simp at hk ⊢; omega)
     exact ⟨p, by simp [hp], by omega⟩
   ·rw [List.map_append, List.nodup_append]
    refine ⟨h1.nodup, g6, ?_⟩
    intro x hx y hy hxy
    subst hxy
    simp only [List.mem_map] at hx hy
    obtain ⟨p, hp, rfl⟩ := hx
    obtain ⟨q, hq, e⟩ := hy
    obtain ⟨k, _, q1, q2, _⟩ := h1.rows p hp
    obtain ⟨k', _, _, q4, _⟩ := g4 q hq
    rw [q2, q4] at e
    simp only at e
    omega
theorem qpz {w : World} {X : Nat → Prop} {bt : Nat → Option Nat} {nf : Nat → Prop} {b j : Nat} {v : Value} {o : O} {os : List (Option Nat)} (h : RO w X v o os) (ho : o.ok2 = true)
 (hbt : ∀ (k : Nat) (q : Option Nat), os[k]? = some q → bt (b + j + k) = q) (hnf : ∀ k, k < os.length → nf (b + j + k)) :
 InOk w X bt nf b j v os (inO2 b j o).1 (inO2 b j o).2.1 (inO2 b j o).2.2 := by
 cases o with
 | agg l =>
   cases h with
   | agg cs _ oss hn hm h =>
     obtain ⟨g1, g2, g3, g4, g5, g6⟩ := qs5 (ok := O.ok1) (f := inO1 b) (fun h ho hbt hnf => qs4 h ho hbt hnf) l j cs.toList oss (by simpa using hn) hm (by simpa [O.ok2] using ho)
      (fun k v o os hk hl hq => h k v o os (by simpa using hk) hl hq) hbt hnf
     exact ⟨g2, .agg cs _ (by rw [hn]; exact g1.symm) (fun k v x hk hx => g3 k v x (by simpa using hk) hx), g4, g5, g6⟩
 | d x => exact qs4 h rfl hbt hnf
 | own t sz l => exact qs4 h rfl hbt hnf
 | tup l => cases ho
 | bx t l =>
   cases h with
   | bx _ bk cs _ oss hb hn hm h =>
     obtain ⟨g1, g2, g3, g4, g5, g6⟩ := qs5 (ok := O.ok1) (f := inO1 b) (fun h ho hbt hnf => qs4 h ho hbt hnf) l (j + 1) cs.toList oss (by simpa using hn) hm (by simpa [O.ok2] using ho)
      (fun k v o os hk hl hq => h k v o os (by simpa using hk) hl hq) (fun k q hk => by
        have := hbt (k + 1) q (by simpa using hk)
        rwa [show b + j + (k + 1) = b + (j + 1) + k by omega] at this)
      (fun k hk => by
        have := hnf (k + 1) (by simpa using hk)
        rwa [show b + j + (k + 1) = b + (j + 1) + k by omega] at this)
     have hb0 : bt (b + j) = some bk := hbt 0 _ rfl
     refine ⟨by show (inOs (inO1 b) (j + 1) l).2.2 = _; rw [g2]; simp; omega, .ptr (b + j) 0 bk (hnf 0 (by simp)) hb0, ?_, ?_, ?_⟩
     ·intro p hp
      rcases List.mem_cons.1 hp with rfl | hp
      ·exact ⟨0, .box t (inOs (inO1 b) (j + 1) l).1, by simp, rfl, bk, cs, hb0, hb, by rw [hn]; exact g1.symm, fun k v x hk hx => g3 k v x (by simpa using hk) hx⟩
      ·obtain ⟨k, o, q1, q2, q3⟩ := g4 p hp
       refine ⟨k + 1, o, by simpa using q1, ?_, ?_⟩
       ·rw [q2]; congr 1; omega
       ·rwa [show b + j + (k + 1) = b + (j + 1) + k by omega]
     ·intro k hk
      cases k with
      | zero => exact ⟨_, List.mem_cons_self, rfl⟩
      | succ k =>
        obtain ⟨p, hp, e⟩ := g5 k (by simpa using hk)
        exact ⟨p, List.mem_cons_of_mem _ hp, by omega⟩
     ·show ((b + j, HS.live (.box t (inOs (inO1 b) (j + 1) l).1)) :: (inOs (inO1 b) (j + 1) l).2.1 |>.map (·.1)).Nodup
      rw [List.map_cons, List.nodup_cons]
      refine ⟨fun hm => ?_, g6⟩
      rw [List.mem_map] at hm
      obtain ⟨p, hp, e⟩ := hm
      obtain ⟨k, o, _, q2, _⟩ := g4 p hp
      rw [q2] at e
      simp only at e
      omega
theorem qp0 {w : World} {X : Nat → Prop} {bt : Nat → Option Nat} {nf : Nat → Prop} {b : Nat} {v : Value} {o : O} {os : List (Option Nat)} (h : RO w X v o os) (ho : o.ok = true)
 (hbt : ∀ (k : Nat) (q : Option Nat), os[k]? = some q → bt (b + k) = q) (hnf : ∀ k, k < os.length → nf (b + k)) :
 InOk w X bt nf b 0 v os (inO b o).1 (inO b o).2.1 (inO b o).2.2 := by
 cases o with
 | tup l =>
   cases h with
   | tup cs _ oss hn hm h =>
     obtain ⟨g1, g2, g3, g4, g5, g6⟩ := qs5 (ok := O.ok2) (f := inO2 b) (fun h ho hbt hnf => qpz h ho hbt hnf) l 0 cs.toList oss (by simpa using hn) hm (by simpa [O.ok] using ho)
      (fun k v o os hk hl hq => h k v o os (by simpa using hk) hl hq) hbt hnf
     exact ⟨g2, .tup cs _ (by rw [hn]; exact g1.symm) (fun k v x hk hx => g3 k v x (by simpa using hk) hx), g4, g5, g6⟩
 | d x => exact qpz (b := b) (j := 0) h rfl hbt hnf
 | own t sz l => exact qpz (b := b) (j := 0) h rfl hbt hnf
 | bx t l => exact qpz (b := b) (j := 0) h ho hbt hnf
 | agg l => exact qpz (b := b) (j := 0) h ho hbt hnf
end Go.Ev
namespace Go.Ev
section
variable {C : Cfg} {E : Env} {bt : Nat → Option Nat} {s : St} {a : Act} {w : World} {X : Nat → Prop} {nf : Nat → Prop} {P : Program}
theorem qmn {x : V} {d : D} {is : List Nat} (h : toD1 s x = some (d, is)) : ∀ id ∈ is, (s.hp id).obj?.isSome = true := by
 cases x with
 | d y => simp only [toD1, Option.some.injEq, Prod.mk.injEq] at h; obtain ⟨rfl, rfl⟩ := h; simp
 | row id sz off n =>
   simp only [toD1] at h
   cases hrow : qgj s id with
   | none => simp [hrow] at h
   | some q =>
     obtain ⟨t, sz', z, l⟩ := q
     simp only [hrow] at h
     split at h
     ·cases h
      intro i hi; simp at hi; subst hi
      rw [qh2 hrow]; rfl
     ·cases h
 | _ => cases h
theorem qof {f : V → Option (D × List Nat)} (hf : ∀ {x : V} {d : D} {is : List Nat}, f x = some (d, is) → ∀ id ∈ is, (s.hp id).obj?.isSome = true) :
 ∀ {l : List V} {xs : List D} {is : List Nat}, toDs f l = some (xs, is) → ∀ id ∈ is, (s.hp id).obj?.isSome = true
 | [], xs, is, h => by simp [toDs] at h; obtain ⟨rfl, rfl⟩ := h; simp
 | v :: l, xs, is, h => by
   simp only [toDs] at h
   split at h
   ·rename_i x i xs' is' h1 h2
    cases h
    intro id hid
    rcases List.mem_append.1 hid with hid | hid
    ·exact hf h1 id hid
    ·exact qof hf h2 id hid
   ·cases h
theorem qie {x : V} {d : D} {is : List Nat} (h : toD2 s x = some (d, is)) : ∀ id ∈ is, (s.hp id).obj?.isSome = true := by
 cases x with
 | agg l =>
   simp only [toD2, Option.map_eq_some_iff, Prod.mk.injEq] at h
   obtain ⟨⟨xs, is'⟩, hds, rfl, rfl⟩ := h
   exact qof qmn hds
 | ptr id off =>
   simp only [toD2] at h
   cases hbox : qib s id with
   | none => simp [hbox] at h
   | some c =>
     simp only [hbox, Option.map_eq_some_iff, Prod.mk.injEq] at h
     obtain ⟨⟨xs, is'⟩, hds, rfl, rfl⟩ := h
     obtain ⟨t, ho⟩ := qnt hbox
     intro i hi
     rcases List.mem_cons.1 hi with rfl | hi
     ·rw [ho]; rfl
     ·exact qof qmn hds i hi
 | rp id sz j off =>
   simp only [toD2] at h
   cases hrow : qgj s id with
   | none => simp [hrow] at h
   | some q =>
     obtain ⟨t, sz', z, l⟩ := q
     simp only [hrow] at h
     split at h
     ·simp only [Option.map_eq_some_iff, Prod.mk.injEq] at h
      obtain ⟨e, he, rfl, rfl⟩ := h
      intro i hi; simp at hi; subst hi
      rw [qh2 hrow]; rfl
     ·cases h
 | d y => exact qmn (x := .d y) h
 | row id sz off n => exact qmn (x := .row id sz off n) h
 | fn f l => cases h
 | tup l => cases h
 | opt g x => cases h
 | ub x => cases h
 | nb x => cases h
 | mref x => cases h
theorem q00j {x : V} {d : D} {is : List Nat} (h : toD3 s x = some (d, is)) : ∀ id ∈ is, (s.hp id).obj?.isSome = true := by
 cases x with
 | fn f l =>
   simp only [toD3, Option.map_eq_some_iff, Prod.mk.injEq] at h
   obtain ⟨⟨xs, is'⟩, hds, rfl, rfl⟩ := h
   exact qof qie hds
 | mref i =>
   simp only [toD3] at h
   split at h
   ·rename_i ks vs hm
    simp only [Option.map_eq_some_iff, Prod.mk.injEq] at h
    obtain ⟨⟨xs, is'⟩, hds, rfl, rfl⟩ := h
    obtain ⟨t, ho⟩ := qrt hm
    intro id hid
    rcases List.mem_cons.1 hid with rfl | hid
    ·rw [ho]; rfl
    ·exact qof qie hds id hid
   ·cases h
 | d y => exact qie (x := .d y) h
 | agg l => exact qie (x := .agg l) h
 | ptr i o => exact qie (x := .ptr i o) h
 | row i z o n => exact qie (x := .row i z o n) h
 | rp i z j o => exact qie (x := .rp i z j o) h
 | tup l => exact qie (x := .tup l) h
 | opt g y => exact qie (x := .opt g y) h
 | ub y => exact qie (x := .ub y) h
 | nb y => exact qie (x := .nb y) h
theorem qvh (h : Rel C E bt s a w) {v : Value} {x : V} {t sz : Nat} (hv : VR w (Xs E.X0 s.hp bt) bt (Nf s.hp) v x) {o : O} {id : Option Nat} (ht : qhp s t sz x = some (o, id))
 {X' : Nat → Prop} (hX : ∀ b, X' b → Xs E.X0 s.hp bt b) : RO w X' v o [id.bind bt] ∧ ∀ i, id = some i → (s.hp i).isLive = true := by
 cases x with
 | d y =>
   cases y with
   | nil =>
     simp only [qhp] at ht
     split at ht
     ·rename_i h0
      cases ht
      rw [qpx (qcp hv)]
      exact ⟨.nil t sz h0, fun i hi => by cases hi⟩
     ·cases ht
   | _ => cases ht
 | row id0 sz' off n =>
   simp only [qhp] at ht
   cases hrow : qgz s id0 with
   | none => simp [hrow] at ht
   | some q =>
     obtain ⟨t', sz'', z, l⟩ := q
     simp only [hrow] at ht
     split at ht
     ·rename_i hc
      obtain ⟨rfl, rfl, rfl, rfl, hn⟩ := hc
      cases ht
      have hlive := qje hrow
      refine ⟨?_, fun i hi => by cases hi; rw [hlive]; rfl⟩
      obtain ⟨h0, hs, hrest⟩ := h.objs id0 _ (show (s.hp id0).obj? = some (.row t' sz'' z l) by rw [hlive]; rfl)
      have hs1 : ∀ d ∈ l, d.cells.length = sz'' := fun d hd => (hs d hd).1
      have hlen : (l.take n).length = n := by simp; omega
      rcases (qhb hv).2 with ⟨bk, cap, ad, hb, rfl, had, hcap, hk⟩ | ⟨hb, _, hn0, rfl⟩
      ·rcases hrest with ⟨h3, h4⟩ | ⟨bk', cs, h3, h4, h5, h6, h7⟩
       ·rw [hb] at h3; cases h3
       ·rw [hb] at h3; cases h3
        obtain ⟨cs2, t2, q1, q2⟩ := hk
        rw [h4] at q1; cases q1
        rw [Nat.zero_add] at q2
        have := RO.own (w := w) (X := X') t' sz'' bk cap ad cs (l.take n) (by simpa using had) (by omega) q2 h4 h0 (fun d hd => hs d (List.mem_of_mem_take hd)) (fun j v x hj hx => by
         rw [qhn n hs1, List.getElem?_take] at hx
         split at hx
         ·exact (h7 j v x hj hx).mono hX
         ·cases hx)
        rw [hlen] at this
        simpa [hb] using this
      ·subst hn0
       simpa [hb] using RO.nil (w := w) (X := X') t' sz'' h0
     ·cases ht
 | _ => cases ht
def qvi (bt : Nat → Option Nat) (rd : List Nat) (X' : Nat → Prop) : Prop := ∀ b, X' b → ∀ id ∈ rd, bt id ≠ some b
theorem qm1 (h : Rel C E bt s a w) (mv : List (Nat × TypeId × Nat)) {X' : Nat → Prop} (hX : ∀ b, X' b → Xs E.X0 s.hp bt b) :
 ∀ (l : List V) (j : Nat) (cs : List Value) (os : List O) (rd : List Nat) (tk : List (Option Nat)), qgh s mv j l = some (os, rd, tk) → cs.length = l.length →
   (∀ (k : Nat) (v : Value) (x : V), cs[k]? = some v → l[k]? = some x → VR w (Xs E.X0 s.hp bt) bt (Nf s.hp) v x) → qvi bt rd X' →
   os.length = l.length ∧ (∃ oss : List (List (Option Nat)), oss.length = l.length ∧ tk.map (·.bind bt) = oss.flatten ∧
    ∀ (k : Nat) (v : Value) (o : O) (q : List (Option Nat)), cs[k]? = some v → os[k]? = some o → oss[k]? = some q → RO w X' v o q) ∧
   (∀ i, some i ∈ tk → (s.hp i).isLive = true) ∧ (∀ i ∈ rd, (s.hp i).obj?.isSome = true)
 | [], j, cs, os, rd, tk, ha, hc, hv, hR => by
   simp only [qgh, Option.some.injEq, Prod.mk.injEq] at ha
   obtain ⟨rfl, rfl, rfl⟩ := ha
   exact ⟨rfl, ⟨[], rfl, rfl, fun k v o q _ ho => by simp at ho⟩, by simp, by simp⟩
 | x :: l, j, c :: cs, os, rd, tk, ha, hc, hv, hR => by
   simp only [qgh] at ha
   split at ha
   ·cases ha
   ·rename_i os' rd' tk' hl
    have hvx := hv 0 c x rfl rfl
    split at ha
    ·rename_i t sz hm
     split at ha
     ·rename_i o id ht
      cases ha
      obtain ⟨g1, ⟨oss, g2, g3, g4⟩, g5, g6⟩ := qm1 h mv hX l (j + 1) cs os' rd tk' hl (by simpa using hc) (fun k v x hk hx => hv (k + 1) v x (by simpa using hk) (by simpa using hx)) hR
      obtain ⟨r1, r2⟩ := qvh h hvx ht hX
      refine ⟨by simp [g1], ⟨[id.bind bt] :: oss, by simp [g2], by simp [g3], fun k v o' q hk ho hq => ?_⟩, ?_, g6⟩
      ·cases k with
       | zero => simp at hk ho hq; subst hk; subst ho; subst hq; exact r1
       | succ k => simp at hk ho hq; exact g4 k v o' q hk ho hq
      ·intro i hi
       rcases List.mem_cons.1 hi with hi | hi
       ·exact r2 i hi.symm
       ·exact g5 i hi
     ·cases ha
    ·split at ha
     ·rename_i d is hd
      cases ha
      obtain ⟨g1, ⟨oss, g2, g3, g4⟩, g5, g6⟩ := qm1 h mv hX l (j + 1) cs os' rd' tk hl (by simpa using hc) (fun k v x hk hx => hv (k + 1) v x (by simpa using hk) (by simpa using hx)) (fun b hb id hid => hR b hb id (by simp [hid]))
      refine ⟨by simp [g1], ⟨[] :: oss, by simp [g2], by simp [g3], fun k v o' q hk ho hq => ?_⟩, g5, ?_⟩
      ·cases k with
       | zero =>
         simp at hk ho hq; subst hk; subst ho; subst hq
         exact .d _ _ ((qn6 h hvx hd).mono fun b hb => ⟨hX b hb, fun id hid => hR b hb id (by simp [hid])⟩)
       | succ k => simp at hk ho hq; exact g4 k v o' q hk ho hq
      ·intro i hi
       rcases List.mem_append.1 hi with hi | hi
       ·exact qmn hd i hi
       ·exact g6 i hi
     ·cases ha
theorem qxc (h : Rel C E bt s a w) {mv : List (Nat × TypeId × Nat)} {X' : Nat → Prop} (hX : ∀ b, X' b → Xs E.X0 s.hp bt b) {v : Value} {x : V} (hv : VR w (Xs E.X0 s.hp bt) bt (Nf s.hp) v x)
 {o : O} {rd : List Nat} {tk : List (Option Nat)} (ha : argO s mv x = some (o, rd, tk)) (hR : qvi bt rd X') :
 RO w X' v o (tk.map (·.bind bt)) ∧ (∀ i, some i ∈ tk → (s.hp i).isLive = true) ∧ (∀ i ∈ rd, (s.hp i).obj?.isSome = true) := by
 unfold argO at ha
 split at ha
 ·simp only [Option.map_eq_some_iff, Prod.mk.injEq] at ha
  obtain ⟨⟨d, is⟩, hd, rfl, rfl, rfl⟩ := ha
  exact ⟨.d _ _ ((q5f h hv hd).mono fun b hb => ⟨hX b hb, hR b hb⟩), by simp, q00j hd⟩
 ·rename_i k0 t sz rest
  have agg : ∀ {cs : Array Value} {l : List V}, cs.size = l.length → (∀ (k : Nat) (v : Value) (x : V), cs[k]? = some v → l[k]? = some x → VR w (Xs E.X0 s.hp bt) bt (Nf s.hp) v x) →
   (qgh s ((k0, t, sz) :: rest) 0 l).map (fun (os, rd, tk) => (O.agg os, rd, tk)) = some (o, rd, tk) →
   RO w X' (.agg cs) o (tk.map (·.bind bt)) ∧ (∀ i, some i ∈ tk → (s.hp i).isLive = true) ∧ (∀ i ∈ rd, (s.hp i).obj?.isSome = true) := by
   intro cs l hn hc ha
   simp only [Option.map_eq_some_iff, Prod.mk.injEq] at ha
   obtain ⟨⟨os, rd', tk'⟩, hl, rfl, rfl, rfl⟩ := ha
   obtain ⟨g1, ⟨oss, g2, g3, g4⟩, g5, g6⟩ := qm1 h _ hX l 0 cs.toList os rd' tk' hl (by simpa using hn) (fun k v x hk hx => hc k v x (by simpa using hk) hx) hR
   refine ⟨?_, g5, g6⟩
   rw [g3]
   exact .agg cs os oss (by omega) (by omega) (fun k v o q hk ho hq => g4 k v o q (by simpa using hk) ho hq)
  split at ha
  ·split at ha
   ·rename_i id0
    split at ha
    ·rename_i t' c hobj
     split at ha
     ·rename_i et
      subst et
      simp only [Option.map_eq_some_iff, Prod.mk.injEq] at ha
      obtain ⟨⟨os, rd', tk'⟩, hl, rfl, rfl, rfl⟩ := ha
      obtain ⟨bk, hb, _, rfl⟩ := qjd hv
      obtain ⟨bk', cs, h1, h2, h3, h4⟩ := h.objs id0 (.box t' c) (by rw [hobj]; rfl)
      rw [hb] at h1; cases h1
      obtain ⟨g1, ⟨oss, g2, g3, g4⟩, g5, g6⟩ := qm1 h _ hX c 0 cs.toList os rd' tk' hl (by simpa using h3) (fun k v x hk hx => h4 k v x (by simpa using hk) hx) hR
      refine ⟨?_, fun i hi => ?_, g6⟩
      ·rw [List.map_cons, g3]
       simp only [Option.bind_some, hb]
       exact .bx t' bk cs os oss h2 (by omega) (by omega) (fun k v o q hk ho hq => g4 k v o q (by simpa using hk) ho hq)
      ·rcases List.mem_cons.1 hi with hi | hi
       ·cases hi; rw [hobj]; rfl
       ·exact g5 i hi
     ·cases ha
    ·cases ha
   ·cases ha
  split at ha
  ·rename_i l
   cases hv with
   | agg cs _ hn hc => exact agg hn hc ha
  ·rename_i l
   have hv := qcp hv
   cases hv with
   | agg cs _ hn hc =>
     exact agg (l := l.map V.d) (by simpa using hn) (fun k v x hk hx => by
      simp only [List.getElem?_map, Option.map_eq_some_iff] at hx
      obtain ⟨d, hd, rfl⟩ := hx
      exact .d _ _ (hc k v d hk hd)) ha
  ·simp only [Option.map_eq_some_iff, Prod.mk.injEq] at ha
   obtain ⟨⟨o', id⟩, ht, rfl, rfl, rfl⟩ := ha
   obtain ⟨r1, r2⟩ := qvh h hv ht hX
   exact ⟨by simpa using r1, fun i hi => r2 i (by simp at hi; exact hi.symm), by simp⟩
theorem qqf (h : Rel C E bt s a w) (mv : Nat → List (Nat × TypeId × Nat)) {X' : Nat → Prop} (hX : ∀ b, X' b → Xs E.X0 s.hp bt b) :
 ∀ (l : List V) (j : Nat) (cs : List Value) (os : List O) (rd : List Nat) (tk : List (Option Nat)), qg7 s mv j l = some (os, rd, tk) → cs.length = l.length →
   (∀ (k : Nat) (v : Value) (x : V), cs[k]? = some v → l[k]? = some x → VR w (Xs E.X0 s.hp bt) bt (Nf s.hp) v x) → qvi bt rd X' →
   os.length = l.length ∧ (∃ oss : List (List (Option Nat)), oss.length = l.length ∧ tk.map (·.bind bt) = oss.flatten ∧
    ∀ (k : Nat) (v : Value) (o : O) (q : List (Option Nat)), cs[k]? = some v → os[k]? = some o → oss[k]? = some q → RO w X' v o q)
 | [], j, cs, os, rd, tk, ha, hc, hv, hR => by
   simp only [qg7, Option.some.injEq, Prod.mk.injEq] at ha
   obtain ⟨rfl, rfl, rfl⟩ := ha
   exact ⟨rfl, ⟨[], rfl, rfl, fun k v o q _ ho => by simp at ho⟩⟩
 | x :: l, j, c :: cs, os, rd, tk, ha, hc, hv, hR => by
   simp only [qg7] at ha
   split at ha
   ·rename_i o rd1 tk1 os' rd' tk' h1 hl
    cases ha
    obtain ⟨r1, _, _⟩ := qxc h hX (hv 0 c x rfl rfl) h1 (fun b hb id hid => hR b hb id (by simp [hid]))
    obtain ⟨g1, ⟨oss, g2, g3, g4⟩⟩ := qqf h mv hX l (j + 1) cs os' rd' tk' hl (by simpa using hc) (fun k v x hk hx => hv (k + 1) v x (by simpa using hk) (by simpa using hx)) (fun b hb id hid => hR b hb id (by simp [hid]))
    refine ⟨by simp [g1], ⟨tk1.map (·.bind bt) :: oss, by simp [g2], by simp [g3], fun k v o' q hk ho hq => ?_⟩⟩
    cases k with
    | zero => simp at hk ho hq; subst hk; subst ho; subst hq; exact r1
    | succ k => simp at hk ho hq; exact g4 k v o' q hk ho hq
   ·cases ha
theorem qog {mv : List (Nat × TypeId × Nat)} : ∀ {l : List V} {j : Nat} {os : List O} {rd : List Nat} {tk : List (Option Nat)}, qgh s mv j l = some (os, rd, tk) →
 (∀ i, some i ∈ tk → (s.hp i).isLive = true) ∧ (∀ i ∈ rd, (s.hp i).obj?.isSome = true) := by
 intro l
 induction l with
 | nil =>
   intro j os rd tk ha
   simp only [qgh, Option.some.injEq, Prod.mk.injEq] at ha
   obtain ⟨rfl, rfl, rfl⟩ := ha
   simp
 | cons x l ih =>
   intro j os rd tk ha
   simp only [qgh] at ha
   split at ha
   ·cases ha
   ·rename_i os' rd' tk' hl
    obtain ⟨g5, g6⟩ := ih hl
    split at ha
    ·split at ha
     ·rename_i o id ht
      cases ha
      refine ⟨fun i hi => ?_, g6⟩
      rcases List.mem_cons.1 hi with hi | hi
      ·subst hi
       unfold qhp at ht
       split at ht
       ·split at ht <;> cases ht
       ·split at ht
        ·rename_i hrow
         split at ht
         ·cases ht; rw [qje hrow]; rfl
         ·cases ht
        ·cases ht
       ·cases ht
      ·exact g5 i hi
     ·cases ha
    ·split at ha
     ·rename_i d is hd
      cases ha
      refine ⟨g5, fun i hi => ?_⟩
      rcases List.mem_append.1 hi with hi | hi
      ·exact qmn hd i hi
      ·exact g6 i hi
     ·cases ha
theorem q00k {t sz : Nat} {x : V} {o : O} {i : Nat} (ht : qhp s t sz x = some (o, some i)) : (s.hp i).isLive = true := by
 unfold qhp at ht
 split at ht
 ·split at ht <;> cases ht
 ·split at ht
  ·rename_i hrow
   split at ht
   ·cases ht; rw [qje hrow]; rfl
   ·cases ht
  ·cases ht
 ·cases ht
theorem qr0 {mv : Nat → List (Nat × TypeId × Nat)} : ∀ {l : List V} {j : Nat} {os : List O} {rd : List Nat} {tk : List (Option Nat)}, qg7 s mv j l = some (os, rd, tk) →
 (∀ i, some i ∈ tk → (s.hp i).isLive = true) ∧ (∀ i ∈ rd, (s.hp i).obj?.isSome = true) := by
 intro l
 induction l with
 | nil =>
   intro j os rd tk ha
   simp only [qg7, Option.some.injEq, Prod.mk.injEq] at ha
   obtain ⟨rfl, rfl, rfl⟩ := ha
   simp
 | cons x l ih =>
   intro j os rd tk ha
   simp only [qg7] at ha
   split at ha
   ·rename_i o rd1 tk1 os' rd' tk' h1 hl
    cases ha
    obtain ⟨g5, g6⟩ := ih hl
    have : (∀ i, some i ∈ tk1 → (s.hp i).isLive = true) ∧ (∀ i ∈ rd1, (s.hp i).obj?.isSome = true) := by
     unfold argO at h1
     split at h1
     ·simp only [Option.map_eq_some_iff, Prod.mk.injEq] at h1
      obtain ⟨⟨d, is⟩, hd, rfl, rfl, rfl⟩ := h1
      exact ⟨by simp, q00j hd⟩
     ·split at h1
      ·split at h1
       ·split at h1
        ·rename_i hobj
         split at h1
         ·simp only [Option.map_eq_some_iff, Prod.mk.injEq] at h1
          obtain ⟨⟨os2, rd2, tk2⟩, hl2, rfl, rfl, rfl⟩ := h1
          obtain ⟨k5, k6⟩ := qog hl2
          refine ⟨fun i hi => ?_, k6⟩
          rcases List.mem_cons.1 hi with hi | hi
          ·cases hi; rw [hobj]; rfl
          ·exact k5 i hi
         ·cases h1
        ·cases h1
       ·cases h1
      split at h1
      ·simp only [Option.map_eq_some_iff, Prod.mk.injEq] at h1
       obtain ⟨⟨os2, rd2, tk2⟩, hl2, rfl, rfl, rfl⟩ := h1
       exact qog hl2
      ·simp only [Option.map_eq_some_iff, Prod.mk.injEq] at h1
       obtain ⟨⟨os2, rd2, tk2⟩, hl2, rfl, rfl, rfl⟩ := h1
       exact qog hl2
      ·simp only [Option.map_eq_some_iff, Prod.mk.injEq] at h1
       obtain ⟨⟨o', id⟩, ht, rfl, rfl, rfl⟩ := h1
       refine ⟨fun i hi => ?_, by simp⟩
       simp at hi; subst hi
       exact q00k ht
    refine ⟨fun i hi => ?_, fun i hi => ?_⟩
    ·rcases List.mem_append.1 hi with hi | hi
     ·exact this.1 i hi
     ·exact g5 i hi
    ·rcases List.mem_append.1 hi with hi | hi
     ·exact this.2 i hi
     ·exact g6 i hi
   ·cases ha
end
end Go.Ev
namespace Go.Ev
section
variable {C : Cfg} {E : Env} {bt : Nat → Option Nat} {s : St} {a : Act} {w : World} {X : Nat → Prop} {nf : Nat → Prop} {P : Program}
theorem qpm (h : Nat → HS) : ∀ (l : List (Nat × HS)) (i : Nat), (∃ o, (i, o) ∈ l ∧ qbc h l i = o) ∨ ((∀ p ∈ l, p.1 ≠ i) ∧ qbc h l i = h i)
 | [], i => .inr ⟨by simp, rfl⟩
 | (j, o) :: r, i => by
   by_cases e : i = j
   ·subst e; exact .inl ⟨o, by simp, by simp [qbc]⟩
   ·rcases qpm h r i with ⟨o', h1, h2⟩ | ⟨h1, h2⟩
    ·exact .inl ⟨o', by simp [h1], by simp [qbc, e, h2]⟩
    ·exact .inr ⟨fun p hp => by
      rcases List.mem_cons.1 hp with rfl | hp
      ·exact fun h => e h.symm
      ·exact h1 p hp, by simp [qbc, e, h2]⟩
theorem qkh : ∀ {l : List (Option Nat)} {i j x : Nat}, (l.filterMap id).Nodup → l[i]? = some (some x) → l[j]? = some (some x) → i = j
 | [], i, j, x, _, h, _ => by simp at h
 | none :: l, i, j, x, hn, hi, hj => by
   cases i with
   | zero => simp at hi
   | succ i =>
     cases j with
     | zero => simp at hj
     | succ j => simp at hi hj; rw [qkh (by simpa using hn) hi hj]
 | some y :: l, i, j, x, hn, hi, hj => by
   simp only [List.filterMap_cons, id, List.nodup_cons] at hn
   have mem : ∀ {k : Nat}, l[k]? = some (some x) → x ∈ l.filterMap id := fun hk => by
    rw [List.mem_filterMap]; exact ⟨some x, List.mem_of_getElem? hk, rfl⟩
   cases i with
   | zero =>
     simp at hi; subst hi
     cases j with
     | zero => rfl
     | succ j => simp at hj; exact absurd (mem hj) hn.1
   | succ i =>
     simp at hi
     cases j with
     | zero => simp at hj; subst hj; exact absurd (mem hi) hn.1
     | succ j => simp at hj; rw [qkh hn.2 hi hj]
theorem RD.flat {v : Value} {d : D} (h : RD w X v d) (hf : d.flat = true) (w' : World) (X' : Nat → Prop) : RD w' X' v d := by
 cases h with
 | b x => exact .b x
 | i k n => exact .i k n
 | s x => exact .s x
 | nil => exact .nil
 | np => exact .np
 | _ => cases hf
theorem RD.flatA {v : Value} {d : D} (h : RD w X v d) (hf : d.flatA = true) (w' : World) (X' : Nat → Prop) : RD w' X' v d := by
 cases d with
 | agg l =>
   cases h with
   | agg cs _ hn hc =>
     exact .agg cs l hn fun j v d hj hd => (hc j v d hj hd).flat (List.all_eq_true.1 hf d (List.mem_of_getElem? hd)) w' X'
 | b x => exact h.flat rfl w' X'
 | i k n => exact h.flat rfl w' X'
 | s x => exact h.flat rfl w' X'
 | nil => exact h.flat rfl w' X'
 | np => exact h.flat rfl w' X'
 | sl sz l => cases hf
 | cp l => cases hf
 | fn f l => cases hf
 | mp ks vs => cases hf
theorem qoh {l : List D} {c : D} (h : c ∈ flat l) (hf : l.all D.flatA = true) : c.flat = true := by
 simp only [Ev.flat, List.mem_flatMap] at h
 obtain ⟨d, hd, hc⟩ := h
 have := List.all_eq_true.1 hf d hd
 cases d with
 | agg l' => exact List.all_eq_true.1 this c hc
 | sl _ _ => cases this
 | cp _ => cases this
 | fn _ _ => cases this
 | mp _ _ => cases this
 | _ => simp [D.cells] at hc; subst hc; rfl
theorem RO.flat1 {v : Value} {o : O} {os : List (Option Nat)} (h : RO w X v o os) (ho : o.ok1 = true) (hf : o.flat1 = true) (X' : Nat → Prop) : RO w X' v o os := by
 cases h with
 | d v x h => exact .d _ _ (h.flatA hf w X')
 | nil t sz h0 => exact .nil t sz h0
 | own t sz bk cap ad cs l had hcap hcs hb h0 hs hc =>
   exact .own t sz bk cap ad cs l had hcap hcs hb h0 hs fun j v x hj hx => (hc j v x hj hx).flat (qoh (List.mem_of_getElem? hx) hf) w X'
 | agg _ _ _ _ _ _ => cases ho
 | tup _ _ _ _ _ _ => cases ho
 | bx _ _ _ _ _ _ _ _ _ => cases ho
theorem RO.flat2 {v : Value} {o : O} {os : List (Option Nat)} (h : RO w X v o os) (ho : o.ok2 = true) (hf : (match o with | .agg l => l.all O.flat1 | .bx _ l => l.all O.flat1 | o => o.flat1) = true) (X' : Nat → Prop) : RO w X' v o os := by
 cases o with
 | agg l =>
   cases h with
   | agg cs _ oss hn hm h =>
     exact .agg cs l oss hn hm fun j v o os hj ho' hos => (h j v o os hj ho' hos).flat1 (List.all_eq_true.1 ho o (List.mem_of_getElem? ho')) (List.all_eq_true.1 hf o (List.mem_of_getElem? ho')) X'
 | d x => exact h.flat1 ho hf X'
 | own t sz l => exact h.flat1 ho hf X'
 | tup l => cases ho
 | bx t l =>
   cases h with
   | bx _ bk cs _ oss hb hn hm h =>
     exact .bx t bk cs l oss hb hn hm fun j v o os hj ho' hos => (h j v o os hj ho' hos).flat1 (List.all_eq_true.1 ho o (List.mem_of_getElem? ho')) (List.all_eq_true.1 hf o (List.mem_of_getElem? ho')) X'
theorem RO.flat {v : Value} {o : O} {os : List (Option Nat)} (h : RO w X v o os) (ho : o.ok = true) (hf : o.flat = true) (X' : Nat → Prop) : RO w X' v o os := by
 cases o with
 | tup l =>
   cases h with
   | tup cs _ oss hn hm h =>
     exact .tup cs l oss hn hm fun j v o os hj ho' hos => (h j v o os hj ho' hos).flat2 (List.all_eq_true.1 ho o (List.mem_of_getElem? ho')) (by
      have := List.all_eq_true.1 hf o (List.mem_of_getElem? ho')
      cases o <;> exact this) X'
 | agg l => exact h.flat2 ho hf X'
 | d x => exact h.flat2 ho hf X'
 | own t sz l => exact h.flat2 ho hf X'
 | bx t l => cases hf
theorem RO.mono {X X' : Nat → Prop} {v : Value} {o : O} {os : List (Option Nat)} (h : RO w X v o os) (hx : ∀ b, X' b → X b) : RO w X' v o os := by
 induction h with
 | d v x h => exact .d _ _ (h.mono hx)
 | nil t sz h0 => exact .nil t sz h0
 | own t sz bk cap ad cs l had hcap hcs hb h0 hs hc => exact .own t sz bk cap ad cs l had hcap hcs hb h0 hs fun j v x hj hx' => (hc j v x hj hx').mono hx
 | agg cs l oss hn hm _ ih => exact .agg cs l oss hn hm ih
 | tup cs l oss hn hm _ ih => exact .tup cs l oss hn hm ih
 | bx t bk cs l oss hb hn hm _ ih => exact .bx t bk cs l oss hb hn hm ih
def SemI (P : Program) (f : FuncId) (sz : Nat) (g : List D → Option (Prop × List D)) : Prop :=
 ∀ (w : World) (bk cap : Nat) (cs : Array Value) (t : TypeId) (l l' : List D) (p : Prop), g l = some (p, l') → p → 0 < l.length → l.length ≤ cap → cap * sz = cs.size → w.heap[bk]? = some (.cells cs t (0, 0)) → (∀ d ∈ l, d.fits sz) →
   (∃ X, ∀ (j : Nat) (v : Value) (x : D), cs[j]? = some v → (flat l)[j]? = some x → RD w X v x) →
   Calls P f #[.slice (some ⟨bk, 0, none⟩) l.length cap] w fun e w' => e = .returned (.tuple #[]) ∧ l'.length = l.length ∧ (∀ d ∈ l', d.fits sz) ∧
    ∃ cs', w'.heap[bk]? = some (.cells cs' t (0, 0)) ∧ cs'.size = cs.size ∧ (∀ X (j : Nat) (v : Value) (x : D), cs'[j]? = some v → (flat l')[j]? = some x → RD w' X v x) ∧
      (∀ j, (flat l).length ≤ j → cs'[j]? = cs[j]?) ∧ Fr (fun b => b = bk) w w'
structure TOk (C : Cfg) : Prop where
 t : ∀ f args p r, C.T f args = some (p, r) → p → Sem C.P f args r
 i : ∀ f sz g, C.ti f = some (sz, g) → SemI C.P f sz g
structure Turn (s : St) (hp' : Nat → HS) (fz tk : List Nat) (b n : Nat) (w' : World) (X' : Nat → Prop) (bt' : Nat → Option Nat) : Prop where
 old : ∀ i, (b ≤ i ∧ i < b + n ∧ (s.hp i).isFree = true ∧ ∃ o, hp' i = .live o ∧ OR w' X' bt' (Nf hp') i o) ∨
  (¬ (b ≤ i ∧ i < b + n) ∧ (hp' i = s.hp i ∧ i ∉ fz ∧ i ∉ tk ∨ (∃ o, s.hp i = .live o ∧ hp' i = .fz o ∧ i ∈ fz) ∨ ((s.hp i).isLive = true ∧ hp' i = .dead ∧ i ∈ tk)))
theorem qqg {fz tk : List Nat} {i : Nat} {o : HS} (h : (i, o) ∈ qe5 s fz tk) : (i ∈ fz ∧ o = (match s.hp i with | .live o => .fz o | h => h)) ∨ (i ∈ tk ∧ o = .dead) := by
 simp only [qe5, List.mem_append, List.mem_map, Prod.mk.injEq] at h
 rcases h with ⟨j, hj, rfl, rfl⟩ | ⟨j, hj, rfl, rfl⟩
 ·exact .inl ⟨hj, rfl⟩
 ·exact .inr ⟨hj, rfl⟩
theorem OR.other {w : World} {X : Nat → Prop} {bt : Nat → Option Nat} {nf : Nat → Prop} {i j : Nat} {o : Obj'} (h : OR w X bt nf i o) (hb : bt j = bt i) : OR w X bt nf j o := by
 cases o with
 | box t c =>
   obtain ⟨bk, cs, h1, h2⟩ := h
   exact ⟨bk, cs, hb.trans h1, h2⟩
 | row t sz z l =>
   obtain ⟨h0, h1, h2⟩ := h
   refine ⟨h0, h1, ?_⟩
   rcases h2 with ⟨h3, h4⟩ | ⟨bk, cs, h3, h4⟩
   ·exact .inl ⟨hb.trans h3, h4⟩
   ·exact .inr ⟨bk, cs, hb.trans h3, h4⟩
 | mp t ks vs =>
   obtain ⟨bk, es, clock, h1, h2⟩ := h
   exact ⟨bk, es, clock, hb.trans h1, h2⟩
theorem Rel.revive (h : Rel C E bt s a w) {id n : Nat} {o : Obj'} (hd : s.hp id = .dead) (hn : s.hp n = .live o) (hb : bt id = bt n) : Rel C E bt ⟨s.sl, qbc s.hp [(id, .live o), (n, .dead)]⟩ a w := by
 have hne : id ≠ n := fun e => by subst e; rw [hd] at hn; cases hn
 have hup : ∀ i, qbc s.hp [(id, .live o), (n, .dead)] i = if i = id then .live o else if i = n then .dead else s.hp i := fun i => rfl
 have hN : Nf (qbc s.hp [(id, .live o), (n, .dead)]) = Nf s.hp := by
  funext i
  simp only [Nf, hup]
  by_cases e1 : i = id
  ·subst e1; simp [hd, HS.isFree]
  ·rw [if_neg e1]
   by_cases e2 : i = n
   ·subst e2; simp [hn, HS.isFree]
   ·rw [if_neg e2]
 have hnl : (s.hp n).isLive = true := by rw [hn]; rfl
 have hX : Xs E.X0 (qbc s.hp [(id, .live o), (n, .dead)]) bt = Xs E.X0 s.hp bt := by
  funext c
  refine propext ⟨?_, ?_⟩
  ·rintro (hc | ⟨i, hi, he⟩)
   ·exact .inl hc
   ·rw [hup] at hi
    by_cases e1 : i = id
    ·subst e1; rw [hb] at he; exact qf6 hnl he
    ·rw [if_neg e1] at hi
     by_cases e2 : i = n
     ·rw [if_pos e2] at hi; cases hi
     ·rw [if_neg e2] at hi; exact qf6 hi he
  ·rintro (hc | ⟨i, hi, he⟩)
   ·exact .inl hc
   ·by_cases e2 : i = n
    ·subst e2
     exact .inr ⟨id, by rw [hup, if_pos rfl]; rfl, hb.trans he⟩
    ·refine .inr ⟨i, ?_, he⟩
     rw [hup]
     by_cases e1 : i = id
     ·subst e1; rw [hd] at hi; cases hi
     ·rw [if_neg e1, if_neg e2]; exact hi
 have old : ∀ i o', (qbc s.hp [(id, .live o), (n, .dead)] i).obj? = some o' → (i = id ∧ o' = o) ∨ (i ≠ id ∧ i ≠ n ∧ (s.hp i).obj? = some o') := by
  intro i o' ho
  rw [hup] at ho
  by_cases e1 : i = id
  ·rw [if_pos e1] at ho; cases ho; exact .inl ⟨e1, rfl⟩
  ·rw [if_neg e1] at ho
   by_cases e2 : i = n
   ·rw [if_pos e2] at ho; cases ho
   ·rw [if_neg e2] at ho; exact .inr ⟨e1, e2, ho⟩
 have hno : (s.hp n).obj? = some o := by rw [hn]; rfl
 have hnos : (s.hp n).obj?.isSome = true := by rw [hno]; rfl
 refine ⟨h.df, h.sz, ?_, ?_, ?_, ?_, ?_, h.fr, ?_⟩
 ·intro i v hv
  simp only [hX, hN]
  exact h.slots i v hv
 ·intro i o' ho
  simp only [hX, hN]
  rcases old i o' ho with ⟨rfl, rfl⟩ | ⟨_, _, ho⟩
  ·exact (h.objs n _ hno).other hb
  ·exact h.objs i o' ho
 ·intro i j bk hi hj hbi hbj
  have hi2 : i = id ∨ (i ≠ id ∧ i ≠ n ∧ (s.hp i).isLive = true) := by
   replace hi : (qbc s.hp [(id, .live o), (n, .dead)] i).isLive = true := hi
   rw [hup] at hi
   by_cases e1 : i = id
   ·exact .inl e1
   ·rw [if_neg e1] at hi
    by_cases e2 : i = n
    ·rw [if_pos e2] at hi; cases hi
    ·rw [if_neg e2] at hi; exact .inr ⟨e1, e2, hi⟩
  obtain ⟨oj, hoj⟩ := Option.isSome_iff_exists.1 hj
  rcases hi2 with rfl | ⟨i1, i2, i3⟩ <;> rcases old j oj hoj with ⟨rfl, _⟩ | ⟨j1, j2, j3⟩
  ·rfl
  ·rw [hb] at hbi
   exact absurd (h.inj n j bk hnl (by rw [j3]; rfl) hbi hbj).symm j2
  ·rw [hb] at hbj
   exact absurd (h.inj i n bk i3 hnos hbi hbj) i2
  ·exact h.inj i j bk i3 (by rw [j3]; rfl) hbi hbj
 ·intro i bk hi hbi
  replace hi : (qbc s.hp [(id, .live o), (n, .dead)] i).isLive = true := hi
  rw [hup] at hi
  by_cases e1 : i = id
  ·subst e1; rw [hb] at hbi; exact h.own n bk hnl hbi
  ·rw [if_neg e1] at hi
   by_cases e2 : i = n
   ·rw [if_pos e2] at hi; cases hi
   ·rw [if_neg e2] at hi; exact h.own i bk hi hbi
 ·intro i bk hi hbi
  obtain ⟨oi, hoi⟩ := Option.isSome_iff_exists.1 hi
  rcases old i oi hoi with ⟨rfl, _⟩ | ⟨_, _, ho⟩
  ·rw [hb] at hbi; exact h.nx n bk hnos hbi
  ·exact h.nx i bk (by rw [ho]; rfl) hbi
 ·intro p b hp
  obtain ⟨h1, h2, h3⟩ := h.pin p b hp
  exact ⟨h1, h2, by simp only [hN]; exact h3⟩
theorem qbap (h : Nat → HS) (a b : Nat × HS) (r : List (Nat × HS)) : qbc h (a :: b :: r) = qbc (qbc h r) [a, b] := rfl
theorem qr1 (h : Nat → HS) : ∀ (l r : List (Nat × HS)), qbc h (l ++ r) = qbc (qbc h r) l
 | [], r => rfl
 | (j, o) :: l, r => by
   funext i
   simp only [List.cons_append, qbc]
   rw [qr1 h l r]
theorem qqh {h : Nat → HS} : ∀ {l : List (Nat × HS)} {i : Nat}, (∀ p ∈ l, p.1 ≠ i) → qbc h l i = h i
 | [], i, _ => rfl
 | (j, o) :: l, i, hl => by
   simp only [qbc]
   rw [if_neg (fun e => hl (j, o) (by simp) e.symm), qqh fun p hp => hl p (by simp [hp])]
theorem qvj {h : Nat → HS} : ∀ {l : List (Nat × HS)} {i : Nat} {o : HS}, hget l i = some o → qbc h l i = o ∧ (i, o) ∈ l
 | (j, x) :: l, i, o, hl => by
   simp only [hget] at hl
   simp only [qbc]
   by_cases e : i = j
   ·rw [if_pos e] at hl ⊢; cases hl; exact ⟨rfl, by simp [e]⟩
   ·rw [if_neg e] at hl ⊢
    obtain ⟨h1, h2⟩ := qvj (h := h) hl
    exact ⟨h1, by simp [h2]⟩
def qh0 : List V → List Nat
 | .ptr n 0 :: l => n :: qh0 l
 | _ => []
theorem qm2 {H : List (Nat × HS)} : ∀ {ids : List Nat} {ps : List V} {back : List (Nat × HS)}, qkm H ids ps = some back → ps = (qh0 ps).map (fun n => V.ptr n 0) ∧ (qh0 ps).length = ids.length ∧ (∀ p ∈ back, p.1 ∈ ids ∨ p.1 ∈ qh0 ps) ∧ ∀ n ∈ qh0 ps, ∃ o, hget H n = some o
 | [], [], back, h => by cases h; exact ⟨rfl, rfl, by simp, by simp [qh0]⟩
 | id :: ids, p :: ps, back, h => by
   unfold qkm at h
   split at h
   ·rename_i e _; cases e
   ·rename_i id' ids' n ps' e1 e2
    cases e1; cases e2
    split at h
    ·rename_i o l h1 h2
     cases h
     obtain ⟨k1, k2, k3, k4⟩ := qm2 h2
     refine ⟨by simp only [qh0, List.map_cons]; rw [← k1], by simp [qh0, k2], fun p hp => ?_, fun m hm => ?_⟩
     ·simp only [qh0]
      rcases List.mem_cons.1 hp with rfl | hp
      ·simp
      ·rcases List.mem_cons.1 hp with rfl | hp
       ·simp
       ·rcases k3 p hp with h | h <;> simp [h]
     ·rcases List.mem_cons.1 hm with rfl | hm
      ·exact ⟨o, h1⟩
      ·exact k4 m hm
    ·cases h
   ·cases h
 | [], _ :: _, back, h => by unfold qkm at h; cases h
 | _ :: _, [], back, h => by unfold qkm at h; cases h
theorem Rel.revives {H : List (Nat × HS)} : ∀ {ids : List Nat} {ps : List V} {back : List (Nat × HS)}, qkm H ids ps = some back → Rel C E bt s a w → (∀ i ∈ ids, s.hp i = .dead) → (∀ n ∈ qh0 ps, ∃ o, s.hp n = .live o ∧ hget H n = some (.live o)) →
 (∀ (m i n : Nat), ids[m]? = some i → (qh0 ps)[m]? = some n → bt i = bt n) → ids.Nodup → (qh0 ps).Nodup → (∀ i ∈ ids, i ∉ qh0 ps) → Rel C E bt ⟨s.sl, qbc s.hp back⟩ a w
 | [], ps, back, h, hr, _, _, _, _, _, _ => by
   unfold qkm at h
   split at h
   ·cases h; exact hr
   ·exact absurd (by assumption : [] = _ :: _) (by simp)
   ·cases h
 | id :: ids, [], back, h, _, _, _, _, _, _, _ => by unfold qkm at h; cases h
 | id :: ids, p0 :: ps, back, h, hr, hd, hn, hb, nd1, nd2, dj => by
   unfold qkm at h
   split at h
   ·rename_i e _; cases e
   ·rename_i id' ids' n ps' e1 e2
    cases e1; cases e2
    split at h
    ·rename_i ob l h1 h2
     cases h
     simp only [qh0] at hn hb nd2 dj
     obtain ⟨k1, k2, k3, k4⟩ := qm2 h2
     rw [List.nodup_cons] at nd1 nd2
     have ih := Rel.revives h2 hr (fun i hi => hd i (by simp [hi])) (fun m hm => hn m (by simp [hm])) (fun m i n hi hn => hb (m + 1) i n (by simpa using hi) (by simpa using hn)) nd1.2 nd2.2 (fun i hi hm => dj i (by simp [hi]) (by simp [hm]))
     obtain ⟨o, o1, o2⟩ := hn n (by simp)
     rw [h1] at o2; cases o2
     rw [qbap]
     refine Rel.revive (s := ⟨s.sl, qbc s.hp l⟩) ih ?_ ?_ (hb 0 id n rfl rfl)
     ·show qbc s.hp l id = _
      rw [qqh fun p hp e => ?_]
      ·exact hd id (by simp)
      ·rcases k3 p hp with h | h
       ·exact nd1.1 (e ▸ h)
       ·exact dj id (by simp) (by simp [e ▸ h])
     ·show qbc s.hp l n = _
      rw [qqh fun p hp e => ?_]
      ·exact o1
      ·rcases k3 p hp with h | h
       ·exact dj n (by simp [e ▸ h]) (by simp)
       ·exact nd2.1 (e ▸ h)
    ·cases h
   ·cases h
theorem qbl5 {mv : List (Nat × TypeId × Nat)} {x : V} {o : O} {rd : List Nat} {tk : List (Option Nat)} (ha : argO s mv x = some (o, rd, tk)) :
 (∃ id t l tk', bxId mv x = [id] ∧ x = .ptr id 0 ∧ o = .bx t l ∧ tk = some id :: tk') ∨ (bxId mv x = [] ∧ ∀ t l, o ≠ .bx t l) := by
 match mv with
 | [] =>
   simp only [argO, Option.map_eq_some_iff, Prod.mk.injEq] at ha
   obtain ⟨_, _, rfl, _, _⟩ := ha
   exact .inr ⟨rfl, fun t l e => by cases e⟩
 | (j, t, sz) :: r =>
   by_cases hj : j = 4242
   ·subst hj
    simp only [argO] at ha
    split at ha
    ·split at ha
     ·split at ha
      ·simp only [Option.map_eq_some_iff, Prod.mk.injEq] at ha
       obtain ⟨_, _, rfl, _, rfl⟩ := ha
       exact .inl ⟨_, _, _, _, rfl, rfl, rfl, rfl⟩
      ·cases ha
     ·cases ha
    ·cases ha
   ·have hb : bxId ((j, t, sz) :: r) x = [] := by
     unfold bxId
     split
     ·rename_i e
      simp only [List.cons.injEq, Prod.mk.injEq] at e
      exact absurd e.1.1 hj
     ·rfl
    refine .inr ⟨hb, ?_⟩
    unfold argO at ha
    simp only at ha
    split at ha
    ·simp only [Option.map_eq_some_iff, Prod.mk.injEq] at ha
     obtain ⟨_, _, rfl, _, _⟩ := ha
     exact fun t l e => by cases e
    ·simp only [Option.map_eq_some_iff, Prod.mk.injEq] at ha
     obtain ⟨_, _, rfl, _, _⟩ := ha
     exact fun t l e => by cases e
    ·simp only [Option.map_eq_some_iff, Prod.mk.injEq] at ha
     obtain ⟨⟨o', id⟩, ht, rfl, _, _⟩ := ha
     intro t l e
     subst e
     unfold qhp at ht
     (repeat' split at ht) <;> cases ht
theorem q00l {mv : Nat → List (Nat × TypeId × Nat)} {X : Nat → Prop} {nf : Nat → Prop} : ∀ {l : List V} {j : Nat} {os : List O} {rd : List Nat} {tk : List (Option Nat)} {cs : List Value}, qg7 s mv j l = some (os, rd, tk) → cs.length = l.length →
 (∀ (k : Nat) (v : Value) (x : V), cs[k]? = some v → l[k]? = some x → VR w X bt nf v x) →
 (qll mv j l).length = (qe6 os cs).length ∧ (qll mv j l).Sublist (tk.filterMap id) ∧
 ∀ (m i : Nat) (p : Value), (qll mv j l)[m]? = some i → (qe6 os cs)[m]? = some p → ∃ bk, bt i = some bk ∧ p = .pointer (some ⟨bk, 0, none⟩)
 | [], j, os, rd, tk, cs, ha, _, _ => by
   simp only [qg7, Option.some.injEq, Prod.mk.injEq] at ha
   obtain ⟨rfl, rfl, rfl⟩ := ha
   simp [qll, qe6]
 | x :: l, j, os, rd, tk, c :: cs, ha, hc, hv => by
   simp only [qg7] at ha
   split at ha
   ·rename_i o rd1 tk1 os' rd' tk' h1 hl
    cases ha
    obtain ⟨g1, g2, g3⟩ := q00l hl (by simpa using hc) fun k v x hk hx => hv (k + 1) v x (by simpa using hk) (by simpa using hx)
    rcases qbl5 h1 with ⟨i, t, l', tk'', e1, rfl, rfl, rfl⟩ | ⟨e1, e2⟩
    ·simp only [qll, e1, qe6, List.cons_append, List.nil_append]
     refine ⟨by simp [g1], ?_, fun m i' p hi hp => ?_⟩
     ·rw [List.filterMap_cons]
      simp only [id_eq]
      rw [List.filterMap_append]
      exact List.Sublist.cons_cons _ (g2.trans (List.sublist_append_right _ _))
     ·cases m with
      | zero =>
        simp at hi hp; subst hi; subst hp
        obtain ⟨bk, hb, _, e⟩ := qjd (hv 0 c _ rfl rfl)
        exact ⟨bk, hb, e⟩
      | succ m => simp at hi hp; exact g3 m i' p hi hp
    ·have : qe6 (o :: os') (c :: cs) = qe6 os' cs := by
      cases o <;> first | rfl | exact absurd rfl (e2 _ _)
     simp only [qll, e1, List.nil_append, this]
     refine ⟨g1, ?_, g3⟩
     rw [List.filterMap_append]
     exact g2.trans (List.sublist_append_right _ _)
   ·cases ha
theorem qtw (hT : TOk C) (h : Rel C E bt s a w) {q : Bool} {dst : Option Tmp} {f : FuncId} {vs : List V} {args : Array Value} (hn : args.size = vs.length)
 (hargs : ∀ (j : Nat) (v : Value) (x : V), args[j]? = some v → vs[j]? = some x → VR w (Xs E.X0 s.hp bt) bt (Nf s.hp) v x) {r : Res} (hr : qha C q s dst f vs = some r) (hpok : r.ok) :
 Calls C.P f args w fun e w' => ∃ v bt', e = .returned v ∧ Rel C E bt' (r.dl.app C dst s) (a.put dst v) w' := by
 unfold qha at hr
 split at hr
 ·cases hr
 rename_i os rd tks hao
 split at hr
 ·cases hr
 rename_i p o hTo
 simp only at hr
 generalize htk : tks.filterMap id = tk at hr
 generalize hfz : (if (rd.filter fun id => (s.hp id).isLive) = [] ∨ o.flat = true then [] else rd.filter fun id => (s.hp id).isLive) = fz at hr
 split at hr
 ·cases hr
 rename_i hcond
 have hp : p := by
  split at hr
  ·split at hr
   ·simp only [Option.some.injEq] at hr
    rw [← hr] at hpok
    exact hpok
   ·cases hr
  ·split at hr
   ·cases hr
   ·split at hr
    ·simp only [Option.some.injEq] at hr
     rw [← hr] at hpok
     exact hpok
    ·split at hr
     ·split at hr
      ·simp only [Option.some.injEq] at hr
       rw [← hr] at hpok
       exact hpok
      ·cases hr
     ·cases hr
 have hok : o.ok = true := by
  cases hh : o.ok with
  | true => rfl
  | false => exact absurd (.inl hh) hcond
 have hnd : tk.Nodup := by
  by_cases hh : tk.Nodup
  ·exact hh
  ·exact absurd (.inr (.inl (by simpa using hh))) hcond
 have hdis : ∀ i ∈ tk, i ∉ rd := by
  intro i hi hir
  refine hcond (.inr (.inr ?_))
  rw [List.any_eq_true]
  exact ⟨i, hi, by simpa using hir⟩
 obtain ⟨htl, hro⟩ := qr0 hao
 have htkm : ∀ i, i ∈ tk ↔ some i ∈ tks := by
  intro i
  rw [← htk, List.mem_filterMap]
  constructor
  ·rintro ⟨x, hx, he⟩; simp only [id] at he; subst he; exact hx
  ·intro hx; exact ⟨some i, hx, rfl⟩
 have hfzm : ∀ i ∈ fz, i ∈ rd ∧ (s.hp i).isLive = true := by
  intro i hi
  rw [← hfz] at hi
  split at hi
  ·simp at hi
  ·simpa using List.mem_filter.1 hi
 have hfull : o.flat = true ∨ ∀ i ∈ rd, (s.hp i).isLive = true → i ∈ fz := by
  rw [← hfz]
  split
  ·rename_i hc
   rcases hc with hc | hc
   ·right
    intro i hi hl
    have : i ∈ rd.filter fun id => (s.hp id).isLive := List.mem_filter.2 ⟨hi, hl⟩
    rw [hc] at this; exact this
   ·exact .inl hc
  ·right
   intro i hi hl
   exact List.mem_filter.2 ⟨hi, hl⟩
 -- the call
 let Xc : Nat → Prop := fun b => Xs E.X0 s.hp bt b ∧ (∀ id ∈ rd, bt id ≠ some b) ∧ ∀ id ∈ tk, bt id ≠ some b
 have hblk : ∀ b, Blk (tks.map (·.bind bt)) b ↔ ∃ i ∈ tk, bt i = some b := by
  intro b
  unfold Blk
  rw [List.mem_map]
  constructor
  ·rintro ⟨x, hx, he⟩
   cases x with
   | none => cases he
   | some i => exact ⟨i, (htkm i).2 hx, he⟩
  ·rintro ⟨i, hi, he⟩
   exact ⟨some i, (htkm i).1 hi, he⟩
 have htlive : ∀ i ∈ tk, (s.hp i).isLive = true := fun i hi => htl i ((htkm i).1 hi)
 have hX' : ∀ b, (Xc b ∨ Blk (tks.map (·.bind bt)) b) → Xs E.X0 s.hp bt b := by
  rintro b (hb | hb)
  ·exact hb.1
  ·obtain ⟨i, hi, he⟩ := (hblk b).1 hb
   exact qf6 (htlive i hi) he
 have hR : qvi bt rd (fun b => Xc b ∨ Blk (tks.map (·.bind bt)) b) := by
  rintro b (hb | hb) id hid he
  ·exact hb.2.1 id hid he
  ·obtain ⟨i, hi, he'⟩ := (hblk b).1 hb
   have := h.inj i id b (htlive i hi) (hro id hid) he' he
   subst this
   exact hdis i hi hid
 obtain ⟨g1, ⟨oss, g2, g3, g4⟩⟩ := qqf h (C.mv f) hX' vs 0 args.toList os rd tks hao (by simpa using hn) (fun k v x hk hx => hargs k v x (by simpa using hk) hx) hR
 have hAR : AR w (fun b => Xc b ∨ Blk (tks.map (·.bind bt)) b) args os (tks.map (·.bind bt)) :=
  ⟨by omega, oss, by omega, g3, fun j v o q hj ho hq => g4 j v o q (by simpa using hj) ho hq⟩
 have hApart : qm0 (tks.map (·.bind bt)) := by
  intro i j b hi hj
  simp only [List.getElem?_map, Option.map_eq_some_iff] at hi hj
  obtain ⟨x, hx, ex⟩ := hi
  obtain ⟨y, hy, ey⟩ := hj
  cases x with
  | none => cases ex
  | some x =>
    cases y with
    | none => cases ey
    | some y =>
      have hxl := htl x (List.mem_of_getElem? hx)
      have hyl := htl y (List.mem_of_getElem? hy)
      have := h.inj x y b hxl (qgs hyl) ex ey
      subst this
      exact qkh (by rw [htk]; exact hnd) hx hy
 have hXlt : ∀ b, Xs E.X0 s.hp bt b → b < w.heap.size := by
  rintro b (hb | ⟨i, hi, he⟩)
  ·exact Nat.lt_of_lt_of_le (E.hx b hb) h.fr.ext.size
  ·exact h.lt (qgs hi) he
 have hsem := hT.t f os p o hTo hp w args Xc (tks.map (·.bind bt)) (fun b hb => hXlt b hb.1) hApart (fun b hb hxc => by
  obtain ⟨i, hi, he⟩ := (hblk b).1 hb
  exact hxc.2.2 i hi he) hAR
 refine hsem.mono ?_
 rintro e w' ⟨v, u, os', rfl, hret, hRO, hAp', hB', hFr⟩
 obtain ⟨bx1, bx2, bx3⟩ := q00l (X := Xs E.X0 s.hp bt) (bt := bt) (nf := Nf s.hp) (cs := args.toList) hao (by simpa using hn) (fun k v x hk hx => hargs k v x (by simpa using hk) hx)
 -- X0 lies in what is kept out
 have hX0 : ∀ b, E.X0 b → Xc b := fun b hb => ⟨.inl hb, fun id hid he => h.nx id b (hro id hid) he hb, fun id hid he => h.nx id b (qgs (htlive id hid)) he hb⟩
 have hext : Ext (Xs E.X0 s.hp bt) w w' := hFr.ext.mono fun b hb => by
  obtain ⟨i, hi, he⟩ := (hblk b).1 hb
  exact qf6 (htlive i hi) he
 -- the general step: new names from b on
 have step : ∀ (b n : Nat) (hp' : Nat → HS) (x : Option V) (yv : Value) (Ex : (Nat → Option Nat) → Prop), n = os'.length ∨ (n = 0) →
  (∀ i, b ≤ i → i < b + n → (s.hp i).isFree = true) →
  (∀ X' bt', (∀ (k : Nat) (q : Option Nat), k < n → os'[k]? = some q → bt' (b + k) = q) → RO w' X' u o os' →
    Turn s hp' fz tk b n w' X' bt' ∧ (∀ y, x = some y → VR w' X' bt' (Nf hp') yv y) ∧ Ex bt') →
  ∃ bt', Rel C E bt' ⟨qg6 C.N s.sl dst x, hp'⟩ (a.put dst yv) w' ∧ Ex bt' ∧ ∀ i, Nf s.hp i → bt' i = bt i := by
  intro b n hp' x yv Ex hn hfree hturn
  refine ⟨fun i => if b ≤ i ∧ i < b + n then (os'[i - b]?).join else bt i, ?_⟩
  generalize hbt' : (fun i => if b ≤ i ∧ i < b + n then (os'[i - b]?).join else bt i) = bt'
  have bnew : ∀ (k : Nat) (q : Option Nat), k < n → os'[k]? = some q → bt' (b + k) = q := by
   intro k q hk hq
   rw [← hbt']
   simp only
   rw [if_pos ⟨by omega, by omega⟩, show b + k - b = k by omega, hq]; rfl
  have bold : ∀ i, ¬ (b ≤ i ∧ i < b + n) → bt' i = bt i := by
   intro i hi; rw [← hbt']; simp only; rw [if_neg hi]
  have hRO' : RO w' (Xs E.X0 hp' bt') u o os' := by
   rcases hfull with hf | hf
   ·exact hRO.flat hok hf _
   ·-- all that was read and may be written again is frozen: first with a weaker claim
    have ht0 := (hturn (fun _ => False) bt' bnew (hRO.mono fun _ hb => hb.elim)).1
    refine hRO.mono fun c hc => ?_
    rcases hc with hc | ⟨i, hi, he⟩
    ·exact .inl (hX0 c hc)
    ·rcases ht0.old i with ⟨i1, i2, i3, oo, i4, i5⟩ | ⟨i1, i2⟩
     ·right
      have hk : i - b < os'.length := by rcases hn with hn | hn <;> omega
      have := bnew (i - b) os'[i - b] (by omega) (by simp [hk])
      rw [show b + (i - b) = i by omega, he] at this
      unfold Blk
      rw [this]; exact List.getElem_mem hk
     ·rw [bold i i1] at he
      left
      rcases i2 with ⟨j1, j2, j3⟩ | ⟨oo, j1, j2, j3⟩ | ⟨j1, j2, j3⟩
      ·rw [j1] at hi
       refine ⟨qf6 hi he, fun id hid he' => ?_, fun id hid he' => ?_⟩
       ·have := h.inj i id c hi (hro id hid) he he'
        subst this
        exact j2 (hf i hid hi)
       ·have := h.inj i id c hi (qgs (htlive id hid)) he he'
        subst this
        exact j3 hid
      ·rw [j2] at hi; cases hi
      ·rw [j2] at hi; cases hi
  obtain ⟨ht, hv, hEx⟩ := hturn (Xs E.X0 hp' bt') bt' bnew hRO'
  have hnfree : ∀ i, Nf s.hp i → ¬ (b ≤ i ∧ i < b + n) := fun i hi hh => by
   have := hfree i hh.1 hh.2
   simp [Nf, this] at hi
  have hNf : ∀ i, Nf s.hp i → Nf hp' i := by
   intro i hi
   rcases ht.old i with ⟨i1, i2, _⟩ | ⟨i1, i2⟩
   ·exact absurd ⟨i1, i2⟩ (hnfree i hi)
   ·rcases i2 with ⟨j1, _⟩ | ⟨oo, _, j2, _⟩ | ⟨_, j2, _⟩
    ·simpa [Nf, j1] using hi
    ·simp [Nf, j2, HS.isFree]
    ·simp [Nf, j2, HS.isFree]
  have hXsub : ∀ c, c < w.heap.size → Xs E.X0 hp' bt' c → Xs E.X0 s.hp bt c := by
   intro c hlt hc
   rcases hc with hc | ⟨i, hi, he⟩
   ·exact .inl hc
   ·rcases ht.old i with ⟨i1, i2, i3, _⟩ | ⟨i1, i2⟩
    ·have hk : i - b < os'.length := by rcases hn with hn | hn <;> omega
     have := bnew (i - b) os'[i - b] (by omega) (by simp [hk])
     rw [show b + (i - b) = i by omega, he] at this
     have hbl : Blk os' c := by unfold Blk; rw [this]; exact List.getElem_mem hk
     rcases (hB' c hbl).2 with hb | hb
     ·obtain ⟨j, hj, he'⟩ := (hblk c).1 hb
      exact qf6 (htlive j hj) he'
     ·omega
    ·rw [bold i i1] at he
     rcases i2 with ⟨j1, _⟩ | ⟨oo, _, j2, _⟩ | ⟨_, j2, _⟩
     ·rw [j1] at hi; exact qf6 hi he
     ·rw [j2] at hi; cases hi
     ·rw [j2] at hi; cases hi
  have hsame : ∀ i bk, i ∉ tk → (s.hp i).obj?.isSome = true → bt i = some bk → w'.heap[bk]? = w.heap[bk]? := by
   intro i bk hi ho hb
   refine hFr.ext.same bk (h.lt ho hb) (fun hh => ?_)
   obtain ⟨j, hj, he⟩ := (hblk bk).1 hh
   have := h.inj j i bk (htlive j hj) ho he hb
   subst this
   exact hi hj
  have hobjs : ∀ i oo, (hp' i).obj? = some oo → ¬ (b ≤ i ∧ i < b + n) → (s.hp i).obj? = some oo ∧ i ∉ tk := by
   intro i oo ho hi
   rcases ht.old i with ⟨i1, i2, _⟩ | ⟨_, i2⟩
   ·exact absurd ⟨i1, i2⟩ hi
   ·rcases i2 with ⟨j1, _, j3⟩ | ⟨o2, j1, j2, j3⟩ | ⟨_, j2, _⟩
    ·rw [j1] at ho; exact ⟨ho, j3⟩
    ·rw [j2] at ho; rw [j1]; exact ⟨ho, fun hh => hdis i hh (hfzm i j3).1⟩
    ·rw [j2] at ho; cases ho
  have hlives : ∀ i, (hp' i).isLive = true → ¬ (b ≤ i ∧ i < b + n) → (s.hp i).isLive = true := by
   intro i hl hi
   rcases ht.old i with ⟨i1, i2, _⟩ | ⟨_, i2⟩
   ·exact absurd ⟨i1, i2⟩ hi
   ·rcases i2 with ⟨j1, _⟩ | ⟨o2, j1, j2, j3⟩ | ⟨_, j2, _⟩
    ·rw [j1] at hl; exact hl
    ·rw [j2] at hl; cases hl
    ·rw [j2] at hl; cases hl
  have hnewb : ∀ i bk, b ≤ i → i < b + n → bt' i = some bk → Blk os' bk ∧ os'[i - b]? = some (some bk) := by
   intro i bk i1 i2 he
   have hk : i - b < os'.length := by rcases hn with hn | hn <;> omega
   have := bnew (i - b) os'[i - b] (by omega) (by simp [hk])
   rw [show b + (i - b) = i by omega, he] at this
   refine ⟨by unfold Blk; rw [this]; exact List.getElem_mem hk, by rw [this]; simp⟩
  have hclash : ∀ i j bk, b ≤ i → i < b + n → ¬ (b ≤ j ∧ j < b + n) → bt' i = some bk → bt' j = some bk → (hp' j).obj?.isSome = true → False := by
   intro i j bk i1 i2 hj hbi hbj hjo
   obtain ⟨oo, ho⟩ := Option.isSome_iff_exists.1 hjo
   obtain ⟨hso, hjt⟩ := hobjs j oo ho hj
   rw [bold j hj] at hbj
   obtain ⟨hbl, _⟩ := hnewb i bk i1 i2 hbi
   rcases (hB' bk hbl).2 with hb | hb
   ·obtain ⟨k, hk, he⟩ := (hblk bk).1 hb
    have := h.inj k j bk (htlive k hk) (by rw [hso]; rfl) he hbj
    subst this
    exact hjt hk
   ·have := h.lt (by rw [hso]; rfl) hbj
    omega
  refine ⟨⟨(qky _ _ _).trans h.df, (qhv _ _ _).trans h.sz, ?_, ?_, ?_, ?_, ?_, ?_, fun p b hp => let ⟨h1, h2, h3⟩ := h.pin p b hp; ⟨h1, (bold p (hnfree p h3)).trans h2, hNf p h3⟩⟩, hEx, fun i hi => bold i (hnfree i hi)⟩
  ·exact qlz h.sz (fun i y hy => (h.slots i y hy).ext hext hXsub (fun i hi => bold i (hnfree i hi)) hNf) hv
  ·intro i oo ho
   replace ho : (hp' i).obj? = some oo := ho
   show OR w' (Xs E.X0 hp' bt') bt' (Nf hp') i oo
   by_cases hi : b ≤ i ∧ i < b + n
   ·rcases ht.old i with ⟨_, _, _, o2, i4, i5⟩ | ⟨i1, _⟩
    ·rw [i4] at ho
     simp only [HS.obj?, Option.some.injEq] at ho
     subst ho
     exact i5
    ·exact absurd hi i1
   ·obtain ⟨hso, hit⟩ := hobjs i oo ho hi
    exact (h.objs i oo hso).ext hext hXsub (fun i hi => bold i (hnfree i hi)) hNf (qhu hso) (fun bk hbk => hsame i bk hit (by rw [hso]; rfl) hbk)
  ·intro i j bk hi hj hbi hbj
   by_cases h1 : b ≤ i ∧ i < b + n
   ·by_cases h2 : b ≤ j ∧ j < b + n
    ·have := hAp' (i - b) (j - b) bk (hnewb i bk h1.1 h1.2 hbi).2 (hnewb j bk h2.1 h2.2 hbj).2
     omega
    ·exact (hclash i j bk h1.1 h1.2 h2 hbi hbj hj).elim
   ·by_cases h2 : b ≤ j ∧ j < b + n
    ·exact (hclash j i bk h2.1 h2.2 h1 hbj hbi (qgs hi)).elim
    ·obtain ⟨oo, ho⟩ := Option.isSome_iff_exists.1 hj
     rw [bold i h1] at hbi
     rw [bold j h2] at hbj
     exact h.inj i j bk (hlives i hi h1) (by rw [(hobjs j oo ho h2).1]; rfl) hbi hbj
  ·intro i bk hi hbi
   by_cases h1 : b ≤ i ∧ i < b + n
   ·obtain ⟨hbl, _⟩ := hnewb i bk h1.1 h1.2 hbi
    have hh := hB' bk hbl
    refine ⟨?_, fun hx => hh.1 (hX0 bk hx)⟩
    rcases hh.2 with hb | hb
    ·obtain ⟨k, hk, he⟩ := (hblk bk).1 hb
     exact (h.own k bk (htlive k hk) he).1
    ·have := h.fr.ext.size
     exact .inl (by omega)
   ·rw [bold i h1] at hbi
    exact h.own i bk (hlives i hi h1) hbi
  ·intro i bk hi hbi
   by_cases h1 : b ≤ i ∧ i < b + n
   ·obtain ⟨hbl, _⟩ := hnewb i bk h1.1 h1.2 hbi
    exact fun hx => (hB' bk hbl).1 (hX0 bk hx)
   ·obtain ⟨oo, ho⟩ := Option.isSome_iff_exists.1 hi
    rw [bold i h1] at hbi
    exact h.nx i bk (by rw [(hobjs i oo ho h1).1]; rfl) hbi
  ·have hf := h.fr
   refine ⟨⟨Nat.le_trans hf.ext.size hFr.ext.size, fun c hc hm => ?_, (hf.ext.mono (X' := fun _ => True) (fun _ _ => trivial)).trans (hFr.ext.mono (X' := fun _ => True) (fun _ _ => trivial)) |>.shape⟩, hFr.os.trans hf.os, hFr.tape.trans hf.tape, hFr.output.trans hf.output⟩
   rw [hFr.ext.same c (Nat.lt_of_lt_of_le hc hf.ext.size) (fun hb => ?_)]
   ·exact hf.ext.same c hc hm
   ·obtain ⟨k, hk, he⟩ := (hblk c).1 hb
    rcases (h.own k c (htlive k hk) he).1 with h1 | h1
    ·omega
    ·exact hm h1
 -- both ends
 have turnOld : ∀ (H : List (Nat × HS)) (i : Nat), (∀ p ∈ H, p.1 ≠ i) → (qbc s.hp (qe5 s fz tk ++ H) i = s.hp i ∧ i ∉ fz ∧ i ∉ tk ∨ (∃ o, s.hp i = .live o ∧ qbc s.hp (qe5 s fz tk ++ H) i = .fz o ∧ i ∈ fz) ∨
  ((s.hp i).isLive = true ∧ qbc s.hp (qe5 s fz tk ++ H) i = .dead ∧ i ∈ tk)) := by
  intro H i hH
  rcases qpm s.hp (qe5 s fz tk ++ H) i with ⟨oo, h1, h2⟩ | ⟨h1, h2⟩
  ·rcases List.mem_append.1 h1 with h1 | h1
   ·rcases qqg h1 with ⟨k1, k2⟩ | ⟨k1, k2⟩
    ·obtain ⟨_, hl⟩ := hfzm i k1
     cases hs : s.hp i with
     | live o2 => rw [hs] at k2; exact .inr (.inl ⟨o2, rfl, by rw [h2, k2], k1⟩)
     | _ => rw [hs] at hl; cases hl
    ·exact .inr (.inr ⟨htlive i k1, by rw [h2, k2], k1⟩)
   ·exact absurd rfl (hH _ h1)
  ·refine .inl ⟨h2, fun hi => ?_, fun hi => ?_⟩
   ·exact h1 (i, _) (List.mem_append_left _ (List.mem_append_left _ (List.mem_map.2 ⟨i, hi, rfl⟩))) rfl
   ·exact h1 (i, .dead) (List.mem_append_left _ (List.mem_append_right _ (List.mem_map.2 ⟨i, hi, rfl⟩))) rfl
 have named : ∀ (B : Nat) (x : Option V) (yv : Value) (Ex : (Nat → Option Nat) → Prop), (∀ p ∈ (inO B o).2.1, (s.hp p.1).isFree = true) →
  (∀ X' bt' nf', VR w' X' bt' nf' u (inO B o).1 → (∀ y, x = some y → VR w' X' bt' nf' yv y) ∧ Ex bt') →
  ∃ bt', Rel C E bt' ⟨qg6 C.N s.sl dst x, qbc s.hp (qe5 s fz tk ++ (inO B o).2.1)⟩ (a.put dst yv) w' ∧ Ex bt' ∧ ∀ i, Nf s.hp i → bt' i = bt i := by
  intro B x yv Ex hallfree hval
  have hin := fun (X' : Nat → Prop) (bt' : Nat → Option Nat) (nf' : Nat → Prop) (hb : ∀ (k : Nat) (q : Option Nat), os'[k]? = some q → bt' (B + k) = q) (hnf : ∀ k, k < os'.length → nf' (B + k)) (hRO : RO w' X' u o os') =>
   qp0 (b := B) hRO hok hb hnf
  -- names in use, whatever is said of the blocks
  have hnames := hin (fun _ => False) (fun i => (os'[i - B]?).join) (fun _ => True) (fun k q hk => by
   show (os'[B + k - B]?).join = q
   rw [show B + k - B = k by omega, hk]; rfl) (fun _ _ => trivial) (hRO.mono fun _ hb => hb.elim)
  exact step B os'.length (qbc s.hp (qe5 s fz tk ++ (inO B o).2.1)) x yv Ex (.inl rfl)
   (fun i i1 i2 => by
     obtain ⟨p, hp, e⟩ := hnames.all (i - B) (by omega)
     have := hallfree p hp
     rwa [e, Nat.add_zero, show B + (i - B) = i by omega] at this)
   (fun X' bt' hb hRO => by
     have newAt : ∀ i, B ≤ i → i < B + os'.length → ∃ p ∈ (inO B o).2.1, p.1 = i := by
      intro i i1 i2
      obtain ⟨p, hp, e⟩ := hnames.all (i - B) (by omega)
      exact ⟨p, hp, by omega⟩
     have hpos : ∀ i, B ≤ i → i < B + os'.length → ∃ oo, (i, oo) ∈ (inO B o).2.1 ∧ qbc s.hp (qe5 s fz tk ++ (inO B o).2.1) i = oo := by
      intro i i1 i2
      obtain ⟨p, hp, e⟩ := newAt i i1 i2
      have hf := hallfree p hp
      rw [e] at hf
      rcases qpm s.hp (qe5 s fz tk ++ (inO B o).2.1) i with ⟨oo, h1, h2⟩ | ⟨h1, h2⟩
      ·rcases List.mem_append.1 h1 with h1 | h1
       ·rcases qqg h1 with ⟨k1, _⟩ | ⟨k1, _⟩
        ·have := qit (hfzm i k1).2; rw [this] at hf; cases hf
        ·have := qit (htlive i k1); rw [this] at hf; cases hf
       ·exact ⟨oo, h1, h2⟩
      ·exact absurd e (h1 p (List.mem_append_right _ hp))
     have hnf : ∀ k, k < os'.length → Nf (qbc s.hp (qe5 s fz tk ++ (inO B o).2.1)) (B + k) := by
      intro k hk
      obtain ⟨oo, h1, h2⟩ := hpos (B + k) (by omega) (by omega)
      obtain ⟨k', o2, _, e, _⟩ := hnames.rows _ h1
      simp only [Prod.mk.injEq] at e
      simp [Nf, h2, e.2, HS.isFree]
     have hi := hin X' bt' _ (fun k q hk => hb k q (List.getElem?_eq_some_iff.1 hk).1 hk) hnf hRO
     refine ⟨⟨fun i => ?_⟩, hval X' bt' _ hi.val⟩
     by_cases hh : B ≤ i ∧ i < B + os'.length
     ·left
      obtain ⟨oo, h1, h2⟩ := hpos i hh.1 hh.2
      obtain ⟨k', o2, q1, e, q3⟩ := hi.rows _ h1
      simp only [Prod.mk.injEq, Nat.add_zero] at e
      refine ⟨hh.1, hh.2, hallfree _ h1, o2, by rw [h2, e.2], ?_⟩
      rw [Nat.add_zero, ← e.1] at q3
      exact q3
     ·right
      refine ⟨hh, turnOld _ i fun p hp e => ?_⟩
      obtain ⟨k', o2, q1, e2, _⟩ := hnames.rows p hp
      rw [e2] at e
      simp only [Nat.add_zero] at e
      exact hh ⟨by omega, by omega⟩)
 have uv : qll (C.mv f) 0 vs = [] → u = v := fun e => by
  rw [e] at bx1
  have : qe6 os args.toList = [] := List.eq_nil_of_length_eq_zero (by rw [← bx1]; rfl)
  unfold Ret at hret
  rw [this] at hret
  exact hret
 split at hr
 ·-- no destination
  split at hr
  ·rename_i hids
   cases hr
   have huv := uv hids
   subst huv
   obtain ⟨bt', hrel, _⟩ := step 0 0 (qbc s.hp (qe5 s fz tk)) none u (fun _ => True) (.inr rfl) (fun i _ hi => by omega) (fun X' bt' _ _ =>
    ⟨⟨fun i => .inr ⟨by omega, by have := turnOld [] i (by simp); rw [List.append_nil] at this; exact this⟩⟩, (fun y hy => by cases hy), trivial⟩)
   exact ⟨u, bt', rfl, hrel⟩
  ·cases hr
 ·rename_i d
  split at hr
  ·cases hr
  rename_i hc2
  have hallfree : ∀ p ∈ (inO (16 * d) o).2.1, (s.hp p.1).isFree = true := by
   have : ((inO (16 * d) o).2.1.all fun p => (s.hp p.1).isFree) = true := by
    cases hh : ((inO (16 * d) o).2.1.all fun p => (s.hp p.1).isFree) with
    | true => rfl
    | false => exact absurd (.inr hh) hc2
   exact fun p hp => List.all_eq_true.1 this p hp
  split at hr
  ·rename_i hids
   cases hr
   have huv := uv hids
   subst huv
   obtain ⟨bt', hrel, _⟩ := named (16 * d) (some (inO (16 * d) o).1) u (fun _ => True) hallfree (fun X' bt' nf' hv => ⟨fun y hy => by cases hy; exact hv, trivial⟩)
   exact ⟨u, bt', rfl, hrel⟩
  ·rename_i ids hids hne
   generalize hx1 : (inO (16 * d) o).1 = x1 at hr
   split at hr
   ·rename_i l
    split at hr
    ·rename_i back hback
     cases hr
     generalize hI : qll (C.mv f) 0 vs = I at *
     obtain ⟨ps, hps⟩ : ∃ ps, qe6 os args.toList = ps := ⟨_, rfl⟩
     rw [hps] at bx1 bx3
     have hne' : ps ≠ [] := fun e => by rw [e] at bx1; exact hne (List.eq_nil_of_length_eq_zero bx1)
     obtain ⟨us, hu, hv⟩ : ∃ us : List Value, u = .tuple (us ++ ps).toArray ∧ v = match us with | [x] => x | us => .tuple us.toArray := by
      unfold Ret at hret
      rw [hps] at hret
      cases ps with
      | nil => exact absurd rfl hne'
      | cons p ps => exact hret
     subst hu
     -- what the parts are
     have parts : ∀ (X' : Nat → Prop) (bt' : Nat → Option Nat) (nf' : Nat → Prop), VR w' X' bt' nf' (.tuple (us ++ ps).toArray) (.tup l) →
      VR w' X' bt' nf' v (one1 (l.take (l.length - I.length))) ∧ ∀ (m n : Nat) (p : Value), (qh0 (l.drop (l.length - I.length)))[m]? = some n → ps[m]? = some p → ∃ bk, bt' n = some bk ∧ p = .pointer (some ⟨bk, 0, none⟩) := by
      intro X' bt' nf' hvr
      cases hvr with
      | tup _ _ hn hc =>
        have hlen : l.length = us.length + ps.length := by simpa using hn.symm
        have hk : l.length - I.length = us.length := by omega
        have hl1 : (l.take us.length).length = us.length := by rw [List.length_take]; omega
        rw [hk]
        have hus : ∀ (j : Nat) (v : Value) (x : V), us[j]? = some v → (l.take us.length)[j]? = some x → VR w' X' bt' nf' v x := fun j v x hj hx => by
         have hlt := (List.getElem?_eq_some_iff.1 hj).1
         refine hc j v x ?_ ?_
         ·simp only [List.getElem?_toArray]
          rw [List.getElem?_append_left hlt]; exact hj
         ·rw [List.getElem?_take, if_pos hlt] at hx
          exact hx
        refine ⟨?_, fun m n p hm hp => ?_⟩
        ·rw [hv]
         generalize l.take us.length = xs at hl1 hus
         match us, xs, hl1, hus with
         | [], [], _, _ => exact .tup _ _ rfl fun j v x hj => by simp at hj
         | [y], [x], _, hus => exact hus 0 y x rfl rfl
         | y1 :: y2 :: us, x1 :: x2 :: xs, hl1, hus => exact .tup _ _ (by simpa using hl1.symm) fun j v x hj hx => hus j v x (by simpa using hj) hx
        ·rw [hk] at hback
         obtain ⟨k1, k2, _, _⟩ := qm2 hback
         have hd : (l.drop us.length)[m]? = some (.ptr n 0) := by
          rw [k1, List.getElem?_map, hm]; rfl
         rw [List.getElem?_drop] at hd
         have := hc (us.length + m) p (.ptr n 0) (by
          simp only [List.getElem?_toArray]
          rw [List.getElem?_append_right (by omega)]
          simpa using hp) hd
         obtain ⟨bk, h1, _, h3⟩ := qjd this
         exact ⟨bk, h1, h3⟩
     obtain ⟨k1, k2, k3, k4⟩ := qm2 hback
     generalize hN : qh0 (l.drop (l.length - I.length)) = N at *
     obtain ⟨bt', hrel, hEx, hold⟩ := named (16 * d) (some (one1 (l.take (l.length - I.length)))) v (fun bt' => ∀ (m n : Nat) (p : Value), N[m]? = some n → ps[m]? = some p → ∃ bk, bt' n = some bk ∧ p = .pointer (some ⟨bk, 0, none⟩)) hallfree
      (fun X' bt' nf' hv => by
        rw [hx1] at hv
        obtain ⟨q1, q2⟩ := parts X' bt' nf' hv
        exact ⟨fun y hy => by cases hy; exact q1, q2⟩)
     have Itk : ∀ i ∈ I, i ∈ tk := fun i hi => by rw [← htk]; exact bx2.subset hi
     have Ind : I.Nodup := bx2.nodup (by rw [htk]; exact hnd)
     have idl : ∀ i ∈ I, (s.hp i).isLive = true := fun i hi => htlive i (Itk i hi)
     have hobj : ∀ p ∈ (inO (16 * d) o).2.1, ∃ ob, p.2 = .live ob := fun p hp => by
      obtain ⟨k', o2, _, e2, _⟩ := (qp0 (b := 16 * d) (bt := fun i => (os'[i - 16 * d]?).join) (nf := fun _ => True) (hRO.mono (X' := fun _ => False) fun _ hb => hb.elim) hok (fun k q hk => by
       show (os'[16 * d + k - 16 * d]?).join = q
       rw [Nat.add_sub_cancel_left, hk]; rfl) (fun _ _ => trivial)).rows p hp
      exact ⟨o2, by rw [e2]⟩
     have Nobj : ∀ n ∈ N, ∃ ob, qbc s.hp (qe5 s fz tk ++ (inO (16 * d) o).2.1) n = .live ob ∧ hget (inO (16 * d) o).2.1 n = some (.live ob) ∧ (s.hp n).isFree = true := fun n hn => by
      obtain ⟨o2, h1⟩ := k4 n hn
      obtain ⟨h2, h3⟩ := qvj (h := s.hp) h1
      obtain ⟨ob, e⟩ := hobj _ h3
      simp only at e
      subst e
      have hf := hallfree _ h3
      refine ⟨ob, ?_, h1, hf⟩
      rw [qr1, qqh fun p hp e => ?_]
      ·exact h2
      ·obtain ⟨p1, p2⟩ := p
       simp only at e hf
       subst e
       rcases qqg hp with ⟨q1, _⟩ | ⟨q1, _⟩
       ·rw [qit (hfzm _ q1).2] at hf; cases hf
       ·rw [qit (htlive _ q1)] at hf; cases hf
     have hnfI : ∀ i ∈ I, Nf s.hp i := fun i hi => qit (idl i hi)
     have hbt2 : ∀ (m i n : Nat), I[m]? = some i → N[m]? = some n → bt' i = bt' n ∧ ∃ bk, bt i = some bk ∧ bt' n = some bk := fun m i n hi hn => by
      have hm := (List.getElem?_eq_some_iff.1 hi).1
      have hp : ps[m]? = some (ps[m]'(by omega)) := by simp
      obtain ⟨bk, q1, q2⟩ := bx3 m i _ hi hp
      obtain ⟨bk', q3, q4⟩ := hEx m n _ hn hp
      rw [q2] at q4
      cases q4
      exact ⟨by rw [hold i (hnfI i (List.mem_of_getElem? hi)), q1, q3], bk, q1, q3⟩
     have Nnd : N.Nodup := by
      unfold List.Nodup
      rw [List.pairwise_iff_getElem]
      intro m m' hm hm' hlt e
      have hNI : N.length = I.length := k2
      have h1 : N[m]? = some N[m] := by simp
      have h2 : N[m']? = some N[m'] := by simp
      have hi1 : I[m]? = some (I[m]'(by omega)) := by simp
      have hi2 : I[m']? = some (I[m']'(by omega)) := by simp
      obtain ⟨_, bk, q1, q2⟩ := hbt2 m _ _ hi1 h1
      obtain ⟨_, bk', q3, q4⟩ := hbt2 m' _ _ hi2 h2
      rw [e] at q2
      rw [q2] at q4
      cases q4
      have := h.inj _ _ bk (idl _ (List.getElem_mem _)) (qgs (idl _ (List.getElem_mem _))) q1 q3
      exact (List.pairwise_iff_getElem.1 Ind) m m' (by omega) (by omega) hlt this
     have fin := Rel.revives hback hrel (fun i hi => by
      show qbc s.hp (qe5 s fz tk ++ (inO (16 * d) o).2.1) i = _
      rcases turnOld (inO (16 * d) o).2.1 i (fun p hp e => by
       have := hallfree p hp
       rw [e, qit (idl i hi)] at this; cases this) with ⟨_, _, q⟩ | ⟨_, _, _, q⟩ | ⟨_, q, _⟩
      ·exact absurd (Itk i hi) q
      ·exact absurd (hfzm i q).1 (hdis i (Itk i hi))
      ·exact q)
      (fun n hn => by
        rw [hN] at hn
        obtain ⟨ob, q1, q2, _⟩ := Nobj n hn
        exact ⟨ob, q1, q2⟩)
      (fun m i n hi hn => by rw [hN] at hn; exact (hbt2 m i n hi hn).1) Ind (by rw [hN]; exact Nnd)
      (fun i hi hn => by
        rw [hN] at hn
        obtain ⟨_, _, _, q⟩ := Nobj i hn
        rw [qit (idl i hi)] at q; cases q)
     refine ⟨v, bt', rfl, ?_⟩
     have e : (⟨qg6 C.N s.sl (some d) (some (one1 (l.take (l.length - I.length)))), qbc (qbc s.hp (qe5 s fz tk ++ (inO (16 * d) o).2.1)) back⟩ : St) =
      Delta.app C (some d) ⟨back ++ (qe5 s fz tk ++ (inO (16 * d) o).2.1), some (one1 (l.take (l.length - I.length))), rd⟩ s := by
      unfold Delta.app
      rw [qr1 s.hp back]
     rw [← e]
     exact fin
    ·cases hr
   ·cases hr
theorem q6i (h : Rel C E bt s a w) {dst : Option Tmp} {f : FuncId} {sz : Nat} {g : List D → Option (Prop × List D)} (hI : SemI C.P f sz g) {vs : List V} {args : Array Value} (hn : args.size = vs.length)
 (hargs : ∀ (j : Nat) (v : Value) (x : V), args[j]? = some v → vs[j]? = some x → VR w (Xs E.X0 s.hp bt) bt (Nf s.hp) v x) {r : Res} (hr : qir s sz g vs = some r) (hpok : r.ok) :
 Calls C.P f args w fun e w' => ∃ v bt', e = .returned v ∧ Rel C E bt' (r.dl.app C dst s) (a.put dst v) w' := by
 unfold qir at hr
 split at hr
 ·rename_i id sz' off n
  split at hr
  ·rename_i t sz'' z l hlr
   split at hr
   ·rename_i hc
    obtain ⟨rfl, rfl, rfl, hpos, hle⟩ := hc
    split at hr
    ·rename_i p l' hg
     cases hr
     have hlive := qje hlr
     obtain ⟨h0, hs, hrest⟩ := h.objs id _ (show (s.hp id).obj? = some (.row t sz'' z l) by rw [hlive]; rfl)
     obtain ⟨v, rfl⟩ : ∃ v, args = #[v] := by
      have : args.size = 1 := by simpa using hn
      refine ⟨args[0], Array.ext (by simp [this]) fun i h1 h2 => ?_⟩
      have : i = 0 := by omega
      subst this
      rfl
     have hv := hargs 0 v _ rfl rfl
     rcases (qhb hv).2 with ⟨bk, cap, ad, hb, rfl, had, hcap, hk⟩ | ⟨hb, _, hn0, rfl⟩
     ·rcases hrest with ⟨h3, h4⟩ | ⟨bk', cs, h3, h4, h5, h6, h7⟩
      ·rw [hb] at h3; cases h3
      ·rw [hb] at h3; cases h3
       obtain ⟨cs2, t2, q1, q2⟩ := hk
       rw [h4] at q1; cases q1
       rw [Nat.zero_add] at q2
       have hlen : (l.take n).length = n := by simp; omega
       have hs1 : ∀ d ∈ l, d.cells.length = sz'' := fun d hd => (hs d hd).1
       have hlt : (flat (l.take n)).length = n * sz'' := by rw [qc6 (sz := sz'') fun d hd => hs1 d (List.mem_of_mem_take hd), hlen]
       have hcall := hI w bk cap cs t (l.take n) l' p hg hpok (by omega) (by omega) q2 h4 (fun d hd => hs d (List.mem_of_mem_take hd)) ⟨_, fun j v x hj hx => by
        rw [qhn n hs1, List.getElem?_take] at hx
        split at hx
        ·exact h7 j v x hj hx
        ·cases hx⟩
       rw [hlen] at hcall
       have ead : ad = ⟨bk, 0, none⟩ := by
        rcases had with e | e
        ·simpa using e
        ·omega
       subst ead
       refine hcall.mono fun e w' ⟨he, hl', hf', cs', k1, k2, k3, k4, k5⟩ => ⟨_, bt, he, ?_⟩
       have hfr : Fr (fun b => bt id = some b) w w' := by
        have : (fun b => b = bk) = fun b => bt id = some b := by
         funext b; rw [hb]; exact propext ⟨fun e => by rw [e], fun e => (Option.some.inj e).symm⟩
        rwa [this] at k5
       have hsplit : flat l = flat (l.take n) ++ flat (l.drop n) := by rw [← qkc, List.take_append_drop]
       have hlt' : (flat l').length = n * sz'' := by rw [qc6 (sz := sz'') fun d hd => (hf' d hd).1, hl']
       refine Rel.write h hlive _ hfr ?_ dst _ _ _ (fun y hy => by cases hy; exact .tup _ _ rfl fun j v x hj => by simp at hj)
       refine ⟨h0, fun d hd => ?_, .inr ⟨bk, cs', hb, k1, fun hz e => ?_, ?_, fun j v x hj hx => ?_⟩⟩
       ·rcases List.mem_append.1 hd with hd | hd
        ·exact hf' d hd
        ·exact hs d (List.mem_of_mem_drop hd)
       ·have := congrArg List.length e
        simp at this
        rw [this.1] at hl'
        simp at hl'
        omega
       ·rw [qkc, List.length_append, hlt']
        rw [hsplit, List.length_append, hlt] at h6
        omega
       ·rw [qkc] at hx
        by_cases hj2 : j < n * sz''
        ·rw [List.getElem?_append_left (by omega)] at hx
         exact k3 _ j v x hj hx
        ·rw [List.getElem?_append_right (by omega)] at hx
         rw [k4 j (by omega)] at hj
         have : (flat l)[j]? = some x := by
          rw [hsplit, List.getElem?_append_right (by omega), hlt, ← hlt']; exact hx
         refine (h7 j v x hj this).ext (fun b hb2 hx2 => k5.ext.same b hb2 fun e => hx2 ?_) (fun _ _ hh => hh)
         subst e
         exact qf6 (by rw [hlive]; rfl) hb
     ·omega
    ·cases hr
   ·cases hr
  ·cases hr
 ·cases hr
theorem q6j (hT : TOk C) (h : Rel C E bt s a w) {q : Bool} {dst : Option Tmp} {f : FuncId} {vs : List V} {args : Array Value} (hn : args.size = vs.length)
 (hargs : ∀ (j : Nat) (v : Value) (x : V), args[j]? = some v → vs[j]? = some x → VR w (Xs E.X0 s.hp bt) bt (Nf s.hp) v x) {r : Res} (hr : qf5 C q s dst f vs = some r) (hpok : r.ok) :
 Calls C.P f args w fun e w' => ∃ v bt', e = .returned v ∧ Rel C E bt' (r.dl.app C dst s) (a.put dst v) w' := by
 unfold qf5 at hr
 split at hr
 ·exact qtw hT h hn hargs hr hpok
 ·rename_i sz g hti
  split at hr
  ·rename_i r' ht
   cases hr
   exact q6i h (hT.i f sz g hti) hn hargs ht hpok
  ·exact qtw hT h hn hargs hr hpok
end
end Go.Ev
namespace Go.Ev
section
variable {C : Cfg} {E : Env} {bt : Nat → Option Nat} {s : St} {a : Act} {w : World} {X : Nat → Prop} {nf : Nat → Prop} {P : Program}
theorem qjw {t kt et : TypeId} (h : mapT P t = some (kt, et)) : P.underlying t = some (.map kt et) := by
 unfold mapT at h
 split at h
 ·rename_i e; cases h; exact e
 ·cases h
def qbi8 (w : World) (X : Nat → Prop) (bt : Nat → Option Nat) (nf : Nat → Prop) (v : Value) (ks : List D) (vs : List V) : Prop :=
 (v = .map none ∧ ks = [] ∧ vs = []) ∨ ∃ bk es clock, v = .map (some bk) ∧ w.heap[bk]? = some (.map es clock) ∧ es.size = ks.length ∧ es.size = vs.length ∧
   (∀ (j : Nat) (e : MapEntry) (d : D), es[j]? = some e → ks[j]? = some d → RD w X e.key d) ∧ ∀ (j : Nat) (e : MapEntry) (x : V), es[j]? = some e → vs[j]? = some x → VR w X bt nf e.val x
theorem quj (h : Rel C E bt s a w) {v : Value} {m : V} (hv : VR w (Xs E.X0 s.hp bt) bt (Nf s.hp) v m) {ks : List D} {vs : List V} {rd : List Nat} (hm : qoy s m = some (ks, vs, rd)) :
 qbi8 w (Xs E.X0 s.hp bt) bt (Nf s.hp) v ks vs := by
 unfold qoy at hm
 split at hm
 ·rename_i ks' vs'
  cases hm
  have := qcp hv
  cases this with
  | mp bk es clock _ _ hX hb hs hk hv' h1 h2 =>
    exact .inr ⟨bk, es, clock, rfl, hb, hk, by simpa using hv', h1, fun j e x hj hx => by
     simp only [List.getElem?_map, Option.map_eq_some_iff] at hx
     obtain ⟨d, hd, rfl⟩ := hx
     exact .d _ _ (h2 j e d hj hd)⟩
  | mp0 => exact .inl ⟨rfl, rfl, rfl⟩
 ·rename_i id
  split at hm
  ·rename_i ks' vs' hg
   cases hm
   obtain ⟨bk, hb, _, rfl⟩ := qug hv
   obtain ⟨t, ho⟩ := qrt hg
   obtain ⟨bk', es, clock, h1, h2, h0, h3, h4, h5, h6⟩ := h.objs id _ ho
   rw [hb] at h1; cases h1
   exact .inr ⟨bk, es, clock, rfl, h2, h3, h4, h5, h6⟩
  ·cases hm
 ·cases hm
theorem qxd {kt : TypeId} {d : D} {v : Value} (hd : isK P kt d = true) (hv : RD w X v d) : ∃ τ, P.underlying kt = some τ ∧ MapKept.IsKey τ v ∧ (τ = .bool ∨ (∃ k, τ = .int k) ∨ τ = .string) := by
 unfold isK at hd
 split at hd
 ·rename_i e; cases hv; exact ⟨_, e, trivial, .inl rfl⟩
 ·rename_i e
  simp only [decide_eq_true_eq] at hd
  subst hd
  cases hv; exact ⟨_, e, rfl, .inr (.inl ⟨_, rfl⟩)⟩
 ·rename_i e; cases hv; exact ⟨_, e, trivial, .inr (.inr rfl)⟩
 ·cases hd
theorem qbl6 (x y : ByteArray) : (x == y) = seq y x := by
 rw [Bool.eq_iff_iff, MapKept.bytes_beq]
 unfold seq
 rw [beq_iff_eq]
 constructor
 ·intro h; rw [h]
 ·intro h
  have := congrArg (fun l => (ByteArray.mk l.toArray)) h
  simp only [ByteArray.toList_eq] at h
  cases x; cases y; simp at h; rw [h]
theorem q4e {kt : TypeId} {τ : TypeDesc} (hτ : P.underlying kt = some τ) {d k : D} {u v : Value} (hd : isK P kt d = true) (hk : isK P kt k = true) (hu : RD w X u d) (hv : RD w X v k) :
 Instr.sameNow τ v u = some (kEq d k) := by
 unfold isK at hd hk
 rw [hτ] at hd hk
 split at hd
 ·rename_i e; cases e
  cases hu
  split at hk
  ·cases hv; simp [Instr.sameNow, kEq, Bool.beq_comm]
  ·rename_i e; cases e
  ·rename_i e; cases e
  ·cases hk
 ·rename_i e
  cases e
  cases hu
  simp only [decide_eq_true_eq] at hd
  subst hd
  split at hk
  ·rename_i e; cases e
  ·rename_i e
   cases e
   cases hv
   simp only [decide_eq_true_eq] at hk
   subst hk
   simp only [Instr.sameNow, kEq, if_true]
   congr 1
   rw [Bool.eq_iff_iff]; simp; exact eq_comm
  ·rename_i e; cases e
  ·cases hk
 ·rename_i e; cases e
  cases hu
  split at hk
  ·rename_i e; cases e
  ·rename_i e; cases e
  ·cases hv; simp [Instr.sameNow, kEq, qbl6]
  ·cases hk
 ·cases hd
theorem qmo {kt : TypeId} {τ : TypeDesc} (hτ : P.underlying kt = some τ) {k : D} {v : Value} (hk : isK P kt k = true) (hv : RD w X v k) :
 ∀ (l : List MapEntry) (ks : List D) (i : Nat), l.length = ks.length → (∀ d ∈ ks, isK P kt d = true) → (∀ (j : Nat) (e : MapEntry) (d : D), l[j]? = some e → ks[j]? = some d → RD w X e.key d) →
   (qfg ks k = none ∧ Instr.findNow τ v l i = some none) ∨ ∃ j e, qfg ks k = some j ∧ l[j]? = some e ∧ Instr.findNow τ v l i = some (some (i + j, e.val))
 | [], [], i, _, _, _ => .inl ⟨rfl, rfl⟩
 | e :: l, d :: ks, i, hl, hks, hr => by
   have h1 := q4e hτ (hks d (by simp)) hk (hr 0 e d rfl rfl) hv
   cases hq : kEq d k with
   | true =>
     refine .inr ⟨0, e, by simp [qfg, hq], rfl, ?_⟩
     rw [hq] at h1
     simp [Instr.findNow, h1]
   | false =>
     rw [hq] at h1
     rcases qmo hτ hk hv l ks (i + 1) (by simpa using hl) (fun d hd => hks d (by simp [hd])) (fun j e d hj hd => hr (j + 1) e d (by simpa using hj) (by simpa using hd)) with ⟨g1, g2⟩ | ⟨j, e', g1, g2, g3⟩
     ·exact .inl ⟨by simp [qfg, hq, g1], by simp [Instr.findNow, h1, g2]⟩
     ·exact .inr ⟨j + 1, e', by simp [qfg, hq, g1], by simpa using g2, by simp [Instr.findNow, h1, g3]; omega⟩
 | [], _ :: _, _, hl, _, _ => by simp at hl
 | _ :: _, [], _, hl, _, _ => by simp at hl
theorem qqi {t kt et : TypeId} (hm : mapT P t = some (kt, et)) {v : Value} {ks : List D} {vs : List V} (hma : qbi8 w X bt nf v ks vs) {k : D} {kv : Value} (hk : isK P kt k = true) (hks : ∀ d ∈ ks, isK P kt d = true) (hkv : RD w X kv k)
 {z : Value} (hz : (zeroValue et).run P w = .ok z w) (cm : Bool) :
 (qfg ks k = none ∧ (Instr.lookup t v kv cm).run P w = .ok (if cm then .tuple #[z, .bool false] else z) w) ∨
 ∃ j u x, qfg ks k = some j ∧ vs[j]? = some x ∧ VR w X bt nf u x ∧ (Instr.lookup t v kv cm).run P w = .ok (if cm then .tuple #[u, .bool true] else u) w := by
 obtain ⟨τ, hτ, hkey, _⟩ := qxd hk hkv
 have hck : ∀ e, (Instr.checkKey e 10000 kt kv).run P w = .ok () w := fun e => MapKept.run_checkKey hτ hkey e 9999
 rcases hma with ⟨rfl, rfl, rfl⟩ | ⟨bk, es, clock, rfl, hb, e1, e2, h1, h2⟩
 ·refine .inl ⟨rfl, ?_⟩
  have hf : (Instr.findKey kt kv []).run P w = .ok none w := MapKept.run_findKey hτ rfl
  simp [Instr.lookup, run_underlying (qjw hm), hck, hf, hz, Result.andThen]
 ·have hfn := qmo hτ hk hkv es.toList ks 0 (by simpa using e1) hks (fun j e d hj hd => h1 j e d (by simpa using hj) hd)
  rcases hfn with ⟨g1, g2⟩ | ⟨j, e, g1, g2, g3⟩
  ·refine .inl ⟨g1, ?_⟩
   have hf := MapKept.run_findKey (w := w) hτ g2
   simp [Instr.lookup, run_underlying (qjw hm), MapKept.run_getObj_map hb, hck, hf, hz, Result.andThen]
  ·have g2' : es[j]? = some e := by simpa using g2
   have hlt := (Array.getElem?_eq_some_iff.1 g2').1
   refine .inr ⟨j, e.val, vs[j]'(by omega), g1, by simp, h2 j e _ g2' (by simp), ?_⟩
   have hf := MapKept.run_findKey (w := w) hτ g3
   simp [Instr.lookup, run_underlying (qjw hm), MapKept.run_getObj_map hb, hck, hf, Result.andThen]
theorem qr2 {t : TypeId} {z : List D} (hz : qc3 P t = some z) (w : World) : ∃ v, (zeroValue t).run P w = .ok v w ∧ v.cells.size = z.length ∧ ∀ (j : Nat) (u : Value) (d : D), v.cells[j]? = some u → z[j]? = some d → cval u = some d := by
 obtain ⟨i, v, h1, h2, h3, h4⟩ := qkz hz
 exact ⟨v, by simp [zeroValue, typeInfo, h1, h2, Result.andThen], h3, h4⟩
theorem qlc {o : Oper} {t : TypeId} {x y : Operand} {cm : Bool} (ho : o.op = .lookup t x y cm) {v : Value} {w' : World} (h : (Instr.lookup t (a.eval x) (a.eval y) cm).run P w = .ok v w') : (execOp a.eval o).run P w = .ok (.value v) w' := by
 simp [execOp, ho, h]
theorem q6k {t : TypeId} {z : D} (hz : qf0 P t = some z) (w : World) : ∃ v, (zeroValue t).run P w = .ok v w ∧ cval v = some z := by
 unfold qf0 at hz
 simp only [Option.bind_eq_some_iff] at hz
 obtain ⟨v, ⟨i, h1, h2⟩, h3⟩ := hz
 exact ⟨v, by simp [zeroValue, typeInfo, h1, h2, Result.andThen], h3⟩
theorem q00m (h : Rel C E bt s a w) {o : Oper} {t : TypeId} {x y : Operand} {cm : Bool} (ho : o.op = .lookup t x y cm) {m k : V} (hx : s.val x = some m) (hy : s.val y = some k) {r : Res}
 (hr : qjr C s t m k cm = some r) (hok : r.ok) : Out C E o s a w r.dl := by
 unfold qjr at hr
 split at hr
 rotate_left
 ·cases hr
 rename_i kt et k' hm
 have hkv := qcp (qb0 h hy)
 split at hr
 rotate_left
 ·cases hr
 rename_i z0 ks vs rd hz hmo
 obtain ⟨zv, hzr, hzs, hzc⟩ := qr2 hz w
 have hma := quj h (qb0 h hx) hmo
 split at hr
 ·rename_i hcm
  subst hcm
  split at hr
  ·cases hr
  rename_i hnb
  cases hr
  rcases qqi hm hma hok.2 hok.1 hkv hzr true with ⟨g1, g2⟩ | ⟨j, u, x', g1, g2, g3, g4⟩
  ·refine Out.same h (qlc ho g2) (fun q hq => ?_)
   cases hq
   rw [g1]
   refine .tup _ _ rfl fun j v q hj hq => ?_
   match j with
   | 0 => simp at hj hq; subst hj; subst hq; exact .opt _ _ _ (fun e => by cases e) (fun _ b e => by
       subst e
       simp only [Value.cells, List.size_toArray, List.length_cons, List.length_nil] at hzs
       match z0, hzs with
       | [d0], _ =>
         have := hzc 0 (.bool b) d0 rfl rfl
         cases this
         exact hnb rfl)
   | 1 => simp at hj hq; subst hj; subst hq; exact .d _ _ (.b _)
   | j + 2 => simp at hj
  ·refine Out.same h (qlc ho g4) (fun q hq => ?_)
   cases hq
   have : mget ks vs k' = x' := by simp [mget, g1, List.getD, g2]
   rw [g1, this]
   refine .tup _ _ rfl fun j v q hj hq => ?_
   match j with
   | 0 => simp at hj hq; subst hj; subst hq; exact .opt _ _ _ (fun _ => g3) (fun e => by cases e)
   | 1 => simp at hj hq; subst hj; subst hq; exact .d _ _ (.b _)
   | j + 2 => simp at hj
 ·rename_i hcm
  have hcm : cm = false := by simpa using hcm
  subst hcm
  split at hr
  rotate_left
  ·cases hr
  rename_i z hz1
  obtain ⟨zv1, hzr1, hcv⟩ := q6k hz1 w
  split at hr
  rotate_left
  ·cases hr
  rename_i d hd
  cases hr
  obtain ⟨o1, o2, o3⟩ := hok
  rcases qqi hm hma o2 o1 hkv hzr1 false with ⟨g1, g2⟩ | ⟨j, u, x', g1, g2, g3, g4⟩
  ·refine Out.same h (qlc ho g2) (fun q hq => ?_)
   cases hq
   have : d = z := by
    unfold qs2 at hd
    simp only [g1] at hd
    split at hd <;> cases hd <;> rfl
   subst this
   exact .d _ _ (qn5 hcv)
  ·refine Out.same h (qlc ho g4) (fun q hq => ?_)
   cases hq
   have hsh := o3 x' (List.mem_of_getElem? g2)
   have hgd : vs.getD j (.d .np) = x' := by simp [List.getD, g2]
   have : x' = .d d := by
    unfold qs2 at hd
    simp only [g1, hgd] at hd
    unfold sh1 at hsh
    split at hsh
    ·cases hd; rfl
    ·simp only [decide_eq_true_eq] at hsh
     subst hsh
     cases hd; rfl
    ·cases hd; rfl
    ·cases hsh
   rw [← this]
   exact g3
theorem qzt (h : Rel C E bt s a w) {o : Oper} {t : TypeId} (ho : o.op = .makeMap t none) {r : Res} (hr : newObj s o.dst True (.mp t [] []) (.mref (nm o.dst 0)) = some r) : Out C E o s a w r.dl := by
 obtain ⟨hfree, rfl⟩ := qhh hr
 have hrun : (execOp a.eval o).run C.P w = .ok (.value (.map (some w.heap.size))) (w.alloc (.map #[] 0)) := by
  simp [execOp, ho, Instr.makeMap, Result.andThen]
 refine ⟨_, _, _, _, hrun, .inl rfl, h.make hfree (w' := w.alloc (.map #[] 0)) (.mp t [] []) (some w.heap.size) (fun M => qod M w _) (fun bk hb => by cases hb; exact Nat.le_refl _) ?_ o.dst _ _ [] ?_⟩
 ·exact ⟨w.heap.size, #[], 0, by simp, qoe w _, MapKept.stamped_empty 0, rfl, rfl, fun j e d hj => by simp at hj, fun j e d hj => by simp at hj⟩
 ·intro y hy
  cases hy
  exact .mref _ w.heap.size qu9 (by simp)
theorem qyd {bk : Nat} {es : Array MapEntry} {clock : Nat} (hb : w.heap[bk]? = some (.map es clock)) {M : Nat → Prop} (hM : M bk) (o : Obj) : Fr M w { w with heap := w.heap.setIfInBounds bk o } := by
 refine ⟨⟨by simp, fun b _ hn => ?_, fun b cs t hc => ?_⟩, rfl, rfl, rfl⟩
 ·exact (MapKept.heap_set (w := w) (o' := o) hb).2 b (fun e => hn (e ▸ hM))
 ·have : b ≠ bk := fun e => by subst e; rw [hb] at hc; cases hc
  exact ⟨cs, by rw [show ({ w with heap := w.heap.setIfInBounds bk o } : World).heap[b]? = w.heap[b]? from (MapKept.heap_set (w := w) (o' := o) hb).2 b this]; exact hc, rfl⟩
theorem qvk (h : Rel C E bt s a w) {o : Oper} {t : TypeId} {x y z : Operand} (ho : o.op = .mapUpdate t x y z) {m k v : V} (hx : s.val x = some m) (hy : s.val y = some k) (hz : s.val z = some v) {r : Res}
 (hr : qhm C s t m k v = some r) (hok : r.ok) : Out C E o s a w r.dl := by
 unfold qhm at hr
 split at hr
 rotate_left
 ·cases hr
 rename_i kt et id k' hm
 split at hr
 rotate_left
 ·cases hr
 rename_i t' ks vs hl
 cases hr
 obtain ⟨hks, hk⟩ := hok
 have hkv := qcp (qb0 h hy)
 have hv := qb0 h hz
 obtain ⟨bk, hb, hnf, hmv⟩ := qug (qb0 h hx)
 obtain ⟨bk', es, clock, h1, h2, h0, h3, h4, h5, h6⟩ := h.objs id (.mp t' ks vs) (by rw [hl]; rfl)
 rw [hb] at h1; cases h1
 have hXb : Xs E.X0 s.hp bt bk := qf6 (by rw [hl]; rfl) hb
 obtain ⟨τ, hτ, hkey, _⟩ := qxd hk hkv
 have hck : (Instr.checkKey false 10000 kt (a.eval y)).run C.P w = .ok () w := MapKept.run_checkKey hτ hkey false 9999
 have hkeys : ∀ e ∈ es.toList, MapKept.IsKey τ e.key := fun e he => by
  obtain ⟨j, hj, rfl⟩ := List.getElem_of_mem he
  have hj' : j < es.size := by simpa using hj
  have hd : ks[j]? = some (ks[j]'(by omega)) := by simp
  obtain ⟨τ', g1, g2, _⟩ := qxd (hks _ (List.getElem_mem (by omega : j < ks.length))) (h5 j es[j] _ (by simp) hd)
  rw [hτ] at g1; cases g1
  simpa using g2
 have ext : ∀ o, Ext (Xs E.X0 s.hp bt) w { w with heap := w.heap.setIfInBounds bk o } := fun o => (qyd (M := Xs E.X0 s.hp bt) h2 hXb o).ext
 have hRD : ∀ {o u d}, RD w (Xs E.X0 s.hp bt) u d → RD { w with heap := w.heap.setIfInBounds bk o } (Xs E.X0 s.hp bt) u d := fun {o u d} hh => hh.ext (ext o).same (fun _ _ q => q)
 have hVR : ∀ {o u d}, VR w (Xs E.X0 s.hp bt) bt (Nf s.hp) u d → VR { w with heap := w.heap.setIfInBounds bk o } (Xs E.X0 s.hp bt) bt (Nf s.hp) u d := fun {o u d} hh => hh.ext (ext o) (fun _ _ q => q) (fun _ _ => rfl) (fun _ q => q)
 have fin : ∀ {o' : Obj} {ob : Obj'}, (Instr.mapUpdate t (.map (some bk)) (a.eval y) (a.eval z)).run C.P w = .ok () { w with heap := w.heap.setIfInBounds bk o' } →
  OR { w with heap := w.heap.setIfInBounds bk o' } (Xs E.X0 s.hp bt) bt (Nf s.hp) id ob → Out C E o s a w ⟨[(id, .live ob)], none, []⟩ := fun {o' ob} hrun hor => by
  refine ⟨_, _, _, _, ?_, .inr ⟨rfl, rfl⟩, h.write hl ob (qyd h2 hb _) hor o.dst undef none [] (fun y hy => by cases hy)⟩
  simp only [execOp, ho, hmv, Go.Sem.run_bind, hrun, Result.andThen_ok, Go.Sem.run_pure]
 rcases qmo hτ hk hkv es.toList ks 0 (by simpa using h3) hks (fun j e d hj hd => h5 j e d (by simpa using hj) hd) with ⟨g1, g2⟩ | ⟨j, e, g1, g2, g3⟩
 ·have hne : ∀ e ∈ es.toList, e.key ≠ a.eval y := by
   rcases MapKept.findNow_spec hkey es.toList 0 hkeys with ⟨_, q⟩ | ⟨j, e, q, _⟩
   ·exact q
   ·rw [g2] at q; cases q
  refine fin (o' := .map (es.push { key := a.eval y, val := a.eval z, born := clock }) (clock + 1)) ?_ ?_
  ·simp [Instr.mapUpdate, run_underlying (qjw hm), MapKept.run_getObj_map h2, hck, MapKept.run_findKey hτ g2, MapKept.run_setObj_map _ h2, Result.andThen]
  ·refine ⟨bk, _, _, hb, (MapKept.heap_set h2).1, MapKept.stamped_push h0 hne, by simp [qow, g1, h3], by simp [qox, g1, h4], fun j e d hj hd => ?_, fun j e d hj hd => ?_⟩
   ·simp only [qow, g1] at hd
    rw [Array.getElem?_push] at hj
    split at hj
    ·rename_i e1
     cases hj
     subst e1
     rw [List.getElem?_append_right (by omega), h3] at hd
     simp at hd
     subst hd
     exact hRD hkv
    ·have hlt := (Array.getElem?_eq_some_iff.1 hj).1
     rw [List.getElem?_append_left (by omega)] at hd
     exact hRD (h5 j e d hj hd)
   ·simp only [qox, g1] at hd
    rw [Array.getElem?_push] at hj
    split at hj
    ·rename_i e1
     cases hj
     subst e1
     rw [List.getElem?_append_right (by omega), h4] at hd
     simp at hd
     subst hd
     exact hVR hv
    ·have hlt := (Array.getElem?_eq_some_iff.1 hj).1
     rw [List.getElem?_append_left (by omega)] at hd
     exact hVR (h6 j e d hj hd)
 ·have hek : e.key = a.eval y := by
   rcases MapKept.findNow_spec hkey es.toList 0 hkeys with ⟨q, _⟩ | ⟨j', e', q1, q2, q3⟩
   ·rw [g3] at q; cases q
   ·rw [g3] at q1
    simp only [Option.some.injEq, Prod.mk.injEq] at q1
    have : j = j' := by omega
    subst this
    rw [g2] at q2; cases q2
    exact q3
  have hj : es[j]? = some e := by simpa using g2
  refine fin (o' := .map (es.modify j fun e => { e with key := a.eval y, val := a.eval z }) clock) ?_ ?_
  ·have g3' : Instr.findNow τ (a.eval y) es.toList 0 = some (some (j, e.val)) := by simpa using g3
   simp [Instr.mapUpdate, run_underlying (qjw hm), MapKept.run_getObj_map h2, hck, MapKept.run_findKey hτ g3', hj, hek, MapKept.run_keyThatStays hkey, MapKept.run_setObj_map _ h2, Result.andThen]
  ·have hkey' : ∀ e', es[j]? = some e' → ({ e' with key := a.eval y, val := a.eval z } : MapEntry).key = e'.key := fun e' he' => by rw [hj] at he'; cases he'; exact hek.symm
   refine ⟨bk, _, _, hb, (MapKept.heap_set h2).1, MapKept.stamped_modify h0 _ _ (fun _ _ => rfl) (fun e' _ he' => hkey' e' he'), by simp [qow, g1, h3], by simp [qox, g1, h4], fun i e' d hi hd => ?_, fun i e' d hi hd => ?_⟩
   ·simp only [qow, g1] at hd
    rw [Array.getElem?_modify] at hi
    split at hi
    ·rename_i e1
     subst e1
     rw [hj] at hi
     simp only [Option.map_some, Option.some.injEq] at hi
     subst hi
     have := hRD (o := .map (es.modify j fun e => { e with key := a.eval y, val := a.eval z }) clock) (h5 j e d hj hd)
     rw [hek] at this
     exact this
    ·exact hRD (h5 i e' d hi hd)
   ·simp only [qox, g1] at hd
    rw [Array.getElem?_modify] at hi
    split at hi
    ·rename_i e1
     subst e1
     rw [hj] at hi
     simp only [Option.map_some, Option.some.injEq] at hi
     subst hi
     rw [List.getElem?_set_self (by have := (Array.getElem?_eq_some_iff.1 hj).1; omega)] at hd
     cases hd
     exact hVR hv
    ·rename_i e1
     rw [List.getElem?_set_ne e1] at hd
     exact hVR (h6 i e' d hi hd)
end
end Go.Ev
namespace Go.Ev
section
variable {C : Cfg} {E : Env} {bt : Nat → Option Nat} {s : St} {a : Act} {w : World} {X : Nat → Prop} {nf : Nat → Prop} {P : Program}
theorem qzu (z : Array Value) (n : Nat) (h : ∀ u ∈ z.toList, u.oneCell' = true) : ∀ u ∈ (Builtin.zeroCells z n).toList, u.oneCell' = true := by
 intro u hu
 simp only [Builtin.zeroCells, Array.toList_map, List.mem_map, Array.toList_range, List.mem_range] at hu
 obtain ⟨i, hi, rfl⟩ := hu
 have hz : 0 < z.size := by
  rcases Nat.eq_zero_or_pos z.size with h0 | h0
  ·rw [h0] at hi; omega
  ·exact h0
 have hlt : i % z.size < z.size := Nat.mod_lt _ hz
 rw [getElem!_pos z _ hlt]
 exact h _ (by simp)
theorem q4f (h : Rel C E bt s a w) {o : Oper} {x : Operand} {t e : TypeId} (ho : o.op = .call ⟨.builtin .clear, #[x], #[t]⟩) {id sz off n : Nat} (hx : s.val x = some (.row id sz off n)) (he : qgr C.P t = some e)
 {t' : TypeId} {zb : Bool} {l : List D} (hl : qgz s id = some (t', sz, zb, l)) {z : List D} (hz : qc3 C.P e = some z) (hzl : z.length = sz) (hdst : o.dst = none) (hok : off + n ≤ l.length) :
 Out C E o s a w ⟨[(id, .live (.row t' sz false (l.take off)))], none, []⟩ := by
 have hlive := qje hl
 obtain ⟨hsz0, hs, hrest⟩ := h.objs id (.row t' sz zb l) (by rw [hlive]; rfl)
 have hs1 : ∀ d ∈ l, d.cells.length = sz := fun d hd => (hs d hd).1
 have hput : ∀ v, a.put o.dst v = a := fun v => by rw [hdst]; rfl
 have fin : ∀ {w' : World}, (Builtin.clear_ #[t] o.type #[a.eval x]).run C.P w = .ok (.tuple #[]) w' → Fr (fun b => bt id = some b) w w' →
  OR w' (Xs E.X0 s.hp bt) bt (Nf s.hp) id (.row t' sz false (l.take off)) → Out C E o s a w ⟨[(id, .live (.row t' sz false (l.take off)))], none, []⟩ := fun {w'} hrun hfr hor => by
  refine ⟨_, _, _, _, qkp ho ?_, .inl rfl, h.write hlive _ hfr hor o.dst (.tuple #[]) none [] (fun y hy => by cases hy)⟩
  simp only [builtin, List.map_toArray, List.map_cons, List.map_nil, Go.Sem.run_bind, hrun, Result.andThen_ok, Go.Sem.run_pure]
 have ht := qkd he
 have hfits : ∀ d ∈ l.take off, d.fits sz := fun d hd => hs d (List.mem_of_mem_take hd)
 rcases (qhb (qb0 h hx)).2 with ⟨bk, cap, ad, hb, hev, had, hncap, hkk⟩ | ⟨hb, ho0, hn0, hev⟩
 ·rcases hrest with ⟨h3, h4⟩ | ⟨bk', cs, h3, h4, h5, h6, h7⟩
  ·rw [hb] at h3; cases h3
  ·rw [hb] at h3; cases h3
   have horSame : OR w (Xs E.X0 s.hp bt) bt (Nf s.hp) id (.row t' sz false (l.take off)) := by
    refine ⟨hsz0, hfits, .inr ⟨bk, cs, hb, h4, (fun q => by cases q), ?_, fun j v d hj hd => ?_⟩⟩
    ·rw [qhn off hs1, List.length_take]; omega
    ·rw [qhn off hs1, List.getElem?_take] at hd
     split at hd
     ·exact h7 j v d hj hd
     ·cases hd
   rcases Nat.eq_zero_or_pos n with h0 | h0
   ·subst h0
    refine fin (w' := w) ?_ (Fr.refl _ _) horSame
    rw [hev]
    simp [Builtin.clear_, run_underlying ht, Result.andThen]
   ·have hflat := qc6 hs1
    have had : ad = ⟨bk, off * sz, none⟩ := by
     rcases had with q | q
     ·exact q
     ·omega
    subst had
    obtain ⟨zv, hzr, z1, z2⟩ := qr2 hz w
    have hone : ∀ u ∈ zv.cells.toList, u.oneCell' = true := fun u hu => by
     obtain ⟨j, hj, rfl⟩ := List.getElem_of_mem hu
     have hj' : j < zv.cells.size := by simpa using hj
     have hd : z[j]? = some (z[j]'(by omega)) := by simp
     have := z2 j zv.cells[j] _ (by simp) hd
     have h1 := qbes this
     have h2 := (qn5 (w := w) (X := fun _ => False) this).oneCell h1
     simpa using h2
    have hzs := qpy zv n
    rw [z1, hzl] at hzs
    have hmul : (off + n) * sz ≤ l.length * sz := Nat.mul_le_mul_right _ hok
    have hadd : (off + n) * sz = off * sz + n * sz := Nat.add_mul _ _ _
    have hst := run_storeCells_at C.P bk (off * sz) t' (Builtin.zeroCells zv.cells n).toList 0 cs w h4 (by simp [hzs]; omega) (qzu _ _ hone)
    simp only [Nat.add_zero] at hst
    generalize hcs' : ((cs.toList.take (off * sz) ++ (Builtin.zeroCells zv.cells n).toList ++ cs.toList.drop (off * sz + (Builtin.zeroCells zv.cells n).toList.length)).toArray) = cs' at hst
    have hsize : cs'.size = cs.size := by
     rw [← hcs']
     simp [hzs]
     omega
    refine fin (w' := w.setRow bk cs') ?_ (ql0 h4 hb cs' hsize) ?_
    ·rw [hev]
     obtain ⟨n', rfl⟩ : ∃ n', n = n' + 1 := ⟨n - 1, by omega⟩
     simp [Builtin.clear_, run_underlying ht, hzr, hst, Result.andThen]
    ·have hfr : Fr (fun b => bt id = some b) w (w.setRow bk cs') := ql0 h4 hb cs' hsize
     have hext := hfr.ext.mono (fun b hbt => qf6 (X0 := E.X0) (hp := s.hp) (bt := bt) (id := id) (by rw [hlive]; rfl) hbt)
     refine ⟨hsz0, hfits, .inr ⟨bk, cs', hb, setRow_heap w bk cs cs' t' _ h4, (fun q => by cases q), ?_, fun j v d hj hd => ?_⟩⟩
     ·rw [qhn off hs1, List.length_take]; omega
     ·rw [qhn off hs1, List.getElem?_take] at hd
      split at hd
      ·rename_i hlt
       have hj2 : cs[j]? = some v := by
        rw [← hcs', List.getElem?_toArray, List.append_assoc, List.getElem?_append_left (by simp; omega), List.getElem?_take, if_pos hlt] at hj
        simpa using hj
       exact (h7 j v d hj2 hd).ext hext.same (fun _ _ hx => hx)
      ·cases hd
 ·subst ho0; subst hn0
  refine fin (w' := w) ?_ (Fr.refl _ _) ?_
  ·rw [hev]
   simp [Builtin.clear_, run_underlying ht, Result.andThen]
  ·refine ⟨hsz0, hfits, ?_⟩
   rcases hrest with ⟨h3, h4⟩ | ⟨bk', cs, h3, h4, h5, h6, h7⟩
   ·exact .inl ⟨h3, by simp⟩
   ·rw [hb] at h3; cases h3
end
end Go.Ev
namespace Go.Ev
section
variable {C : Cfg} {E : Env} {bt : Nat → Option Nat} {s : St} {a : Act} {w : World} {X : Nat → Prop} {nf : Nat → Prop} {P : Program}
theorem qoz {o : Oper} {src dst : TypeId} {x : Operand} (ho : o.op = .convert src dst x) {v : Value} {w' : World} (h : (convert src dst (a.eval x)).run P w = .ok v w') : (execOp a.eval o).run P w = .ok (.value v) w' := by
 simp only [execOp, ho, Sem.run_bind, h]; rfl
theorem Rel.alloc (h : Rel C E bt s a w) (o : Obj) : Rel C E bt s a (w.alloc o) := by
 have he := fun X => qx5 X w o
 exact ⟨h.df, h.sz, fun i v hv => (h.slots i v hv).ext (he _) (fun _ _ hx => hx) (fun _ _ => rfl) (fun _ hf => hf), fun id o' hid => (h.objs id o' hid).ext (he _) (fun _ _ hx => hx) (fun _ _ => rfl) (fun _ hf => hf) (qhu hid) (fun bk hbk => Go.RowKit.Below.heap_alloc w o bk ((h.objs id o' hid).lt hbk)), h.inj, h.own, h.nx, h.fr.trans (qod _ w o), h.pin⟩
theorem Rel.notX (h : Rel C E bt s a w) : ¬ Xs E.X0 s.hp bt w.heap.size := by
 rintro (hx | ⟨i, hl, hi⟩)
 ·have := E.hx _ hx; have := h.fr.ext.size; omega
 ·have := h.lt (qgs hl) hi; omega
theorem q5g {t : TypeId} {k : IntKind} (h : ckT P t = .int k) : P.underlying t = some (.int k) := by
 unfold ckT at h
 split at h
 ·cases h; assumption
 ·cases h
 ·split at h <;> cases h
 ·cases h
theorem qs6 {t : TypeId} (h : ckT P t = .str) : P.underlying t = some .string := by
 unfold ckT at h
 split at h
 ·cases h
 ·assumption
 ·split at h <;> cases h
 ·cases h
theorem qye {t : TypeId} (h : ckT P t = .bytes) : ∃ e, P.underlying t = some (.slice e) ∧ P.underlying e = some (.int .u8) := by
 unfold ckT at h
 split at h
 ·cases h
 ·cases h
 ·rename_i e he
  split at h
  ·exact ⟨e, he, by assumption⟩
  ·cases h
 ·cases h
theorem qbj (b : ByteArray) : (qic b).length = b.size := by unfold qic; rw [List.length_map, Array.length_toList]; rfl
theorem qtx (b : ByteArray) : flat (qic b) = qic b := by
 unfold qic
 generalize b.data.toList = l
 induction l with
 | nil => rfl
 | cons x l ih => rw [List.map_cons, qg4, ih]; rfl
theorem q5h : ∀ {l : List D}, l.all isU8 = true → flat l = l
 | [], _ => rfl
 | d :: l, h => by
   rw [List.all_cons, Bool.and_eq_true] at h
   rw [qg4, q5h h.2]
   have : d.cells = [d] := by
    cases d <;> first | rfl | cases h.1
   rw [this]; rfl
theorem qbqv {v : Value} {d : D} (h : RD w X v d) (hd : isU8 d = true) : ∃ n, v = .int .u8 n ∧ d = .i .u8 n := by
 cases h with
 | i k n =>
   unfold isU8 at hd
   split at hd
   ·rename_i e; cases e; exact ⟨_, rfl, rfl⟩
   ·cases hd
 | _ => cases hd
theorem qty : ∀ (ns : List Int) (r : ByteArray), ns.foldl (fun r n => r.push (UInt8.ofNat n.toNat)) r = ⟨r.data ++ (ns.map fun n => UInt8.ofNat n.toNat).toArray⟩
 | [], r => by simp
 | n :: l, r => by
   simp only [List.foldl_cons, List.map_cons]
   rw [qty l]
   simp [ByteArray.push]
theorem q6l {yv : Value} {ys : List D} {news : List Value} (h : Src P w X 1 yv ys news) (hu : ys.all isU8 = true) : ∃ ns : List Int, news = ns.map (Value.int .u8) ∧ ys = ns.map (D.i .u8) := by
 have hsz : news.length = ys.length := by rw [h.size, Nat.mul_one]
 have hrd := h.rd
 rw [q5h hu] at hrd
 clear h
 induction ys generalizing news with
 | nil => exact ⟨[], List.eq_nil_of_length_eq_zero (by simpa using hsz), rfl⟩
 | cons d l ih =>
   cases news with
   | nil => simp at hsz
   | cons v vs =>
     rw [List.all_cons, Bool.and_eq_true] at hu
     obtain ⟨n, e1, e2⟩ := qbqv (hrd 0 v d rfl rfl) hu.1
     obtain ⟨ns, e3, e4⟩ := ih hu.2 (by simpa using hsz) fun j v d hj hd => hrd (j + 1) v d (by simpa using hj) (by simpa using hd)
     exact ⟨n :: ns, by simp [e1, e3], by simp [e2, e4]⟩
theorem q6m (h : Rel C E bt s a w) {o : Oper} {src dst : TypeId} {x : Operand} (ho : o.op = .convert src dst x) {v : V} (hv : s.val x = some v) {r : Res} (hr : qlx C s src dst v = some r) (hok : r.ok) : Out C E o s a w r.dl := by
 have hval := qb0 h hv
 unfold qlx at hr
 split at hr
 ·rename_i k0 k kk n h1 h2
  rw [qe2 hr]
  have hs := q5g h1
  have hd := q5g h2
  have hd' := qcp hval
  generalize hvx : a.eval x = u at hd'
  cases hd'
  refine Out.same h (v := .int k (k.wrap n)) (qoz ho ?_) (fun y hy => by cases hy; exact .d _ _ (.i _ _))
  rw [hvx]
  simp [convert, run_underlying hs, run_underlying hd, Conv.intToInt]
 ·rename_i b h1 h2
  rw [qe2 hr]
  have hs := qs6 h1
  have hd := qs6 h2
  have hd' := qcp hval
  generalize hvx : a.eval x = u at hd'
  cases hd'
  refine Out.same h (v := .string b) (qoz ho ?_) (fun y hy => by cases hy; exact .d _ _ (.s _))
  rw [hvx]
  simp [convert, run_underlying hs, run_underlying hd]
 ·rename_i b h1 h2
  rw [qe2 hr]
  have hs := qs6 h1
  obtain ⟨e, hd, he⟩ := qye h2
  have hd' := qcp hval
  generalize hvx : a.eval x = u at hd'
  cases hd'
  have hrun := run_bytes_of_string (P := C.P) w src dst e b hs hd he
  have hr1 : Rel C E bt s a w.drew := h.heap rfl rfl rfl rfl
  have hr2 := hr1.alloc (.cells (bytesRow b (grownCap w b.size 0 e)) e ((bytesRow b (grownCap w b.size 0 e)).size, (bytesRow b (grownCap w b.size 0 e)).size + 1))
  have hge := grownCap_ge w b.size 0 e
  have hnew : (w.drew.alloc (.cells (bytesRow b (grownCap w b.size 0 e)) e ((bytesRow b (grownCap w b.size 0 e)).size, (bytesRow b (grownCap w b.size 0 e)).size + 1))).heap[w.heap.size]? = some (.cells (bytesRow b (grownCap w b.size 0 e)) e ((bytesRow b (grownCap w b.size 0 e)).size, (bytesRow b (grownCap w b.size 0 e)).size + 1)) := qoe w.drew _
  refine ⟨_, _, _, bt, qoz ho (by rw [hvx]; exact hrun), .inl rfl, hr2.pure o.dst (fun y hy => ?_)⟩
  cases hy
  have key : RD (w.drew.alloc (.cells (bytesRow b (grownCap w b.size 0 e)) e ((bytesRow b (grownCap w b.size 0 e)).size, (bytesRow b (grownCap w b.size 0 e)).size + 1))) (Xs E.X0 s.hp bt) (.slice (some ⟨w.heap.size, 0, none⟩) (qic b).length (grownCap w b.size 0 e)) (.sl 1 (qic b)) := ?_
  ·rw [qbj] at key
   exact .d _ _ key
  refine .sl _ _ 1 (qic b) (fun j => .int .u8 (((b.data.toList.getD j 0).toNat : Nat) : Int)) (by rw [qbj]; exact hge) (by omega) (fun d hd => ?_) (fun _ => ⟨rfl, h.notX⟩) (fun j d hj => ?_) (fun j d hj => ?_)
  ·unfold qic at hd
   obtain ⟨y, _, rfl⟩ := List.mem_map.1 hd
   exact ⟨rfl, by simp [D.cells, D.one]⟩
  ·rw [qtx] at hj
   have hjl : j < b.data.size := by
    have := (List.getElem?_eq_some_iff.1 hj).1
    rw [qbj] at this; exact this
   unfold World.cell?
   rw [Nat.zero_add]
   simp only [hnew, Option.isSome_none, Bool.false_eq_true, if_false]
   unfold bytesRow
   rw [Array.getElem?_append_left (by simpa using hjl)]
   simp only [Array.getElem?_map, Array.getElem?_eq_getElem hjl, Option.map_some, List.getD_eq_getElem?_getD, Array.getElem?_toList, Option.getD_some]
  ·rw [qtx] at hj
   unfold qic at hj
   rw [List.getElem?_map, Option.map_eq_some_iff] at hj
   obtain ⟨y, hy, rfl⟩ := hj
   rw [List.getD_eq_getElem?_getD, hy, Option.getD_some]
   exact .i _ _
 ·rename_i h1 h2
  obtain ⟨e, hs, he⟩ := qye h1
  have hd := qs6 h2
  split at hr
  ·rename_i ds rd hel
   cases hr
   have hu : ds.all isU8 = true := hok
   obtain ⟨news, hsrc⟩ := qz9 h hval hel
   obtain ⟨ns, rfl, rfl⟩ := q6l hsrc hu
   have hsd : strD (ns.map (D.i .u8)) = ⟨(ns.map fun n => UInt8.ofNat n.toNat).toArray⟩ := by
    unfold strD
    rw [List.map_map]; rfl
   have hconv : (convert src dst (a.eval x)).run C.P w = .ok (.string (strD (ns.map (D.i .u8)))) w := by
    have hl := hsrc.len w
    have hf := hsrc.first w rfl
    generalize a.eval x = yv at hl hf hval
    cases yv with
    | slice p n c =>
      rw [run_convert_bytes_string w src dst e p n c hs he hd]
      simp only [Builtin.lenOf, Sem.run_pure, Result.ok.injEq, and_true] at hl
      cases p with
      | none =>
        simp only [Builtin.firstCells, Sem.run_pure, Result.ok.injEq, and_true] at hf
        have : ns = [] := by
         have := congrArg Array.size hf
         simpa using this.symm
        subst this
        have : strD (([] : List Int).map (D.i .u8)) = ByteArray.empty := rfl
        rw [this]
        simp [Conv.bytesToString]
      | some ad =>
        have hf2 : (loadCells ad (ns.length * 1)).run C.P w = .ok (ns.map (Value.int .u8)).toArray w := by simpa [Builtin.firstCells] using hf
        rw [Nat.mul_one] at hf2
        have hn : n = ns.length := by simpa using hl
        subst hn
        rw [run_bytesToString w ad _ c ns hf2, qty, hsd]
        simp [ByteArray.empty, ByteArray.emptyWithCapacity]
        rfl
    | string q =>
      exfalso
      cases hval with
      | d _ x hh => cases hh; cases hel
      | opt _ g x h1 h2 => cases hel
    | _ => exfalso; simp [Builtin.lenOf, Sem.run, stuck] at hl
   exact Out.same h (qoz ho hconv) (fun y hy => by cases hy; exact .d _ _ (.s _))
  ·cases hr
 ·cases hr
theorem q6n {o : Oper} {t : TypeId} {x y : Operand} (ho : o.op = .makeSlice t x y) {v : Value} {w' : World} (h : (Instr.makeSlice t (a.eval x) (a.eval y)).run P w = .ok v w') : (execOp a.eval o).run P w = .ok (.value v) w' := by
 simp only [execOp, ho, Sem.run_bind, h]; rfl
theorem q4g (h : Rel C E bt s a w) {o : Oper} {t : TypeId} {x y : Operand} (ho : o.op = .makeSlice t x y) {n c : V} (hn : s.val x = some n) (hc : s.val y = some c) {r : Res} (hr : qly C s o.dst t n c = some r) (hok : r.ok) : Out C E o s a w r.dl := by
 have hvn := qb0 h hn
 have hvc := qb0 h hc
 unfold qly at hr
 split at hr
 ·rename_i e k1 p k2 q he
  split at hr
  ·rename_i sz by_ z hsz hby hz
   split at hr
   ·rename_i hzl
    obtain ⟨hfree, rfl⟩ := qhh hr
    obtain ⟨h0, rfl, hb, h62, hcells, hone⟩ := hok
    obtain ⟨i, zv, hq, hzv, z1, z2⟩ := qkz hz
    obtain ⟨i2, hi2, hi2s⟩ := qqc hsz
    rw [hq] at hi2; cases hi2
    have hib : i.bytes = by_ := by
     unfold qdp at hby; rw [hq] at hby; simpa using hby
    have hun := qcp hvn
    have huc := qcp hvc
    generalize hx : a.eval x = ux at hun
    generalize hy : a.eval y = uy at huc
    cases hun; cases huc
    have hrun := run_make (P := C.P) w t e i zv (qkd he) hq hzv k1 k2 p p h0 (Int.le_refl _) (by rw [hib]; have : (by_ : Int) * p = p * (by_ : Int) := Int.mul_comm _ _; omega) (by omega)
    have hfits : (zD C.P e).fits (sz + 1) := ⟨by rw [hcells, hzl], fun c hc => by rw [hcells] at hc; exact List.all_eq_true.1 hone c hc⟩
    have hsz1 : (madeCells zv.cells (p.toNat * i.size)).size = p.toNat * (sz + 1) := by rw [size_madeCells, hi2s]
    have hrep : (List.replicate p.toNat (zD C.P e)).length = p.toNat := List.length_replicate
    have hm := quh h hfree (w' := w) rfl rfl rfl rfl (t := e) (cs := madeCells zv.cells (p.toNat * i.size)) (l := List.replicate p.toNat (zD C.P e)) (sz := sz + 1) (cap := p.toNat) (z := false) (Nat.succ_pos _)
     (fun d hd => by rw [(List.mem_replicate.1 hd).2]; exact hfits) (fun hh => by cases hh) (by rw [hrep]; exact Nat.le_refl _) hsz1
     (qx9 (Nat.succ_pos _) (fun d hd => by rw [(List.mem_replicate.1 hd).2]; exact hfits.1) (fun q d c v e' hd hc hv he' => by
       have hd' := (List.mem_replicate.1 (List.mem_of_getElem? hd)).2
       subst hd'
       have hql : q < p.toNat := by rw [← hrep]; exact (List.getElem?_eq_some_iff.1 hd).1
       have hzc : zv.cells.size = sz + 1 := by omega
       have hlt : q * (sz + 1) + c < p.toNat * i.size := by
        rw [hi2s]
        calc q * (sz + 1) + c < q * (sz + 1) + (sz + 1) := by omega
         _ = (q + 1) * (sz + 1) := by rw [Nat.add_mul, Nat.one_mul]
         _ ≤ p.toNat * (sz + 1) := Nat.mul_le_mul_right _ hql
       unfold madeCells at hv
       rw [Array.getElem?_map, Array.getElem?_range, if_pos hlt] at hv
       simp only [Option.map_some, Option.some.injEq] at hv
       rw [hzc] at hv
       have hmod : (q * (sz + 1) + c) % (sz + 1) = c := by rw [Nat.add_comm, Nat.add_mul_mod_self_right]; exact Nat.mod_eq_of_lt hc
       rw [hmod, getElem!_pos zv.cells c (by omega)] at hv
       rw [hcells] at he'
       have := z2 c zv.cells[c] e' (by simp [hzc, hc]) he'
       rw [← hv]
       exact qn5 this)) []
    rw [hrep] at hm
    exact ⟨_, _, _, _, q6n ho (by rw [hx, hy]; exact hrun), .inl rfl, hm⟩
   ·cases hr
  ·cases hr
 ·cases hr
end
end Go.Ev
namespace Go.Ev
section
variable {C : Cfg} {E : Env} {bt : Nat → Option Nat} {s : St} {a : Act} {w : World} {X : Nat → Prop} {nf : Nat → Prop} {P : Program}
def qld (P : Program) (f : FuncId) : Prop := ∃ fn, P.funcs[f]? = some fn ∧ fn.body.isSome = true ∧ (fn.name == "runtime.NumGoroutine") = false
theorem qmd {f : FuncId} (h : qld P f) (args : Array Value) : (callFunc f args).run P w = .ok (.enter f args) w := by
 obtain ⟨fn, h1, h2, h3⟩ := h
 have h2' : ¬ fn.body = none := by
  intro hb; rw [hb] at h2; cases h2
 have h3' : ¬ fn.name = "runtime.NumGoroutine" := by simpa using h3
 simp [callFunc, h1, h2', h3']
theorem q00n {t : TypeId} (h : qdt P t = true) : P.underlying t = some .string := by
 unfold qdt at h
 split at h
 ·assumption
 ·cases h
theorem qme {t e : TypeId} (h : P.underlying t = some (.slice e)) : P.underlying t = some (.slice (P.elem t)) := by
 rw [h]; simp [Program.elem, h]
theorem qbev {t : TypeId} {v : Value} {x : V} {n : Nat} (hv : VR w X bt nf v x) (hn : lenOf P t x = some n) (ty : TypeId) :
 (Builtin.len_ #[t] ty #[v]).run P w = .ok (.int .i64 n) w := by
 unfold lenOf at hn
 split at hn
 ·split at hn
  ·rename_i hs
   cases hn
   have := qcp hv; cases this
   exact run_len_string w t ty _ (q00n hs)
  ·cases hn
 ·split at hn
  ·rename_i hs
   cases hn
   obtain ⟨e, he⟩ := qk0 hs
   have := qcp hv; cases this
   exact run_len_slice w t ty _ _ _ (qme he)
  ·cases hn
 ·split at hn
  ·rename_i hs
   cases hn
   obtain ⟨e, he⟩ := qk0 hs
   have := qcp hv
   rcases q00g this with ⟨ad, c, rfl⟩ | ⟨rfl, rfl⟩
   ·exact run_len_slice w t ty _ _ _ (qme he)
   ·exact run_len_slice w t ty _ _ _ (qme he)
  ·cases hn
 ·split at hn
  ·rename_i hs
   cases hn
   obtain ⟨e, he⟩ := qk0 hs
   cases hv
   ·exact run_len_slice w t ty _ _ _ (qme he)
   ·exact run_len_slice w t ty _ _ _ (qme he)
  ·cases hn
 ·cases hn
theorem qbaq {args : Array Operand} {vs : List V} (h : Rel C E bt s a w) (hv : vals s args.toList = some vs) : (args.map a.eval).size = vs.length ∧
 ∀ (j : Nat) (v : Value) (x : V), (args.map a.eval)[j]? = some v → vs[j]? = some x → VR w (Xs E.X0 s.hp bt) bt (Nf s.hp) v x := by
 obtain ⟨h1, h2⟩ := ql1 hv
 refine ⟨by simpa using h1.symm, fun j v x hj hx => ?_⟩
 simp only [Array.getElem?_map, Option.map_eq_some_iff] at hj
 obtain ⟨y, hy, rfl⟩ := hj
 obtain ⟨x', hx', hval⟩ := h2 j y (by simpa using hy)
 rw [hx] at hx'; cases hx'
 exact qb0 h hval
theorem qbi9 {args : Array Operand} {v : V} (hv : vals s args.toList = some [v]) : ∃ x, args = #[x] ∧ s.val x = some v := by
 obtain ⟨h1, h2⟩ := ql1 hv
 obtain ⟨l⟩ := args
 match l, h1, h2 with
 | [x], _, h2 =>
   obtain ⟨v', hv', he⟩ := h2 0 x rfl
   cases hv'
   exact ⟨x, rfl, he⟩
theorem q6o {args : Array Operand} {v u : V} (hv : vals s args.toList = some [v, u]) : ∃ x y, args = #[x, y] ∧ s.val x = some v ∧ s.val y = some u := by
 obtain ⟨h1, h2⟩ := ql1 hv
 obtain ⟨l⟩ := args
 match l, h1, h2 with
 | [x, y], _, h2 =>
   obtain ⟨v', hv', he⟩ := h2 0 x rfl
   obtain ⟨u', hu', he'⟩ := h2 1 y rfl
   cases hv'; cases hu'
   exact ⟨x, y, rfl, he, he'⟩
theorem q5i {α : Type} {ts : Array α} {t : α} (h : ts.toList = [t]) : ts = #[t] := by obtain ⟨l⟩ := ts; simp at h; simp [h]
theorem qbl7 {α : Type} {ts : Array α} {t u : α} (h : ts.toList = [t, u]) : ts = #[t, u] := by obtain ⟨l⟩ := ts; simp at h; simp [h]
theorem qzv (h : Rel C E bt s a w) {o : Oper} {b : Builtin} {args : Array Operand} {ts : Array TypeId} (ho : o.op = .call ⟨.builtin b, args, ts⟩) {vs : List V} (hv : vals s args.toList = some vs)
 {r : Res} (hr : qkn C s o.dst b ts.toList vs = some r) (hok : r.ok) : Out C E o s a w r.dl := by
 unfold qkn at hr
 split at hr
 ·rename_i t v hts
  obtain ⟨x, rfl, hx⟩ := qbi9 hv
  have := q5i hts; subst this
  split at hr
  ·rename_i n hn
   rw [qe2 hr]
   refine Out.same h (v := .int .i64 n) (qkp ho ?_) (fun y hy => by cases hy; exact .d _ _ (.i _ _))
   have := qbev (P := C.P) (qb0 h hx) hn o.type
   simp only [builtin, List.map_toArray, List.map_cons, List.map_nil, Sem.run_bind, this, Result.andThen_ok, Sem.run_pure]
  ·split at hr
   ·rename_i q ks vs' rd hm hmo
    cases hr
    obtain ⟨kt, et⟩ := q
    refine Out.same h (v := .int .i64 ks.length) (qkp ho ?_) (fun y hy => by cases hy; exact .d _ _ (.i _ _))
    have : (Builtin.len_ #[t] o.type #[a.eval x]).run C.P w = .ok (.int .i64 ks.length) w := by
     rcases quj h (qb0 h hx) hmo with ⟨e, rfl, rfl⟩ | ⟨bk, es, clock, e, hb, e1, _⟩
     ·rw [e]
      simp [Builtin.len_, run_underlying (qjw hm), goInt]
     ·rw [e, ← e1]
      simp [Builtin.len_, run_underlying (qjw hm), MapKept.run_getObj_map hb, goInt, Result.andThen]
    simp only [builtin, List.map_toArray, List.map_cons, List.map_nil, Sem.run_bind, this, Result.andThen_ok, Sem.run_pure]
   ·cases hr
 ·rename_i t1 t2 x y hts
  obtain ⟨ox, oy, rfl, hx, hy⟩ := q6o hv
  have := qbl7 hts; subst this
  exact q00b h ho hx hy hr hok
 ·rename_i t v hts
  obtain ⟨x, rfl, hx⟩ := qbi9 hv
  have := q5i hts; subst this
  split at hr
  ·rename_i id sz off n e he
   split at hr
   ·rename_i t' sz' zb l sz'' z hl hsz hz
    split at hr
    ·rename_i hc
     obtain ⟨rfl, rfl, hzl, hd⟩ := hc
     cases hr
     exact q4f h ho hx he hl hz hzl hd hok
    ·cases hr
   ·cases hr
  ·cases hr
 ·rename_i k a' k' b'
  split at hr
  ·rename_i hk
   subst hk
   rw [qe2 hr]
   obtain ⟨x, y, rfl, hx, hy⟩ := q6o hv
   have vx := qcp (qb0 h hx)
   have vy := qcp (qb0 h hy)
   generalize hvx : a.eval x = ux at vx
   generalize hvy : a.eval y = uy at vy
   cases vx; cases vy
   refine Out.same h (v := .int k (if b' < a' then b' else a')) (qkp ho ?_) (fun y hy => by cases hy; exact .d _ _ (.i _ _))
   simp only [builtin, List.map_toArray, List.map_cons, List.map_nil, hvx, hvy, Sem.run_bind, run_min_int2, Result.andThen_ok, Sem.run_pure]
  ·cases hr
 ·rename_i k a' k' b'
  split at hr
  ·rename_i hk
   subst hk
   rw [qe2 hr]
   obtain ⟨x, y, rfl, hx, hy⟩ := q6o hv
   have vx := qcp (qb0 h hx)
   have vy := qcp (qb0 h hy)
   generalize hvx : a.eval x = ux at vx
   generalize hvy : a.eval y = uy at vy
   cases vx; cases vy
   refine Out.same h (v := .int k (if a' < b' then b' else a')) (qkp ho ?_) (fun y hy => by cases hy; exact .d _ _ (.i _ _))
   simp only [builtin, List.map_toArray, List.map_cons, List.map_nil, hvx, hvy, Sem.run_bind, run_max_int2, Result.andThen_ok, Sem.run_pure]
  ·cases hr
 ·cases hr
structure TEnter (C : Cfg) : Prop where
 t : ∀ f args r, C.T f args = some r → qld C.P f
 i : ∀ f x, C.ti f = some x → qld C.P f
theorem q6p {q : Bool} {dst : Option Tmp} {f : FuncId} {vs : List V} {r : Res} (hr : qha C q s dst f vs = some r) : ∃ os r', C.T f os = some r' := by
 unfold qha at hr
 split at hr
 ·cases hr
 ·split at hr
  ·cases hr
  ·rename_i r' h
   exact ⟨_, _, h⟩
theorem qbar (hE : TEnter C) {q : Bool} {dst : Option Tmp} {f : FuncId} {vs : List V} {r : Res} (hr : qf5 C q s dst f vs = some r) : qld C.P f := by
 unfold qf5 at hr
 split at hr
 ·obtain ⟨os, r', h⟩ := q6p hr
  exact hE.t f os r' h
 ·rename_i h
  exact hE.i f _ h
theorem qvl (hT : TOk C) (hE : TEnter C) (h : Rel C E bt s a w) {q : Bool} {o : Oper} {x : Operand} {args : Array Operand} {ts : Array TypeId} (ho : o.op = .call ⟨.value x, args, ts⟩)
 {f : FuncId} {caps : Array Value} {cs : List V} (hx : a.eval x = .func (.func f) #[] caps) (hn : caps.size = cs.length)
 (hc : ∀ (j : Nat) (v : Value) (y : V), caps[j]? = some v → cs[j]? = some y → VR w (Xs E.X0 s.hp bt) bt (Nf s.hp) v y)
 {vs : List V} (hv : vals s args.toList = some vs) {r : Res} (hr : qf5 C q s o.dst f (vs ++ cs) = some r) (hpok : r.ok)
 (next : Act → World → Prop) (Q : Exit → Act → World → Prop) (hk : ∀ bt' a' w', Rel C E bt' (r.dl.app C o.dst s) a' w' → next a' w') : o.wp C.P a w next Q := by
 have hex : (execOp a.eval o).run C.P w = .ok (.enter f (args.map a.eval ++ caps)) w := by
  simp only [execOp, ho, resolve, Deferred.ofValue, hx, Sem.run_bind, Sem.run_pure, Result.andThen_ok, invoke, Array.empty_append]
  exact qmd (qbar hE hr) _
 unfold Oper.wp
 rw [hex]
 obtain ⟨a1, a2⟩ := qbaq h hv
 have hc' := q6j hT h (q := q) (dst := o.dst) (f := f) (vs := vs ++ cs) (args := args.map a.eval ++ caps) (by simp [hn, ← a1]) (fun j v y hj hy => by
  by_cases hlt : j < vs.length
  ·rw [Array.getElem?_append_left (by omega)] at hj
   rw [List.getElem?_append_left hlt] at hy
   exact a2 j v y hj hy
  ·rw [Array.getElem?_append_right (by omega)] at hj
   rw [List.getElem?_append_right (by omega)] at hy
   rw [a1] at hj
   exact hc _ v y hj hy) hr hpok
 refine Calls.mono hc' fun e w' he => ?_
 obtain ⟨v, bt', rfl, hrel⟩ := he
 exact hk _ _ _ hrel
theorem qbas (hT : TOk C) (hE : TEnter C) (h : Rel C E bt s a w) {q : Bool} {o : Oper} {r : Res} (hr : aop C q o s = some r) (hok : r.ok)
 (next : Act → World → Prop) (Q : Exit → Act → World → Prop) (hk : ∀ bt' a' w', Rel C E bt' (r.dl.app C o.dst s) a' w' → next a' w') : o.wp C.P a w next Q := by
 have hr0 := hr
 unfold aop at hr
 split at hr
 ·rename_i x ho; exact (qve h (.inl ho) hr).wp next Q hk
 ·rename_i x ho; exact (qve h (.inr ho) hr).wp next Q hk
 ·rename_i c x y ho; exact (q6f h ho hr0 hok).wp next Q hk
 ·rename_i t ho
  split at hr
  ·rename_i z hz; exact (q38 h ho hz hr).wp next Q hk
  ·cases hr
 ·rename_i t x ho
  split at hr
  ·rename_i v hv
   simp only [Option.bind_eq_some_iff] at hr
   obtain ⟨c, hc, hr⟩ := hr
   exact (qbaj h ho hv hc hr).wp next Q hk
  ·cases hr
 ·rename_i t x ho; exact (q6g h ho hr0 hok).wp next Q hk
 ·rename_i t x y ho; exact (q4a h ho hr0 hok).wp next Q hk
 ·rename_i x ho; exact (qw9 h ho hr0).wp next Q hk
 ·rename_i op t x y ty ho
  split at hr
  ·rename_i u v hu hv; exact (qbao h ho hu hv hr hok).wp next Q hk
  ·cases hr
 ·rename_i op t x ho; exact (q6h h ho hr0).wp next Q hk
 ·rename_i t x f ho; exact (qvf h ho hr0).wp next Q hk
 ·rename_i t x f ho; exact (q4b h ho hr0).wp next Q hk
 ·rename_i t x y ho; exact (qvg h ho hr0 hok).wp next Q hk
 ·rename_i t x y ho; exact (q4c h ho hr0 hok).wp next Q hk
 ·rename_i t parts ho
  split at hr
  ·rename_i z pl hz hpl
   simp only [Option.bind_eq_some_iff] at hr
   obtain ⟨c, hc, hr⟩ := hr
   rw [qe2 hr] at hk
   exact (q39 h ho hz hpl hc).wp next Q hk
  ·cases hr
 ·rename_i t n parts ho
  split at hr
  ·rename_i e he
   split at hr
   ·rename_i sz z vs hsz hz hvs
    split at hr
    ·rename_i ds hds
     split at hr
     ·rename_i hcond
      exact (qui h ho he hsz hz hvs hds hcond.1 hcond.2.1 hcond.2.2 hr hok).wp next Q hk
     ·cases hr
    ·cases hr
   ·cases hr
  ·cases hr
 ·rename_i t x lo hi mx ho; exact (q4d h ho hr0 hok).wp next Q hk
 ·rename_i x i ho; exact (qzs h ho hr0).wp next Q hk
 ·rename_i f first caps ho; exact (qxa h ho hr0).wp next Q hk
 ·rename_i t ho; exact (qzt h ho hr).wp next Q hk
 ·rename_i t x y cm ho
  split at hr
  ·rename_i u v hu hv; exact (q00m h ho hu hv hr hok).wp next Q hk
  ·cases hr
 ·rename_i t x y z ho
  split at hr
  ·rename_i u v q hu hv hq; exact (qvk h ho hu hv hq hr hok).wp next Q hk
  ·cases hr
 ·rename_i src dst x ho
  split at hr
  ·rename_i v hv; exact (q6m h ho hv hr hok).wp next Q hk
  ·cases hr
 ·rename_i t x y ho
  split at hr
  ·rename_i n c hn hc; exact (q4g h ho hn hc hr hok).wp next Q hk
  ·cases hr
 ·rename_i c ho
  obtain ⟨callee, args, ts⟩ := c
  split at hr
  ·cases hr
  ·rename_i vs hvs
   split at hr
   ·rename_i b hb
    simp only at hb
    subst hb
    exact (qzv h ho hvs hr hok).wp next Q hk
   ·rename_i x hb
    simp only at hb
    subst hb
    split at hr
    ·rename_i f ds hx
     have hv := qcp (qb0 h hx)
     generalize hvx : a.eval x = ux at hv
     cases hv with
     | fn _ cs _ hn hh =>
       refine qvl hT hE h ho hvx (by simpa using hn) (fun j v y hj hy => ?_) hvs hr hok next Q hk
       simp only [List.getElem?_map, Option.map_eq_some_iff] at hy
       obtain ⟨d, hd, rfl⟩ := hy
       exact .d _ _ (hh j v d hj hd)
    ·rename_i f caps hx
     have hv := qb0 h hx
     generalize hvx : a.eval x = ux at hv
     cases hv with
     | fn _ cs _ hn hh => exact qvl hT hE h ho hvx hn hh hvs hr hok next Q hk
    ·cases hr
   ·cases hr
 ·cases hr
end
end Go.Ev
namespace Go.Ev
section
variable {C : Cfg} {E : Env} {bt : Nat → Option Nat} {s : St} {a : Act} {w : World} {X : Nat → Prop} {nf : Nat → Prop} {P : Program}
def Wk (s s' : St) : Prop := s'.hp = s.hp ∧ ∀ i v, s'.sl i = some v → ∃ v', s.sl i = some v' ∧ ∀ w X bt nf u, VR w X bt nf u v' → VR w X bt nf u v
theorem Wk.refl (s : St) : Wk s s := ⟨rfl, fun _ v h => ⟨v, h, fun _ _ _ _ _ h => h⟩⟩
theorem Rel.wk {s' : St} (h : Rel C E bt s a w) (hw : Wk s s') : Rel C E bt s' a w := by
 obtain ⟨sl, hp⟩ := s
 obtain ⟨sl', hp'⟩ := s'
 obtain ⟨e, hw⟩ := hw
 simp only at e hw
 subst e
 exact ⟨h.df, h.sz, fun i v hv => let ⟨v', h1, h2⟩ := hw i v hv; h2 _ _ _ _ _ (h.slots i v' h1), h.objs, h.inj, h.own, h.nx, h.fr, h.pin⟩
theorem Wk.app {s s' : St} (hw : Wk s s') (dst : Option Tmp) (δ : Delta) : Wk (δ.app C dst s) (δ.app C dst s') := by
 obtain ⟨e, hw⟩ := hw
 refine ⟨by simp [Delta.app, e], fun i v hv => ?_⟩
 cases dst with
 | none => exact hw i v hv
 | some d =>
   simp only [Delta.app, qg6] at hv ⊢
   by_cases hi : i = d
   ·subst hi
    simp only [if_true] at hv ⊢
    exact ⟨v, hv, fun _ _ _ _ _ h => h⟩
   ·simp only [hi, if_false] at hv ⊢
    exact hw i v hv
theorem qi7 (g : Bool) : ∀ (l : List Operand) (s : St), (g = true → (qfj g s l).1 → Wk (qfj g s l).2 s) ∧ ((qfj g s l).2.hp = s.hp) ∧
 (g = true → (qfj g s l).1 → ∀ {bt a w}, Rel C E bt s a w → Rel C E bt (qfj g s l).2 a w)
 | [], s => ⟨fun _ _ => Wk.refl s, rfl, fun _ _ _ _ _ h => h⟩
 | .tmp t :: r, s => by
   unfold qfj
   split
   ·rename_i g' v hs
    have ih := qi7 g r ⟨fun i => if i = t then some v else s.sl i, s.hp⟩
    obtain ⟨i1, i2, i3⟩ := ih
    refine ⟨fun hg hp => ⟨i2.symm, fun i x hx => ?_⟩, i2, fun hg hp bt a w h => i3 hg hp.2 ?_⟩
    ·by_cases hi : i = t
     ·subst hi
      rw [hs] at hx; cases hx
      obtain ⟨v', h1, h2⟩ := (i1 hg hp.2).2 i v (by simp)
      exact ⟨v', h1, fun w X bt nf u hh => .opt _ _ _ (fun _ => h2 w X bt nf u hh) fun e => by rw [hp.1 hg] at e; cases e⟩
     ·exact (i1 hg hp.2).2 i x (by simpa [hi] using hx)
    ·refine ⟨h.df, h.sz, fun i x hx => ?_, h.objs, h.inj, h.own, h.nx, h.fr, h.pin⟩
     by_cases hi : i = t
     ·subst hi
      simp only [if_true, Option.some.injEq] at hx
      subst hx
      have hv := h.slots i _ hs
      show VR w _ bt _ (a.tmps.getD i undef) v
      generalize a.tmps.getD i undef = u at hv ⊢
      cases hv with
      | opt _ _ _ hh _ => exact hh (hp.1 hg)
     ·exact h.slots i x (by simpa [hi] using hx)
   ·exact qi7 g r s
 | .const _ :: r, s => qi7 g r s
 | .global _ :: r, s => qi7 g r s
 | .func _ :: r, s => qi7 g r s
theorem qxe (hT : TOk C) (hE : TEnter C) (h : Rel C E bt s a w) {q : Bool} {o : Oper} {r : Res} (hr : aopU C q true o s = some r) (hok : r.ok)
 (next : Act → World → Prop) (Q : Exit → Act → World → Prop) (hk : ∀ bt' a' w', Rel C E bt' (r.dl.app C o.dst s) a' w' → next a' w') : o.wp C.P a w next Q := by
 unfold aopU at hr
 split at hr
 ·exact qbas hT hE h hr hok next Q hk
 ·simp only [Option.map_eq_some_iff] at hr
  obtain ⟨r', hr', rfl⟩ := hr
  obtain ⟨u1, u2, u3⟩ := qi7 (C := C) (E := E) true o.op.operands.toList s
  exact qbas hT hE (u3 rfl hok.1 h) hr' hok.2 next Q fun bt' a' w' hh => hk bt' a' w' (hh.wk ((u1 rfl hok.1).app o.dst r'.dl))
theorem qyf {tmps : Array Value} {t : Nat} {b : Bool} (h : tmps.getD t undef = .bool b) : tmps[t]? = some (.bool b) := by
 by_cases hl : t < tmps.size
 ·simp [Array.getD, hl] at h
  simp [hl, h]
 ·simp [Array.getD, hl, undef] at h
theorem qxf (hT : TOk C) (hE : TEnter C) (h : Rel C E bt s a w) {q : Bool} {ops : Array Oper} {o : Oper} {r : Res} (hr : aop1 C q ops o s = some r) (hok : r.ok)
 (next : Act → World → Prop) (Q : Exit → Act → World → Prop) (hk : ∀ bt' a' w', Rel C E bt' (r.dl.app C o.dst s) a' w' → next a' w') :
 if Region.wanted o (yielded ops a.tmps) then o.wp C.P a w next Q ∨ (o.asks C.P a w ∧ LetsOut Q) else next (a.put o.dst undef) w := by
 unfold aop1 at hr
 split at hr
 ·rename_i hg
  rw [if_pos (by simp [Region.wanted, hg])]
  exact .inl (qxe hT hE h hr hok next Q hk)
 ·rename_i j want hg
  split at hr
  rotate_left
  ·cases hr
  rename_i g hgv
  have hw : Region.wanted o (yielded ops a.tmps) = g := by
   unfold qml at hgv
   split at hgv
   ·rename_i x hx
    simp only [Option.bind_eq_some_iff] at hx
    obtain ⟨t, ht, hx⟩ := hx
    have hv := qcp (h.slots t _ hx)
    generalize hvx : a.tmps.getD t undef = ux at hv
    cases hv
    have hy : yielded ops a.tmps j = some x := by
     unfold qgk at ht
     simp [yielded, ht, qyf hvx]
    cases hgv
    simp only [Region.wanted, hg, hy]
    cases x <;> cases want <;> rfl
   ·rename_i g' x hx
    simp only [Option.bind_eq_some_iff] at hx
    obtain ⟨t, ht, hx⟩ := hx
    have hv := h.slots t _ hx
    generalize hvx : a.tmps.getD t undef = ux at hv
    cases hgv
    cases hv with
    | opt _ _ _ hh hb =>
      cases g' with
      | true =>
        have hv := qcp (hh rfl)
        cases hv
        have hy : yielded ops a.tmps j = some x := by
         unfold qgk at ht
         simp [yielded, ht, qyf hvx]
        simp only [Region.wanted, hg, hy]
        cases x <;> cases want <;> rfl
      | false =>
        have hy : yielded ops a.tmps j = none := by
         unfold qgk at ht
         unfold yielded
         rw [ht]
         simp only [Option.bind_some]
         split
         ·rename_i b hb'
          refine absurd ?_ (hb rfl b)
          rw [← hvx]
          by_cases hl : t < a.tmps.size
          ·simp [hl] at hb'
           simp [Array.getD, hl, hb']
          ·simp [hl] at hb'
         ·rfl
        simp only [Region.wanted, hg, hy]
        cases want <;> rfl
   ·cases hgv
  rw [hw]
  have skip : ∀ {y : Option V} {rd : List Nat}, (∀ z, y = some z → ∃ v, z = .opt false v) → Rel C E bt (Delta.app C o.dst ⟨[], y, rd⟩ s) (a.put o.dst undef) w := by
   intro y rd hy
   refine h.pure o.dst fun z hz => ?_
   obtain ⟨v, rfl⟩ := hy z hz
   exact .opt _ _ _ (fun e => by cases e) (fun _ b e => by simp [undef] at e)
  unfold qht at hr
  split at hr
  ·rename_i ok v rd hra
   cases hr
   cases g
   ·rw [if_neg (by simp)]
    exact hk _ _ _ (skip fun z hz => ⟨v, by cases hz; rfl⟩)
   ·rw [if_pos rfl]
    refine .inl (qxe hT hE h hra (hok rfl) next Q fun bt' a' w' hh => hk bt' a' w' (hh.wk ⟨rfl, fun i z hz => ?_⟩))
    cases hd : o.dst with
    | none => rw [hd] at hz; exact ⟨z, hz, fun _ _ _ _ _ h => h⟩
    | some d =>
      rw [hd] at hz
      simp only [Delta.app, qg6] at hz ⊢
      by_cases hi : i = d
      ·subst hi
       simp only [if_true] at hz ⊢
       split at hz
       ·rename_i hlt
        cases hz
        refine ⟨v, by simp [hlt], fun _ _ _ _ _ hh => .opt _ _ _ (fun _ => hh) fun e => by cases e⟩
       ·cases hz
      ·simp only [hi, if_false] at hz ⊢
       exact ⟨z, hz, fun _ _ _ _ _ h => h⟩
  ·cases g
   ·rw [if_neg (by simp)]
    cases hr
    exact hk _ _ _ (skip fun z hz => by cases hz)
   ·rw [if_pos rfl]
    exact .inl (qxe hT hE h hr hok next Q hk)
theorem q5j (hT : TOk C) (hE : TEnter C) {ops : Array Oper} (Q : Exit → Act → World → Prop) : ∀ (l : List Oper) {bt : Nat → Option Nat} {s : St} {a : Act} {w : World} {p : Prop} {s' : St}, Rel C E bt s a w → aops C ops l s = some (p, s') → p →
 (∀ bt' a' w', Rel C E bt' s' a' w' → Q .normal a' w') → wpList C.P ops Q l a w
 | [], bt, s, a, w, p, s', h, hr, hp, hk => by
   cases hr
   exact hk _ _ _ h
 | o :: l, bt, s, a, w, p, s', h, hr, hp, hk => by
   unfold aops at hr
   split at hr
   ·cases hr
   ·rename_i r hr1
    split at hr
    ·cases hr
    ·rename_i p' s'' hr2
     cases hr
     unfold wpList
     exact qxf hT hE h hr1 hp.1 _ Q fun bt' a' w' hh => q5j hT hE Q l hh hr2 hp.2 hk
end
end Go.Ev
namespace Go.Ev
section
variable {C : Cfg} {s s' : St}
def qew (s s' : St) (l : List Nat) : Prop := ∀ id ∈ l, s'.hp id = s.hp id
def qif (s s' : St) (l : List Operand) : Prop := ∀ t, Operand.tmp t ∈ l → s'.sl t = s.sl t
theorem qmp {x : Operand} (h : ∀ t, x = .tmp t → s'.sl t = s.sl t) : s'.val x = s.val x := by
 cases x with
 | tmp t => exact h t rfl
 | _ => rfl
theorem qna : ∀ {l : List Operand}, qif s s' l → vals s' l = vals s l
 | [], _ => rfl
 | x :: l, h => by
   simp only [vals]
   rw [qmp (s := s) (s' := s') (x := x) (fun t e => h t (by simp [e])), qna fun t ht => h t (by simp [ht])]
theorem qi8 {id : Nat} (h : s'.hp id = s.hp id) : qgj s' id = qgj s id := by simp [qgj, h]
theorem qjf {id : Nat} (h : s'.hp id = s.hp id) : qgz s' id = qgz s id := by simp [qgz, h]
theorem qtz {id : Nat} (h : s'.hp id = s.hp id) : qib s' id = qib s id := by simp [qib, h]
theorem qnb {v : V} {d : D} {is : List Nat} (h : toD1 s v = some (d, is)) (hs : qew s s' is) : toD1 s' v = some (d, is) := by
 unfold toD1 at h ⊢
 split at h
 ·exact h
 ·rename_i id sz off n
  split at h
  ·rename_i x1 x2 x3 hr
   split at h
   ·rename_i hc
    cases h
    rw [qi8 (hs _ (by simp)), hr]
    simp [hc]
   ·cases h
  ·cases h
 ·cases h
theorem qkq {f f' : V → Option (D × List Nat)} (hf : ∀ {v d is}, f v = some (d, is) → qew s s' is → f' v = some (d, is)) :
 ∀ {l : List V} {xs : List D} {is : List Nat}, toDs f l = some (xs, is) → qew s s' is → toDs f' l = some (xs, is)
 | [], xs, is, h, _ => h
 | v :: l, xs, is, h, hs => by
   unfold toDs at h ⊢
   split at h
   ·rename_i x i ys js h1 h2
    cases h
    rw [hf h1 fun k hk => hs k (by simp [hk]), qkq hf h2 fun k hk => hs k (by simp [hk])]
   ·cases h
theorem qr3 {v : V} {d : D} {is : List Nat} (h : toD2 s v = some (d, is)) (hs : qew s s' is) : toD2 s' v = some (d, is) := by
 unfold toD2 at h ⊢
 split at h
 ·simp only [Option.map_eq_some_iff] at h
  obtain ⟨⟨xs, js⟩, h1, h2⟩ := h
  cases h2
  simp only [qkq qnb h1 hs, Option.map_some]
 ·rename_i id off
  split at h
  ·rename_i c hc
   simp only [Option.map_eq_some_iff] at h
   obtain ⟨⟨xs, js⟩, h1, h2⟩ := h
   cases h2
   rw [qtz (hs _ (by simp)), hc]
   simp only [qkq qnb h1 fun k hk => hs k (by simp [hk]), Option.map_some]
  ·cases h
 ·rename_i id sz j off
  split at h
  ·rename_i x1 x2 x3 hr
   split at h
   ·rename_i hc
    simp only [Option.map_eq_some_iff] at h
    obtain ⟨d', h1, h2⟩ := h
    cases h2
    rw [qi8 (hs _ (by simp)), hr]
    simp [hc, h1]
   ·cases h
  ·cases h
 ·exact qnb h hs
theorem qvm {id : Nat} (h : s'.hp id = s.hp id) : qnr s' id = qnr s id := by simp [qnr, h]
theorem qyg {v : V} {d : D} {is : List Nat} (h : toD3 s v = some (d, is)) (hs : qew s s' is) : toD3 s' v = some (d, is) := by
 unfold toD3 at h ⊢
 split at h
 ·simp only [Option.map_eq_some_iff] at h
  obtain ⟨⟨xs, js⟩, h1, h2⟩ := h
  cases h2
  simp only [qkq qr3 h1 hs, Option.map_some]
 ·split at h
  ·rename_i ks vs hm
   simp only [Option.map_eq_some_iff] at h
   obtain ⟨⟨xs, js⟩, h1, h2⟩ := h
   cases h2
   rw [qvm (hs _ (by simp)), hm]
   simp only [qkq qr3 h1 fun k hk => hs k (by simp [hk]), Option.map_some]
  ·cases h
 ·exact qr3 h hs
theorem qnu {sz : Nat} {v : V} {l : List D} {is : List Nat} (h : qmb s sz v = some (l, is)) (hs : qew s s' is) : qmb s' sz v = some (l, is) := by
 unfold qmb at h ⊢
 split at h
 ·exact h
 ·exact h
 ·split at h
  ·rename_i x1 x2 x3 hr
   split at h
   ·rename_i hc
    cases h
    rw [qi8 (hs _ (by simp)), hr]
    simp [hc]
   ·cases h
  ·cases h
 ·cases h
theorem qr4 {t sz : Nat} {v : V} {o : O} {id : Option Nat} (h : qhp s t sz v = some (o, id)) (hs : ∀ i, id = some i → s'.hp i = s.hp i) : qhp s' t sz v = some (o, id) := by
 unfold qhp at h ⊢
 split at h
 ·exact h
 ·split at h
  ·rename_i x1 x2 x3 x4 hr
   split at h
   ·rename_i hc
    cases h
    rw [qjf (hs _ rfl), hr]
    simp [hc]
   ·cases h
  ·cases h
 ·cases h
def qvn (s s' : St) (tk : List (Option Nat)) : Prop := ∀ i, some i ∈ tk → s'.hp i = s.hp i
theorem qj7 {mv : List (Nat × TypeId × Nat)} : ∀ {l : List V} {j : Nat} {os : List O} {rd : List Nat} {tk : List (Option Nat)}, qgh s mv j l = some (os, rd, tk) → qew s s' rd → qvn s s' tk →
 qgh s' mv j l = some (os, rd, tk)
 | [], j, os, rd, tk, h, _, _ => h
 | v :: l, j, os, rd, tk, h, hr, ht => by
   unfold qgh at h ⊢
   split at h
   ·cases h
   ·rename_i os' rd' tk' h1
    split at h
    ·rename_i t sz hm
     split at h
     ·rename_i o id h2
      cases h
      rw [qj7 h1 hr fun i hi => ht i (by simp [hi])]
      simp only
      rw [qr4 h2 fun i hi => ht i (by simp [hi])]
     ·cases h
    ·rename_i hm
     split at h
     ·rename_i x is h2
      cases h
      rw [qj7 h1 (fun i hi => hr i (by simp [hi])) ht]
      simp only
      rw [qnb h2 fun i hi => hr i (by simp [hi])]
     ·cases h
theorem qbat {mv : List (Nat × TypeId × Nat)} {v : V} {o : O} {rd : List Nat} {tk : List (Option Nat)} (h : argO s mv v = some (o, rd, tk)) (hr : qew s s' rd) (ht : qvn s s' tk) : argO s' mv v = some (o, rd, tk) := by
 unfold argO at h ⊢
 split at h
 ·simp only [Option.map_eq_some_iff] at h
  obtain ⟨⟨x, is⟩, h1, h2⟩ := h
  cases h2
  simp only [qyg h1 hr, Option.map_some]
 ·split at h
  ·split at h
   ·split at h
    ·rename_i hob
     split at h
     ·rename_i et
      simp only [Option.map_eq_some_iff] at h
      obtain ⟨⟨x, is, k⟩, h1, h2⟩ := h
      cases h2
      rw [ht _ (by simp), hob]
      simp only [et, if_true, qj7 h1 hr (fun i hi => ht i (by simp [hi])), Option.map_some]
     ·cases h
    ·cases h
   ·cases h
  split at h
  ·simp only [Option.map_eq_some_iff] at h
   obtain ⟨⟨x, is, k⟩, h1, h2⟩ := h
   cases h2
   simp only [qj7 h1 hr ht, Option.map_some]
  ·simp only [Option.map_eq_some_iff] at h
   obtain ⟨⟨x, is, k⟩, h1, h2⟩ := h
   cases h2
   simp only [qj7 h1 hr ht, Option.map_some]
  ·simp only [Option.map_eq_some_iff] at h
   obtain ⟨⟨x, id⟩, h1, h2⟩ := h
   cases h2
   simp only [qr4 h1 fun i hi => ht i (by simp [hi]), Option.map_some]
theorem qnv {mv : Nat → List (Nat × TypeId × Nat)} : ∀ {l : List V} {j : Nat} {os : List O} {rd : List Nat} {tk : List (Option Nat)}, qg7 s mv j l = some (os, rd, tk) → qew s s' rd → qvn s s' tk →
 qg7 s' mv j l = some (os, rd, tk)
 | [], j, os, rd, tk, h, _, _ => h
 | v :: l, j, os, rd, tk, h, hr, ht => by
   unfold qg7 at h ⊢
   split at h
   ·rename_i o rd1 tk1 os' rd2 tk2 h1 h2
    cases h
    rw [qbat h1 (fun i hi => hr i (by simp [hi])) fun i hi => ht i (by simp [hi]), qnv h2 (fun i hi => hr i (by simp [hi])) fun i hi => ht i (by simp [hi])]
   ·cases h
def Delta.foot (d : Delta) : List Nat := d.rd ++ d.hp.map (·.1)
theorem qi9 {dst : Option Tmp} {ok : Prop} {o : Obj'} {v : V} {r : Res} (h : newObj s dst ok o v = some r) (hs : qew s s' r.dl.foot) : newObj s' dst ok o v = some r := by
 obtain ⟨h1, rfl⟩ := qhh h
 unfold newObj at h ⊢
 split at h
 ·rw [hs _ (by simp [Delta.foot])]; exact h
 ·cases h
theorem q4h {dz : TypeId → D} {g : Bool} {n : Nat} {p : V} {r : Res} (h : loadAt dz s g n p = some r) (hs : qew s s' r.dl.foot) : loadAt dz s' g n p = some r := by
 unfold loadAt at h ⊢
 split at h
 ·split at h
  ·rename_i c hc
   simp only [Option.map_eq_some_iff] at h
   obtain ⟨v, h1, rfl⟩ := h
   rw [qtz (hs _ (by simp [Delta.foot])), hc]
   simp [h1]
  ·cases h
 ·split at h
  ·rename_i x1 x2 x3 x4 hr
   split at h
   ·rename_i hc
    cases h
    rw [qi8 (hs _ (by simp [Delta.foot])), hr]
    simp [hc]
   ·cases h
  ·cases h
 ·exact h
 ·cases h
theorem q00o {dz : TypeId → D} {n : Nat} {p x : V} {r : Res} (h : storeAt dz s n p x = some r) (hs : qew s s' r.dl.foot) : storeAt dz s' n p x = some r := by
 unfold storeAt at h ⊢
 split at h
 ·cases h
 ·rename_i xc hx
  split at h
  ·cases h
  ·rename_i hc0
   simp only [hc0, if_false]
   split at h
   ·split at h
    ·rename_i t c hl
     split at h
     ·rename_i hc
      cases h
      rw [hs _ (by simp [Delta.foot]), hl]
      simp [hc]
     ·cases h
    ·cases h
   ·split at h
    ·rename_i t sz' z l xs hl hd
     split at h
     ·rename_i hc
      cases h
      rw [hs _ (by simp [Delta.foot]), hl, qkq qnb hd fun k hk => by simp at hk]
      simp only [hc.1, hc.2.1, hc.2.2.1, hc.2.2.2, and_self, if_true]
     ·cases h
    ·cases h
   ·cases h
theorem qt0 {x y : V} {rd : List Nat} (h : qmc s x = some (y, rd)) (hs : qew s s' rd) : qmc s' x = some (y, rd) := by
 unfold qmc at h ⊢
 split at h
 ·exact h
 ·exact h
 ·split at h
  ·rename_i x1 x2 x3 x4 hr
   split at h
   ·rename_i hc
    cases h
    rw [qi8 (hs _ (by simp)), hr]
    simp only [hc.1, hc.2.1, hc.2.2, and_self, if_true]
   ·cases h
  ·cases h
 ·cases h
theorem q4i {op : BinOp} {t : TypeId} {x y : V} {r : Res} (h : qm7 C s op t x y = some r) (hs : qew s s' r.dl.foot) : qm7 C s' op t x y = some r := by
 unfold qm7 at h ⊢
 split at h
 ·exact h
 ·exact h
 ·exact h
 ·exact h
 ·split at h
  ·rename_i hc
   simp only [hc, if_true]
   split at h
   ·rename_i v rd hn
    cases h
    rw [qt0 hn fun k hk => hs k (by simp [Delta.foot, hk])]
   ·rename_i v rd hn
    cases h
    rw [qt0 hn fun k hk => hs k (by simp [Delta.foot, hk])]
   ·cases h
  ·cases h
 ·exact h
 ·cases h
theorem qnw {x : Option Operand} {z : Int} (h : qif s s' x.toList) : qhq s' x z = qhq s x z := by
 cases x with
 | none => rfl
 | some o => simp only [qhq]; rw [qmp (s := s) fun t e => h t (by simp [e])]
theorem qzw {n : Nat} {x : V} {lo hi mx : Option Operand} {r : Res} (h1 : qif s s' lo.toList) (h2 : qif s s' hi.toList) (h3 : qif s s' mx.toList)
 (h : qls s n x lo hi mx = some r) (hs : qew s s' r.dl.foot) : qls s' n x lo hi mx = some r := by
 unfold qls at h ⊢
 have hm : ∀ {m}, mx = some m → s'.val m = s.val m := fun {m} e => qmp fun t ht => h3 t (by simp [e, ht])
 simp only [qnw h1, qnw h2]
 split at h
 ·exact h
 ·split at h
  ·rename_i hc
   rw [if_pos hc]
   split at h
   ·exact h
   ·rename_i m hl hh
    rw [hm rfl]
    exact h
   ·cases h
  ·cases h
 ·rename_i id sz off k
  split at h
  ·rename_i x1 x2 x3 x4 l hh hr hl hhi
   split at h
   ·rename_i hc
    cases h
    rw [qi8 (hs _ (by simp [Delta.foot])), hr]
    simp only [hl, hhi]
    rw [if_pos hc]
   ·cases h
  ·rename_i x1 x2 x3 x4 l hh m hr hl hhi
   split at h
   ·rename_i mm hmm
    split at h
    ·rename_i hc
     cases h
     rw [qi8 (hs _ (by simp [Delta.foot])), hr]
     simp only [hl, hhi, hm rfl, hmm]
     rw [if_pos hc]
    ·cases h
   ·cases h
  ·cases h
 ·cases h
theorem qxg {b : ByteArray} {lo hi mx : Option Operand} {r : Res} (h1 : qif s s' lo.toList) (h2 : qif s s' hi.toList)
 (h : qkk s b lo hi mx = some r) : qkk s' b lo hi mx = some r := by
 unfold qkk at h ⊢
 simp only [qnw h1, qnw h2]
 exact h
theorem qxh {dst : Option Tmp} {ts tx : TypeId} {x y : V} {r : Res} (h : qkl C s dst ts tx x y = some r) (hs : qew s s' r.dl.foot) : qkl C s' dst ts tx x y = some r := by
 unfold qkl at h ⊢
 split at h
 ·cases h
 ·rename_i e he
  split at h
  ·rename_i sz by_ zl h1 h2 h3 h4
   split at h
   ·cases h
   ·rename_i hz
    simp only [hz, if_false]
    split at h
    ·cases h
    ·rename_i ys rd hel
     split at h
     ·simp only [Option.map_eq_some_iff] at h
      obtain ⟨r', hr', rfl⟩ := h
      rw [qnu hel fun k hk => hs k (by simp [Delta.foot, hk])]
      simp only [qi9 hr' fun k hk => hs k (by
       obtain ⟨_, rfl⟩ := qhh hr'
       simpa [Delta.foot] using Or.inr (by simpa [Delta.foot] using hk)), Option.map_some]
     ·split at h
      ·cases h
      ·rename_i t sz'' z l hl
       split at h
       ·rename_i hc
        split at h
        ·rename_i hn
         split at h
         ·cases h
         ·rename_i hrd
          simp only [Option.map_eq_some_iff] at h
          obtain ⟨r', hr', rfl⟩ := h
          rw [qnu hel fun k hk => hs k (by simp [Delta.foot, hk]), qjf (hs _ (by simp [Delta.foot])), hl]
          have := qi9 (s' := s') hr' fun k hk => hs k (by
           obtain ⟨_, rfl⟩ := qhh hr'
           simp [Delta.foot] at hk
           simp [Delta.foot, hk])
          simp only [hc.1, hc.2.1, hc.2.2.1, hc.2.2.2, and_self, if_true, hn, hrd, this, Option.map_some]
          simp
        ·rename_i hn
         cases h
         rw [qnu hel fun k hk => hs k (by simp [Delta.foot, hk]), qjf (hs _ (by simp [Delta.foot])), hl]
         simp only [hc.1, hc.2.1, hc.2.2.1, hc.2.2.2, and_self, if_true, hn, if_false]
       ·cases h
     ·cases h
  ·cases h
theorem qrl {dst : Option Tmp} {f : FuncId} {vs : List V} {r : Res} (h : qha C true s dst f vs = some r) (hs : qew s s' r.dl.foot) : qha C true s' dst f vs = some r := by
 unfold qha at h ⊢
 split at h
 ·cases h
 ·rename_i os rd tks ha
  split at h
  ·cases h
  ·rename_i p r' hT
   simp only at h
   generalize hF : (if rd.filter (fun id => (s.hp id).isLive) = [] ∨ r'.flat = true then [] else rd.filter (fun id => (s.hp id).isLive)) = fz at h
   split at h
   ·cases h
   ·rename_i hc
    have hsub : ∀ k ∈ fz, k ∈ rd := fun k hk => by
     rw [← hF] at hk
     split at hk
     ·cases hk
     ·exact (List.mem_filter.1 hk).1
    have hdl : r.dl.rd = rd ∧ (∀ i ∈ tks.filterMap id, i ∈ r.dl.hp.map (·.1)) ∧ ∀ d, dst = some d → ∀ p ∈ (inO (16 * d) r').2.1, p.1 ∈ r.dl.hp.map (·.1) := by
     have hk : ∀ i ∈ tks.filterMap id, i ∈ (qe5 s fz (tks.filterMap id)).map (·.1) := fun i hi => by
      simp only [qe5, List.map_append, List.map_map, List.mem_append]
      exact .inr (List.mem_map.2 ⟨i, hi, rfl⟩)
     split at h
     ·split at h
      ·simp only [Option.some.injEq] at h; rw [← h]
       exact ⟨rfl, hk, fun d e => by cases e⟩
      ·cases h
     ·split at h
      ·cases h
      ·split at h
       ·simp only [Option.some.injEq] at h; rw [← h]
        refine ⟨rfl, fun i hi => ?_, fun d e p hp => ?_⟩
        ·rw [List.map_append]; exact List.mem_append_left _ (hk i hi)
        ·cases e; rw [List.map_append]; exact List.mem_append_right _ (List.mem_map.2 ⟨p, hp, rfl⟩)
       ·split at h
        ·split at h
         ·simp only [Option.some.injEq] at h; rw [← h]
          refine ⟨rfl, fun i hi => ?_, fun d e p hp => ?_⟩
          ·rw [List.map_append, List.map_append]; exact List.mem_append_right _ (List.mem_append_left _ (hk i hi))
          ·cases e; rw [List.map_append, List.map_append]; exact List.mem_append_right _ (List.mem_append_right _ (List.mem_map.2 ⟨p, hp, rfl⟩))
         ·cases h
        ·cases h
    have hrd : qew s s' rd := fun k hk => hs k (by simp [Delta.foot, hdl.1, hk])
    have hta : qvn s s' tks := fun i hi => hs i (List.mem_append_right _ (hdl.2.1 i (List.mem_filterMap.2 ⟨some i, hi, rfl⟩)))
    rw [qnv ha hrd hta]
    have hfl : rd.filter (fun id => (s'.hp id).isLive) = rd.filter (fun id => (s.hp id).isLive) := List.filter_congr fun k hk => by rw [hrd k hk]
    have hcall : ∀ z, qe5 s' fz z = qe5 s fz z := fun z => by
     unfold qe5
     congr 1
     exact List.map_congr_left fun k hk => by rw [hrd k (hsub k hk)]
    have hin : ∀ d, dst = some d → ((inO (16 * d) r').2.1.all fun p => (s'.hp p.1).isFree) = ((inO (16 * d) r').2.1.all fun p => (s.hp p.1).isFree) := fun d hd => by
     have e : ∀ p ∈ (inO (16 * d) r').2.1, s'.hp p.1 = s.hp p.1 := fun p hp => hs p.1 (List.mem_append_right _ (hdl.2.2 d hd p hp))
     rw [Bool.eq_iff_iff, List.all_eq_true, List.all_eq_true]
     exact ⟨fun hh p hp => by rw [← e p hp]; exact hh p hp, fun hh p hp => by rw [e p hp]; exact hh p hp⟩
    simp only [hT, hfl, hF]
    rw [if_neg hc]
    simp only [hcall]
    cases dst with
    | none => exact h
    | some d =>
      simp only at h ⊢
      rw [hin d rfl]
      exact h
theorem q00p {sz : Nat} {g : List D → Option (Prop × List D)} {vs : List V} {r : Res} (h : qir s sz g vs = some r) (hs : qew s s' r.dl.foot) : qir s' sz g vs = some r := by
 unfold qir at h ⊢
 split at h
 ·split at h
  ·rename_i hl
   split at h
   ·split at h
    ·cases h
     rw [qjf (hs _ (by simp [Delta.foot])), hl]
     simp only [*, and_self, if_true]
    ·cases h
   ·cases h
  ·cases h
 ·cases h
theorem q00q {sz : Nat} {g : List D → Option (Prop × List D)} {vs : List V} {dst : Option Tmp} {f : FuncId} {r : Res} (h0 : qir s sz g vs = none) (h : qha C true s dst f vs = some r) (hs : qew s s' r.dl.foot) : qir s' sz g vs = none := by
 cases h1 : qir s' sz g vs with
 | none => rfl
 | some r1 =>
   exfalso
   unfold qir at h0 h1
   split at h1
   ·rename_i id sz' off n
    split at h1
    ·rename_i t sz'' z l hl
     split at h1
     ·rename_i hc
      split at h1
      ·rename_i p l' hg
       -- the call looks at the row
       have hid : id ∈ r.dl.foot := by
        obtain ⟨e1, e2, e3, e4, e5⟩ := hc
        subst e1; subst e2; subst e3
        unfold qha at h
        split at h
        ·cases h
        ·rename_i os rd tks ha
         have hin : id ∈ rd ∨ some id ∈ tks := by
          unfold qg7 at ha
          split at ha
          ·rename_i o rd1 tk1 os' rd2 tk2 q1 q2
           cases ha
           have : id ∈ rd1 ∨ some id ∈ tk1 := by
            unfold argO at q1
            split at q1
            ·simp only [toD3, toD2, toD1, Option.map_eq_some_iff, Prod.mk.injEq] at q1
             obtain ⟨⟨d, is⟩, q3, _, q4, _⟩ := q1
             subst q4
             split at q3
             ·split at q3
              ·cases q3; exact .inl (by simp)
              ·cases q3
             ·cases q3
            ·split at q1
             ·cases q1
             ·simp only [Option.map_eq_some_iff, Prod.mk.injEq] at q1
              obtain ⟨⟨o', i'⟩, q3, _, _, q4⟩ := q1
              subst q4
              simp only [qhp] at q3
              split at q3
              ·split at q3
               ·cases q3; exact .inr (by simp)
               ·cases q3
              ·cases q3
           rcases this with q | q
           ·exact .inl (List.mem_append_left _ q)
           ·exact .inr (List.mem_append_left _ q)
          ·cases ha
         split at h
         ·cases h
         ·rename_i p2 r2 hT
          simp only at h
          split at h
          ·cases h
          ·have key : r.dl.rd = rd ∧ ∀ i ∈ tks.filterMap (fun x => x), i ∈ r.dl.hp.map (·.1) := by
            have hk : ∀ fz, ∀ i ∈ tks.filterMap (fun x => x), i ∈ (qe5 s fz (tks.filterMap (fun x => x))).map (·.1) := fun fz i hi => by
             simp only [qe5, List.map_append, List.map_map, List.mem_append]
             exact .inr (List.mem_map.2 ⟨i, hi, rfl⟩)
            (repeat' split at h) <;> first
              | cases h; done
              | (simp only [Option.some.injEq] at h; rw [← h]; refine ⟨rfl, fun i hi => ?_⟩; simp only [List.map_append, List.mem_append]; first | exact hk _ i hi | exact .inl (hk _ i hi) | exact .inr (.inl (hk _ i hi)))
           rcases hin with q | q
           ·exact List.mem_append_left _ (by rw [key.1]; exact q)
           ·exact List.mem_append_right _ (key.2 id (List.mem_filterMap.2 ⟨some id, q, rfl⟩))
       rw [qjf (hs id hid)] at hl
       simp only [hl, hc, and_self, if_true, hg] at h0
       cases h0
      ·cases h1
     ·cases h1
    ·cases h1
   ·cases h1
theorem qr5 {dst : Option Tmp} {f : FuncId} {vs : List V} {r : Res} (h : qf5 C true s dst f vs = some r) (hs : qew s s' r.dl.foot) : qf5 C true s' dst f vs = some r := by
 unfold qf5 at h ⊢
 split at h
 ·exact qrl h hs
 ·split at h
  ·rename_i r' ht
   cases h
   rw [q00p ht hs]
  ·rename_i ht
   rw [q00q ht h hs]
   exact qrl h hs
theorem qvo {m : V} {ks : List D} {vs : List V} {rd : List Nat} (h : qoy s m = some (ks, vs, rd)) (hs : qew s s' rd) : qoy s' m = some (ks, vs, rd) := by
 unfold qoy at h ⊢
 split at h
 ·exact h
 ·split at h
  ·rename_i e
   cases h
   rw [qvm (hs _ (by simp)), e]
  ·cases h
 ·cases h
theorem qxi {t : TypeId} {m k : V} {cm : Bool} {r : Res} (h : qjr C s t m k cm = some r) (hs : qew s s' r.dl.foot) : qjr C s' t m k cm = some r := by
 unfold qjr at h ⊢
 split at h
 rotate_left
 ·cases h
 split at h
 rotate_left
 ·cases h
 rename_i ks vs rd hz hmo
 have hrd : rd = r.dl.rd := by
  split at h
  ·split at h
   ·cases h
   ·cases h; rfl
  ·split at h
   ·split at h
    ·cases h; rfl
    ·cases h
   ·cases h
 rw [qvo hmo fun id hid => hs id (List.mem_append_left _ (hrd ▸ hid)), hz]
 exact h
theorem qts {t : TypeId} {m k v : V} {r : Res} (h : qhm C s t m k v = some r) (hs : qew s s' r.dl.foot) : qhm C s' t m k v = some r := by
 unfold qhm at h ⊢
 split at h
 rotate_left
 ·cases h
 split at h
 ·rename_i t' ks vs hl
  cases h
  rw [hs _ (by simp [Delta.foot]), hl]
 ·cases h
theorem qzx {dst : Option Tmp} {b : Builtin} {ts : List TypeId} {vs : List V} {r : Res} (h : qkn C s dst b ts vs = some r) (hs : qew s s' r.dl.foot) : qkn C s' dst b ts vs = some r := by
 unfold qkn at h ⊢
 split at h
 ·split at h
  ·exact h
  ·split at h
   ·rename_i ks vs' rd hm hmo
    cases h
    rw [qvo hmo fun id hid => hs id (List.mem_append_left _ hid), hm]
   ·cases h
 ·exact qxh h hs
 ·split at h
  ·split at h
   ·rename_i hl hsz hz
    split at h
    ·rename_i hc
     cases h
     rw [qjf (hs _ (by simp [Delta.foot])), hl]
     simp only [hz, hsz]
     rw [if_pos hc]
    ·cases h
   ·cases h
  ·cases h
 ·exact h
 ·exact h
 ·cases h
theorem qt1 (pl : List (Nat × Nat)) : ∀ (l : List (Nat × Operand)) (c : List V), qif s s' (l.map (·.2)) → qko s' pl c l = qko s pl c l
 | [], c, _ => rfl
 | (i, x) :: l, c, h => by
   simp only [qko]
   rw [qmp (s := s) (s' := s') (x := x) fun t e => h t (by simp [e])]
   split
   ·split
    ·exact qt1 pl l _ fun t ht => h t (by simp at ht ⊢; exact .inr ht)
    ·rfl
   ·rfl
theorem q00r {src dst : TypeId} {v : V} {r : Res} (h : qlx C s src dst v = some r) (hs : qew s s' r.dl.foot) : qlx C s' src dst v = some r := by
 unfold qlx at h ⊢
 split at h
 ·exact h
 ·exact h
 ·exact h
 ·split at h
  ·rename_i ds rd hel
   cases h
   rw [qnu hel fun id hid => hs id (List.mem_append_left _ hid)]
  ·cases h
 ·cases h
theorem q00s {dst : Option Tmp} {t : TypeId} {n c : V} {r : Res} (h : qly C s dst t n c = some r) (hs : qew s s' r.dl.foot) : qly C s' dst t n c = some r := by
 unfold qly at h ⊢
 split at h
 ·split at h
  ·split at h
   ·rename_i h1 h2 h3 hz
    rw [if_pos hz]
    exact qi9 h hs
   ·cases h
  ·cases h
 ·cases h
theorem qqj {o : Oper} {r : Res} (h : aop C true o s = some r) (ho : qif s s' o.op.operands.toList) (hs : qew s s' r.dl.foot) : aop C true o s' = some r := by
 have hv : ∀ {x : Operand}, x ∈ o.op.operands.toList → s'.val x = s.val x := fun {x} hx => qmp fun t e => ho t (e ▸ hx)
 unfold aop at h ⊢
 split at h
 ·rename_i x e; rw [hv (by simp [e, Op.operands])]; exact h
 ·rename_i x e; rw [hv (by simp [e, Op.operands])]; exact h
 ·rename_i c x y e
  rw [hv (x := c) (by simp [e, Op.operands]), hv (x := x) (by simp [e, Op.operands]), hv (x := y) (by simp [e, Op.operands])]
  exact h
 ·split at h
  ·exact qi9 h hs
  ·cases h
 ·rename_i t x e
  rw [hv (x := x) (by simp [e, Op.operands])]
  split at h
  ·simp only [Option.bind_eq_some_iff] at h ⊢
   obtain ⟨c, hc, h⟩ := h
   exact ⟨c, hc, qi9 h hs⟩
  ·cases h
 ·rename_i t x e
  rw [hv (x := x) (by simp [e, Op.operands])]
  split at h
  ·exact q4h h hs
  ·cases h
 ·rename_i t x y e
  rw [hv (x := x) (by simp [e, Op.operands]), hv (x := y) (by simp [e, Op.operands])]
  split at h
  ·exact q00o h hs
  ·cases h
 ·rename_i x e; rw [hv (x := x) (by simp [e, Op.operands])]; exact h
 ·rename_i op t x y ty e
  rw [hv (x := x) (by simp [e, Op.operands]), hv (x := y) (by simp [e, Op.operands])]
  split at h
  ·exact q4i h hs
  ·cases h
 ·rename_i op t x e; rw [hv (x := x) (by simp [e, Op.operands])]; exact h
 ·rename_i t x f e; rw [hv (x := x) (by simp [e, Op.operands])]; exact h
 ·rename_i t x f e; rw [hv (x := x) (by simp [e, Op.operands])]; exact h
 ·rename_i t x y e; rw [hv (x := x) (by simp [e, Op.operands]), hv (x := y) (by simp [e, Op.operands])]; exact h
 ·rename_i t x y e; rw [hv (x := x) (by simp [e, Op.operands]), hv (x := y) (by simp [e, Op.operands])]; exact h
 ·rename_i t parts e
  split at h
  ·rw [qt1 _ _ _ fun t ht => ho t (by simpa [e, Op.operands] using ht)]
   exact h
  ·cases h
 ·rename_i t n parts e
  split at h
  ·rw [qna fun t ht => ho t (by simpa [e, Op.operands] using ht)]
   split at h
   ·split at h
    ·rename_i ds hds
     split at h
     ·rename_i hc
      rw [qkq qyg hds fun k hk => by simp at hk]
      simp only []
      rw [if_pos hc]
      exact qi9 h hs
     ·cases h
    ·cases h
   ·cases h
  ·cases h
 ·rename_i t x lo hi mx e
  have e1 : qif s s' lo.toList := fun t ht => ho t (by cases lo <;> simp at ht; simp [e, Op.operands, ht])
  have e2 : qif s s' hi.toList := fun t ht => ho t (by cases hi <;> simp at ht; simp [e, Op.operands, ht])
  have e3 : qif s s' mx.toList := fun t ht => ho t (by cases mx <;> simp at ht; simp [e, Op.operands, ht])
  rw [hv (x := x) (by simp [e, Op.operands])]
  split at h
  ·exact qxg e1 e2 h
  ·split at h
   ·exact qzw e1 e2 e3 h hs
   ·cases h
  ·cases h
 ·rename_i x i e; rw [hv (x := x) (by simp [e, Op.operands])]; exact h
 ·rename_i f first caps e
  split at h
  ·rename_i hf
   rw [if_pos hf, qna (s := s) (s' := s') (l := caps.toList) fun t ht => ho t (by simp [e, Op.operands] at ht ⊢; exact .inr ht)]
   exact h
  ·cases h
 ·exact qi9 h hs
 ·rename_i t x y cm e
  rw [hv (x := x) (by simp [e, Op.operands]), hv (x := y) (by simp [e, Op.operands])]
  split at h
  ·exact qxi h hs
  ·cases h
 ·rename_i t x y z e
  rw [hv (x := x) (by simp [e, Op.operands]), hv (x := y) (by simp [e, Op.operands]), hv (x := z) (by simp [e, Op.operands])]
  split at h
  ·exact qts h hs
  ·cases h
 ·rename_i src dst x e
  rw [hv (x := x) (by simp [e, Op.operands])]
  split at h
  ·exact q00r h hs
  ·cases h
 ·rename_i t x y e
  rw [hv (x := x) (by simp [e, Op.operands]), hv (x := y) (by simp [e, Op.operands])]
  split at h
  ·exact q00s h hs
  ·cases h
 ·rename_i c e
  obtain ⟨callee, args, ts⟩ := c
  have hva : vals s' args.toList = vals s args.toList := qna fun t ht => ho t (by
   simp [e, Op.operands, Call.operands] at ht ⊢
   cases callee <;> simp [ht])
  simp only [hva]
  simp only at h
  split at h
  ·cases h
  ·rename_i vs hvs
   split at h
   ·exact qzx h hs
   ·rename_i x
    rw [hv (x := x) (by simp [e, Op.operands, Call.operands])]
    split at h
    ·exact qr5 h hs
    ·exact qr5 h hs
    ·cases h
   ·cases h
 ·cases h
end
end Go.Ev
namespace Go.Ev
section
variable {C : Cfg} {s s' : St}
theorem qkf {g : Bool} {T : Nat → Prop} : ∀ {l : List Operand} {s s' : St}, (∀ t, .tmp t ∈ l → T t) → (∀ t, T t → s'.sl t = s.sl t) →
 (qfj g s' l).1 = (qfj g s l).1 ∧ (∀ t, T t → (qfj g s' l).2.sl t = (qfj g s l).2.sl t) ∧ (qfj g s' l).2.hp = s'.hp ∧ (qfj g s l).2.hp = s.hp
 | [], s, s', _, h => ⟨rfl, h, rfl, rfl⟩
 | .tmp t :: r, s, s', hT, h => by
   have ht : s'.sl t = s.sl t := h t (hT t (by simp))
   unfold qfj
   rw [ht]
   split
   ·rename_i g' v hs
    have ih := qkf (g := g) (T := T) (l := r) (s := ⟨fun i => if i = t then some v else s.sl i, s.hp⟩) (s' := ⟨fun i => if i = t then some v else s'.sl i, s'.hp⟩)
     (fun t ht => hT t (by simp [ht])) (fun i hi => by
       by_cases e : i = t
       ·simp [e]
       ·simpa [e] using h i hi)
    obtain ⟨i1, i2, i3, i4⟩ := ih
    exact ⟨by simp only [i1], i2, i3, i4⟩
   ·exact qkf (fun t ht => hT t (by simp [ht])) h
 | .const _ :: r, s, s', hT, h => qkf (l := r) (fun t ht => hT t (by simp [ht])) h
 | .global _ :: r, s, s', hT, h => qkf (l := r) (fun t ht => hT t (by simp [ht])) h
 | .func _ :: r, s, s', hT, h => qkf (l := r) (fun t ht => hT t (by simp [ht])) h
theorem qr6 {g : Bool} {o : Oper} {r : Res} (h : aopU C true g o s = some r) (ho : qif s s' o.op.operands.toList) (hs : qew s s' r.dl.foot) : aopU C true g o s' = some r := by
 unfold aopU at h ⊢
 split at h
 ·rename_i hp; rw [if_pos hp]; exact qqj h ho hs
 ·rename_i hp
  rw [if_neg hp]
  simp only [Option.map_eq_some_iff] at h ⊢
  obtain ⟨r', hr', rfl⟩ := h
  obtain ⟨u1, u2, u3, u4⟩ := qkf (g := g) (T := fun t => Operand.tmp t ∈ o.op.operands.toList) (l := o.op.operands.toList) (s := s) (s' := s') (fun t ht => ht) ho
  exact ⟨r', qqj hr' (fun t ht => u2 t ht) (fun id hid => by rw [u3, u4]; exact hs id hid), by rw [u1]⟩
theorem Wk.none {dst : Option Tmp} {δ : Delta} (s : St) (h : δ.hp = []) : Wk (δ.app C dst s) (Delta.app C dst ⟨[], .none, []⟩ s) := by
 refine ⟨by simp [Delta.app, h, qbc], fun i v hv => ?_⟩
 cases dst with
 | none => exact ⟨v, hv, fun _ _ _ _ _ h => h⟩
 | some d =>
   simp only [Delta.app, qg6] at hv ⊢
   by_cases hi : i = d
   ·simp [hi] at hv
   ·simp only [hi, if_false] at hv ⊢
    exact ⟨v, hv, fun _ _ _ _ _ h => h⟩
theorem qbau {ops : Array Oper} {o : Oper} {r : Res} (h : aop1 C true ops o s = some r) (ho : ∀ t ∈ o.looksAt ops, s'.sl t = s.sl t) (hs : qew s s' r.dl.foot) :
 ∃ r', aop1 C true ops o s' = some r' ∧ (r.ok → r'.ok) ∧ Wk (r'.dl.app C o.dst s') (r.dl.app C o.dst s') := by
 have hop : qif s s' o.op.operands.toList := fun t ht => ho t (by
  unfold Oper.looksAt
  exact List.mem_append_left _ (List.mem_filterMap.2 ⟨.tmp t, ht, rfl⟩))
 unfold aop1 at h ⊢
 split at h
 ·exact ⟨r, qr6 h hop hs, id, Wk.refl _⟩
 ·rename_i j want hg
  have hgs : (qgk ops j).bind s'.sl = (qgk ops j).bind s.sl := by
   cases hb : qgk ops j with
   | none => rfl
   | some t =>
     simp only [Option.bind_some]
     refine ho t ?_
     unfold Oper.looksAt
     refine List.mem_append_right _ ?_
     unfold qgk at hb
     simp [hg, hb]
  rw [hgs]
  split at h
  rotate_left
  ·cases h
  rename_i g hx
  unfold qht at h
  split at h
  ·rename_i ok v rd hra
   cases h
   rw [qr6 hra hop hs]
   exact ⟨_, rfl, id, Wk.refl _⟩
  ·rename_i hne
   cases g
   ·simp only [Option.some.injEq] at h
    subst h
    unfold qht
    split
    ·refine ⟨_, rfl, (fun _ e => by cases e), ?_⟩
     exact Wk.none s' rfl
    ·exact ⟨_, rfl, id, Wk.refl _⟩
   ·simp only at h
    rw [qr6 h hop hs]
    refine ⟨r, ?_, id, Wk.refl _⟩
    unfold qht
    split
    ·rename_i ok v rd he
     cases he
     exact absurd h (hne ok v rd)
    ·rfl
def drun (C : Cfg) (ops : Array Oper) : List Oper → St → Option (List Res × St)
 | [], s => some ([], s)
 | o :: os, s => match aop1 C true ops o s with
   | none => none
   | some r => match drun C ops os (r.dl.app C o.dst s) with
     | none => none
     | some (rs, s') => some (r :: rs, s')
def ql2 (o : Oper) : List Nat := (o.after.toList.filter (Region.binds .any)).map (·.on)
def addN (r : List Nat) (j : Nat) : List Nat := bif r.contains j then r else j :: r
def befs : List (List Nat) → List Oper → List (List Nat)
 | acc, [] => acc
 | acc, o :: os => befs (acc ++ [((ql2 o).flatMap fun j => j :: acc.getD j []).foldl addN []]) os
def qvp (ops : List Oper) (bf : List (List Nat)) : Bool :=
 (List.range ops.length).all fun i => match ops[i]? with
   | some o => ((ql2 o).all fun j => decide (j < i)) && ((bf.getD i []).all fun j => (ql2 o).any fun k => k == j || (bf.getD k []).contains j)
   | none => true
def qvq (n : Nat) (bf : List (List Nat)) : List (Nat × Nat) :=
 (List.range n).flatMap fun j => ((List.range j).filter fun i => !(bf.getD j []).contains i).map fun i => (i, j)
def qs7 (ops : Array Oper) (p : Nat × Nat) : Bool := match ops[p.1]?, ops[p.2]? with
 | some x, some y => x.apart ops y
 | _, _ => true
def qs8 (ops : Array Oper) : List (Nat × Nat) := qvq ops.size (befs [] ops.toList)
def qr7 (ops : Array Oper) : Bool := qvp ops.toList (befs [] ops.toList) && (qs8 ops).all (qs7 ops)
def disj (a b : List Nat) : Bool := a.all fun x => !b.contains x
def qo0 (rs : List Res) : List (List Nat × List Nat) := rs.map fun r => (r.dl.rd, r.dl.hp.map (·.1))
def qbja (f : List (List Nat × List Nat)) (p : Nat × Nat) : Bool := match f[p.1]?, f[p.2]? with
 | some (ri, ki), some (rj, kj) => disj ki (rj ++ kj) && disj kj ri
 | _, _ => true
def qnc (un : List (Nat × Nat)) (f : List (List Nat × List Nat)) : Bool := (f.all fun x => x.2.isEmpty) || un.all (qbja f)
def oks : List Res → Prop
 | [] => True
 | r :: rs => r.ok ∧ oks rs
def qz1 (C : Cfg) (ops : Array Oper) (s : St) : Option (Prop × St) :=
 match qr7 ops with
 | false => none
 | true => match drun C ops ops.toList s with
   | none => none
   | some (rs, s') => match qnc (qs8 ops) (qo0 rs) with
     | false => none
     | true => some (oks rs, s')
def qg8 {β : Type} (δ : Nat → Nat → Option β) (L : Nat → Bool) (init : Nat → β) : Nat → Nat → β
 | 0, l => init l
 | n + 1, l => if L n then (δ n l).getD (qg8 δ L init n l) else qg8 δ L init n l
theorem qt2 {β : Type} {δ : Nat → Nat → Option β} {L : Nat → Bool} {init : Nat → β} {l j : Nat} (h1 : ∀ i, i < j → L i = false → δ i l = none) : ∀ n, j ≤ n → (∀ i, j ≤ i → i < n → L i = true → δ i l = none) →
 qg8 δ L init n l = qg8 δ (fun _ => true) init j l := by
 have low : ∀ m, m ≤ j → qg8 δ L init m l = qg8 δ (fun _ => true) init m l := by
  intro m hm
  induction m with
  | zero => rfl
  | succ m ih =>
    simp only [qg8, if_true]
    cases hL : L m
    ·simp [h1 m hm hL, ih (by omega)]
    ·simp [ih (by omega)]
 intro n hn h2
 induction n with
 | zero => have : j = 0 := by omega
           subst this; rfl
 | succ n ih =>
   by_cases e : j = n + 1
   ·subst e; exact low _ (Nat.le_refl _)
   ·simp only [qg8]
    cases hL : L n
    ·simpa using ih (by omega) fun i a b => h2 i a (by omega)
    ·simpa [h2 n (by omega) (by omega) hL] using ih (by omega) fun i a b => h2 i a (by omega)
theorem qm3 {β : Type} {δ : Nat → Nat → Option β} {L L' : Nat → Bool} {init : Nat → β} {l : Nat} : ∀ n, (∀ i, i < n → L i = L' i) → qg8 δ L init n l = qg8 δ L' init n l
 | 0, _ => rfl
 | n + 1, h => by simp only [qg8, h n (by omega), qm3 n fun i hi => h i (by omega)]
theorem qr8 {β : Type} {δ : Nat → Nat → Option β} {L L' : Nat → Bool} {init : Nat → β} {l j : Nat} (hj : L j = false) (hj' : L' j = true) (hL : ∀ i, i ≠ j → L' i = L i) : ∀ n, j < n →
 (∀ i, j < i → i < n → L i = true → (δ j l).isSome = true → δ i l = none) → qg8 δ L' init n l = (δ j l).getD (qg8 δ L init n l)
 | 0, h, _ => by omega
 | n + 1, h, h2 => by
   simp only [qg8]
   by_cases e : j = n
   ·subst e
    rw [hj, hj', qm3 j fun i hi => hL i (by omega)]
    simp
   ·have ih := qr8 hj hj' hL n (by omega) (init := init) fun i a b => h2 i a (by omega)
    rw [hL n (by omega), ih]
    cases hl : L n
    ·simp
    ·cases hd : δ j l with
     | none => simp
     | some x => simp [h2 n (by omega) (by omega) hl (by simp [hd])]
def lk : List (Nat × HS) → Nat → Option HS
 | [], _ => none
 | (j, o) :: r, i => if i = j then some o else lk r i
theorem quk (h : Nat → HS) : ∀ (l : List (Nat × HS)) (i : Nat), qbc h l i = (lk l i).getD (h i)
 | [], i => rfl
 | (j, o) :: r, i => by
   simp only [qbc, lk]
   split
   ·rfl
   ·exact quk h r i
theorem qbav {l : List (Nat × HS)} {i : Nat} (h : (lk l i).isSome = true) : i ∈ l.map (·.1) := by
 induction l with
 | nil => simp [lk] at h
 | cons p r ih =>
   obtain ⟨j, o⟩ := p
   simp only [lk] at h
   split at h
   ·rename_i e; simp [e]
   ·simp [ih h]
def dSl (C : Cfg) (dst : Option Tmp) (v : Option V) (t : Nat) : Option (Option V) := match dst with
 | some d => if t = d then some (if d < C.N then v else none) else none
 | none => none
theorem qyh (sl : Nat → Option V) (dst : Option Tmp) (v : Option V) (t : Nat) : qg6 C.N sl dst v t = (dSl C dst v t).getD (sl t) := by
 cases dst with
 | none => rfl
 | some d =>
   simp only [qg6, dSl]
   split <;> rfl
theorem q5k {dst : Option Tmp} {v : Option V} {t : Nat} (h : (dSl C dst v t).isSome = true) : dst = some t := by
 cases dst with
 | none => simp [dSl] at h
 | some d =>
   simp only [dSl] at h
   split at h
   ·rename_i e; rw [e]
   ·cases h
def δs (C : Cfg) (ops : Array Oper) (rs : List Res) (i t : Nat) : Option (Option V) := match ops[i]?, rs[i]? with
 | some o, some r => dSl C o.dst r.dl.v t
 | _, _ => none
def δh (rs : List Res) (i id : Nat) : Option HS := match rs[i]? with
 | some r => lk r.dl.hp id
 | none => none
def stOf (C : Cfg) (ops : Array Oper) (rs : List Res) (L : Nat → Bool) (s : St) (n : Nat) : St := ⟨qg8 (δs C ops rs) L s.sl n, qg8 (δh rs) L s.hp n⟩
theorem qyi {ops : Array Oper} : ∀ {l : List Oper} {s : St} {rs : List Res} {s' : St}, drun C ops l s = some (rs, s') → rs.length = l.length ∧
 ∃ S : Nat → St, S 0 = s ∧ S l.length = s' ∧ ∀ (i : Nat) (o : Oper) (r : Res), l[i]? = some o → rs[i]? = some r → aop1 C true ops o (S i) = some r ∧ S (i + 1) = r.dl.app C o.dst (S i)
 | [], s, rs, s', h => by
   cases h
   exact ⟨rfl, fun _ => s, rfl, rfl, fun i o r hi => by simp at hi⟩
 | o :: l, s, rs, s', h => by
   unfold drun at h
   split at h
   ·cases h
   ·rename_i r hr
    split at h
    ·cases h
    ·rename_i rs' s'' hd
     cases h
     obtain ⟨h1, S, h2, h3, h4⟩ := qyi hd
     refine ⟨by simp [h1], fun i => match i with | 0 => s | i + 1 => S i, rfl, by simpa using h3, fun i o' r' ho hr' => ?_⟩
     cases i with
     | zero => simp at ho hr'; subst ho; subst hr'; exact ⟨hr, h2⟩
     | succ i => simp at ho hr'; exact h4 i o' r' ho hr'
theorem qul {ops : Array Oper} {rs : List Res} {S : Nat → St} (hlen : rs.length = ops.size) (h4 : ∀ (i : Nat) (o : Oper) (r : Res), ops.toList[i]? = some o → rs[i]? = some r → aop1 C true ops o (S i) = some r ∧ S (i + 1) = r.dl.app C o.dst (S i)) :
 ∀ i, i ≤ ops.size → (∀ t, (S i).sl t = qg8 (δs C ops rs) (fun _ => true) (S 0).sl i t) ∧ (∀ t, (S i).hp t = qg8 (δh rs) (fun _ => true) (S 0).hp i t)
 | 0, _ => ⟨fun _ => rfl, fun _ => rfl⟩
 | i + 1, hi => by
   obtain ⟨i1, i2⟩ := qul hlen h4 i (by omega)
   have ho : ops[i]? = some ops[i] := by simp
   have hr : rs[i]? = some (rs[i]'(by omega)) := by simp
   obtain ⟨_, h5⟩ := h4 i ops[i] (rs[i]'(by omega)) (by simp) hr
   refine ⟨fun t => ?_, fun t => ?_⟩
   ·rw [h5]
    simp only [Delta.app, qyh, qg8, if_true, δs, ho, hr, i1]
   ·rw [h5]
    simp only [Delta.app, quk, qg8, if_true, δh, hr, i2]
theorem qyj {n i j : Nat} {bf : List (List Nat)} (hij : i < j) (hj : j < n) (h : i ∉ bf.getD j []) : (i, j) ∈ qvq n bf := by
 unfold qvq
 simp only [List.mem_flatMap, List.mem_range, List.mem_map, List.mem_filter]
 exact ⟨j, hj, i, ⟨hij, by simpa using h⟩, rfl⟩
theorem qvr {ops : List Oper} {bf : List (List Nat)} (h : qvp ops bf = true) {i : Nat} {o : Oper} (ho : ops[i]? = some o) :
 (∀ j ∈ ql2 o, j < i) ∧ ∀ j ∈ bf.getD i [], ∃ k ∈ ql2 o, k = j ∨ j ∈ bf.getD k [] := by
 unfold qvp at h
 rw [List.all_eq_true] at h
 have := h i (List.mem_range.2 (List.getElem?_eq_some_iff.1 ho).1)
 rw [ho] at this
 simp only [Bool.and_eq_true, List.all_eq_true, decide_eq_true_eq, List.any_eq_true, Bool.or_eq_true, beq_iff_eq, List.contains_iff_mem] at this
 exact this
def qbaw (ops : Array Oper) (L : Nat → Bool) : Prop := ∀ i o, ops[i]? = some o → L i = true → ∀ j ∈ ql2 o, L j = true
theorem qvs {ops : Array Oper} {bf : List (List Nat)} (hb : qvp ops.toList bf = true) {L : Nat → Bool} (hc : qbaw ops L) :
 ∀ (i : Nat) (o : Oper), ops[i]? = some o → (∀ j ∈ ql2 o, L j = true) → ∀ j ∈ bf.getD i [], L j = true := by
 intro i
 induction i using Nat.strongRecOn with
 | _ i ih =>
   intro o ho hl j hj
   obtain ⟨h1, h2⟩ := qvr hb (by simpa using ho : ops.toList[i]? = some o)
   obtain ⟨k, hk, e⟩ := h2 j hj
   rcases e with rfl | e
   ·exact hl k hk
   ·have hki := h1 k hk
    have hlt : i < ops.size := (Array.getElem?_eq_some_iff.1 ho).1
    have hok : ops[k]? = some (ops[k]'(by omega)) := by simp
    exact ih k hki _ hok (hc k _ hok (hl k hk)) j e
theorem q5l : ∀ {rs : List Res} {i : Nat} {r : Res}, oks rs → rs[i]? = some r → r.ok
 | [], i, r, _, h => by simp at h
 | q :: rs, 0, r, ho, h => by simp at h; subst h; exact ho.1
 | q :: rs, i + 1, r, ho, h => q5l ho.2 (by simpa using h)
theorem qt3 {un : List (Nat × Nat)} {rs : List Res} (h : qnc un (qo0 rs) = true) {i j : Nat} (hp : (i, j) ∈ un) {r q : Res} (hi : rs[i]? = some r) (hj : rs[j]? = some q) :
 (∀ k ∈ r.dl.hp.map (·.1), k ∉ q.dl.foot) ∧ ∀ k ∈ q.dl.hp.map (·.1), k ∉ r.dl.foot := by
 unfold qnc at h
 simp only [Bool.or_eq_true] at h
 rcases h with h | h
 ·rw [List.all_eq_true] at h
  have e : ∀ {i : Nat} {r : Res}, rs[i]? = some r → r.dl.hp.map (·.1) = [] := fun {i r} hi => by
   have := h (r.dl.rd, r.dl.hp.map (·.1)) (List.mem_map.2 ⟨r, List.mem_of_getElem? hi, rfl⟩)
   simpa using this
  rw [e hi, e hj]
  simp
 ·rw [List.all_eq_true] at h
  have := h (i, j) hp
  simp only [qbja, qo0, List.getElem?_map, hi, hj, Option.map_some, disj, Bool.and_eq_true, List.all_eq_true, Bool.not_eq_true', List.contains_eq_mem, decide_eq_false_iff_not] at this
  refine ⟨fun k hk => by simpa [Delta.foot] using this.1 k hk, fun k hk => ?_⟩
  simp only [Delta.foot, List.mem_append, not_or]
  exact ⟨this.2 k hk, fun hk' => this.1 k hk' (List.mem_append_right _ hk)⟩
end
section
variable {C : Cfg} {E : Env}
theorem qbl8 (hT : TOk C) (hE : TEnter C) {ops : Array Oper} (Q : Exit → Act → World → Prop) {s : St} {rs : List Res} {S : Nat → St} (hS0 : S 0 = s) (hlen : rs.length = ops.size)
 (hS : ∀ (i : Nat) (o : Oper) (r : Res), ops.toList[i]? = some o → rs[i]? = some r → aop1 C true ops o (S i) = some r ∧ S (i + 1) = r.dl.app C o.dst (S i))
 {bf : List (List Nat)} (hbf : qvp ops.toList bf = true) (hap : (qvq ops.size bf).all (qs7 ops) = true) (hh : qnc (qvq ops.size bf) (qo0 rs) = true) (hok : oks rs)
 (hk : ∀ bt' a' w', Rel C E bt' (S ops.size) a' w' → Q .normal a' w') :
 ∀ (fuel : Nat) (listed : Array Bool) (bt : Nat → Option Nat) (a : Act) (w : World), listed.size = ops.size → ((List.range ops.size).countP fun i => !listed.getD i true) ≤ fuel → qbaw ops (fun i => listed.getD i false) →
   Rel C E bt (stOf C ops rs (fun i => listed.getD i false) s ops.size) a w → wpAny C.P .any ops Q fuel listed a w := by
 have hdone : ∀ (listed : Array Bool) (bt : Nat → Option Nat) (a : Act) (w : World), listed.size = ops.size → Rel C E bt (stOf C ops rs (fun i => listed.getD i false) s ops.size) a w → Region.ready .any ops listed = [] → Q .normal a w := by
  intro listed bt a w hsz h hr
  have hall : ∀ i, i < ops.size → listed.getD i false = true := by
   intro i
   induction i using Nat.strongRecOn with
   | _ i ih =>
     intro hi
     refine Classical.byContradiction fun hn => ?_
     have : i ∈ Region.ready .any ops listed := mem_ready.2 ⟨by
      have : i < listed.size := by omega
      simp [this] at hn ⊢
      exact hn, ops[i], by simp, fun e he hb => ?_⟩
     ·rw [hr] at this; cases this
     ·have hl := (qvr hbf (by simp : ops.toList[i]? = some ops[i])).1 e.on (List.mem_map.2 ⟨e, List.mem_filter.2 ⟨by simpa using he, hb⟩, rfl⟩)
      exact ih e.on hl (by omega)
  refine hk bt a w ?_
  have e : stOf C ops rs (fun i => listed.getD i false) s ops.size = S ops.size := by
   obtain ⟨l1, l2⟩ := qul hlen hS ops.size (Nat.le_refl _)
   have e1 : (stOf C ops rs (fun i => listed.getD i false) s ops.size).sl = (S ops.size).sl := funext fun t => by
    rw [l1, hS0]
    exact qm3 _ fun i hi => hall i hi
   have e2 : (stOf C ops rs (fun i => listed.getD i false) s ops.size).hp = (S ops.size).hp := funext fun t => by
    rw [l2, hS0]
    exact qm3 _ fun i hi => hall i hi
   cases hq : S ops.size
   rw [hq] at e1 e2
   simp only [stOf] at e1 e2 ⊢
   rw [e1, e2]
  rwa [e] at h
 intro fuel
 induction fuel with
 | zero =>
   intro listed bt a w hsz hcnt hcl h
   have hr : Region.ready .any ops listed = [] := by
    cases hr : Region.ready .any ops listed with
    | nil => rfl
    | cons x xs =>
      have hx : x ∈ Region.ready .any ops listed := by rw [hr]; simp
      obtain ⟨hx1, o, ho, _⟩ := mem_ready.1 hx
      have hlt : x < ops.size := (Array.getElem?_eq_some_iff.1 ho).1
      have : 0 < (List.range ops.size).countP fun i => !listed.getD i true := List.countP_pos_iff.2 ⟨x, List.mem_range.2 hlt, by simp only [hx1]; rfl⟩
      omega
   exact ⟨hr, hdone listed bt a w hsz h hr⟩
 | succ fuel ih =>
   intro listed bt a w hsz hcnt hcl h
   refine ⟨hdone listed bt a w hsz h, fun j hj => ?_⟩
   obtain ⟨hj1, o, ho, hj2⟩ := mem_ready.1 hj
   have hjlt : j < ops.size := (Array.getElem?_eq_some_iff.1 ho).1
   have hjr : rs[j]? = some (rs[j]'(by omega)) := by simp
   generalize rs[j]'(by omega) = r at hjr
   obtain ⟨hrun, hnext⟩ := hS j o r (by simpa using ho) hjr
   have hjl : j < listed.size := by omega
   have hj0 : listed.getD j false = false := by simpa [hjl] using hj1
   have hbind : ∀ k ∈ ql2 o, listed.getD k false = true := fun k hk => by
    obtain ⟨e, he, rfl⟩ := List.mem_map.1 hk
    obtain ⟨he1, he2⟩ := List.mem_filter.1 he
    exact hj2 e (by simpa using he1) he2
   have hbefj : ∀ k ∈ bf.getD j [], listed.getD k false = true := qvs hbf hcl j o ho hbind
   -- what is not ordered
   have hun : ∀ i oi ri, ops[i]? = some oi → rs[i]? = some ri → (i < j ∧ listed.getD i false = false) ∨ (j < i ∧ listed.getD i false = true) →
    (∀ d, oi.dst = some d → d ∉ o.looksAt ops ∧ o.dst ≠ some d) ∧ (∀ k ∈ ri.dl.hp.map (·.1), k ∉ r.dl.foot) := by
    intro i oi ri hi hri hc
    have hilt : i < ops.size := (Array.getElem?_eq_some_iff.1 hi).1
    rw [List.all_eq_true] at hap
    rcases hc with ⟨hc, hl⟩ | ⟨hc, hl⟩
    ·have hm := qyj hc hjlt (fun hb => by rw [hbefj i hb] at hl; cases hl)
     have ha := hap _ hm
     simp only [qs7, hi, ho] at ha
     obtain ⟨a1, a2, _⟩ := Oper.apart_spec ha
     exact ⟨fun d hd => ⟨a1 d hd, fun e => a2 d hd e⟩, (qt3 hh hm hri hjr).1⟩
    ·have hb : j ∉ bf.getD i [] := fun hb => by
      have := qvs hbf hcl i oi hi (hcl i oi hi hl) j hb
      rw [hj0] at this; cases this
     have hm := qyj hc hilt hb
     have ha := hap _ hm
     simp only [qs7, hi, ho] at ha
     obtain ⟨_, a2, a3⟩ := Oper.apart_spec ha
     exact ⟨fun d hd => ⟨a3 d hd, fun e => a2 d e hd⟩, (qt3 hh hm hjr hri).2⟩
   have hδs : ∀ t, (t ∈ o.looksAt ops ∨ o.dst = some t) → ∀ i, (i < j ∧ listed.getD i false = false) ∨ (j < i ∧ listed.getD i false = true) → δs C ops rs i t = none := by
    intro t ht i hc
    unfold δs
    split
    ·rename_i oi ri hi hri
     cases hd : dSl C oi.dst ri.dl.v t with
     | none => rfl
     | some x =>
       have hdst := q5k (by rw [hd]; rfl)
       obtain ⟨u1, _⟩ := hun i oi ri hi hri hc
       rcases ht with ht | ht
       ·exact absurd ht (u1 t hdst).1
       ·exact absurd ht (u1 t hdst).2
    ·rfl
   have hδh : ∀ t ∈ r.dl.foot, ∀ i, i < ops.size → (i < j ∧ listed.getD i false = false) ∨ (j < i ∧ listed.getD i false = true) → δh rs i t = none := by
    intro t ht i hi hc
    unfold δh
    split
    ·rename_i ri hri
     cases hd : lk ri.dl.hp t with
     | none => rfl
     | some x =>
       obtain ⟨_, u2⟩ := hun i ops[i] ri (by simp) hri hc
       exact absurd ht (u2 t (qbav (by rw [hd]; rfl)))
    ·rfl
   obtain ⟨l1, l2⟩ := qul hlen hS j (by omega)
   have e1 : ∀ t ∈ o.looksAt ops, (stOf C ops rs (fun i => listed.getD i false) s ops.size).sl t = (S j).sl t := fun t ht => by
    rw [l1, hS0]
    refine qt2 (fun i hi hl => hδs t (.inl ht) i (.inl ⟨hi, hl⟩)) _ (by omega) (fun i hi hi2 hl => ?_)
    by_cases e : i = j
    ·subst e; rw [hj0] at hl; cases hl
    ·exact hδs t (.inl ht) i (.inr ⟨by omega, hl⟩)
   have e2 : qew (S j) (stOf C ops rs (fun i => listed.getD i false) s ops.size) r.dl.foot := fun t ht => by
    rw [l2, hS0]
    refine qt2 (fun i hi hl => hδh t ht i (by omega) (.inl ⟨hi, hl⟩)) _ (by omega) (fun i hi hi2 hl => ?_)
    by_cases e : i = j
    ·subst e; rw [hj0] at hl; cases hl
    ·exact hδh t ht i hi2 (.inr ⟨by omega, hl⟩)
   obtain ⟨r', hr', hrok, hwk⟩ := qbau hrun e1 e2
   unfold wpOp
   rw [ho]
   refine qxf hT hE h hr' (hrok (q5l hok hjr)) _ Q fun bt' a' w' hrel => ?_
   have hset : ∀ i, i ≠ j → (listed.setIfInBounds j true).getD i false = listed.getD i false := fun i hi => getD_set_ne false (Ne.symm hi)
   have hsetj : (listed.setIfInBounds j true).getD j false = true := by simp [hjl]
   refine ih (listed.setIfInBounds j true) bt' a' w' (by simpa using hsz) ?_ ?_ ?_
   ·have hlt : (List.range ops.size).countP (fun i => !(listed.setIfInBounds j true).getD i true) < (List.range ops.size).countP (fun i => !listed.getD i true) := by
     rw [List.countP_eq_length_filter, List.countP_eq_length_filter]
     have hsub : (List.range ops.size).filter (fun i => !(listed.setIfInBounds j true).getD i true) = ((List.range ops.size).filter (fun i => !listed.getD i true)).erase j := by
      rw [List.Nodup.erase_eq_filter (List.Pairwise.filter _ List.nodup_range), List.filter_filter]
      refine List.filter_congr fun i hi => ?_
      by_cases e : i = j
      ·subst e; simp [hjl]
      ·rw [getD_set_ne true (Ne.symm e)]; simp [e]
     rw [hsub, List.length_erase_of_mem (List.mem_filter.2 ⟨List.mem_range.2 hjlt, by simp only [hj1]; rfl⟩)]
     have : 0 < ((List.range ops.size).filter (fun i => !listed.getD i true)).length := List.length_pos_of_mem (List.mem_filter.2 ⟨List.mem_range.2 hjlt, by simp only [hj1]; rfl⟩)
     omega
    omega
   ·intro i oi hi hl k hkb
    by_cases e : i = j
    ·subst e
     rw [ho] at hi; cases hi
     have := hbind k hkb
     by_cases ek : k = i
     ·subst ek; exact hsetj
     ·exact (hset k ek).trans this
    ·simp only at hl
     rw [hset i e] at hl
     have := hcl i oi hi hl k hkb
     by_cases ek : k = j
     ·subst ek; exact hsetj
     ·exact (hset k ek).trans this
   ·have hadd := hrel.wk hwk
    have : r.dl.app C o.dst (stOf C ops rs (fun i => listed.getD i false) s ops.size) = stOf C ops rs (fun i => (listed.setIfInBounds j true).getD i false) s ops.size := by
     have f1 : ∀ t, δs C ops rs j t = dSl C o.dst r.dl.v t := fun t => by simp [δs, ho, hjr]
     have f2 : ∀ t, δh rs j t = lk r.dl.hp t := fun t => by simp [δh, hjr]
     unfold stOf Delta.app
     congr 1
     ·funext t
      rw [qyh, ← f1]
      refine (qr8 (L := fun i => listed.getD i false) (L' := fun i => (listed.setIfInBounds j true).getD i false) hj0 hsetj hset ops.size hjlt (fun i hi hi2 hl hs => ?_)).symm
      rw [f1] at hs
      exact hδs t (.inr (q5k hs)) i (.inr ⟨hi, hl⟩)
     ·funext t
      rw [quk, ← f2]
      refine (qr8 (L := fun i => listed.getD i false) (L' := fun i => (listed.setIfInBounds j true).getD i false) hj0 hsetj hset ops.size hjlt (fun i hi hi2 hl hs => ?_)).symm
      rw [f2] at hs
      exact hδh t (List.mem_append_right _ (qbav hs)) i hi2 (.inr ⟨hi, hl⟩)
    rwa [this] at hadd
theorem qbew (hT : TOk C) (hE : TEnter C) (hm : C.P.follows .mixedOrders = true) {ops : Array Oper} {id : Nat} (Q : Exit → Act → World → Prop) {bt : Nat → Option Nat} {s s' : St} {a : Act} {w : World} {p : Prop} (h : Rel C E bt s a w)
 (hr : qz1 C ops s = some (p, s')) (hp : p) (hk : ∀ bt' a' w', Rel C E bt' s' a' w' → Q .normal a' w') : (Code.region id ops true).wp C.P Q a w := by
 unfold qz1 at hr
 split at hr
 ·cases hr
 ·rename_i hs
  split at hr
  ·cases hr
  ·rename_i rs s'' hd
   split at hr
   ·cases hr
   ·rename_i hh
    cases hr
    obtain ⟨d1, S, d2, d3, d4⟩ := qyi hd
    simp only [qr7, Bool.and_eq_true] at hs
    refine wp_region_any hm ?_
    have d3' : S ops.size = s' := by simpa using d3
    refine qbl8 hT hE Q d2 (by simpa using d1) d4 hs.1 hs.2 hh hp (by rw [d3']; exact hk) ops.size _ bt a _ (by simp) ?_ ?_ ?_
    ·exact Nat.le_trans List.countP_le_length (by simp)
    ·intro i o hi hl
     by_cases e : i < ops.size <;> simp [e] at hl
    ·have : stOf C ops rs (fun i => (Array.replicate ops.size false).getD i false) s ops.size = s := by
      have e : ∀ {β : Type} (δ : Nat → Nat → Option β) (init : Nat → β) (n t : Nat), qg8 δ (fun i => (Array.replicate ops.size false).getD i false) init n t = init t := by
       intro β δ init n t
       induction n with
       | zero => rfl
       | succ n ih =>
         simp only [qg8]
         have : (Array.replicate ops.size false).getD n false = false := by
          by_cases e : n < ops.size <;> simp [e]
         rw [if_neg (by simp only [this]; decide)]
         exact ih
      cases s
      unfold stOf
      congr 1
      ·funext t; exact e _ _ _ _
      ·funext t; exact e _ _ _ _
     rw [this]
     exact h.heap rfl rfl rfl rfl
end
end Go.Ev
namespace Go.Ev
structure COk (C : Cfg) : Prop where
 t : TOk C
 e : TEnter C
 m : C.P.follows .mixedOrders = true
def AW (C : Cfg) (c : Code) (s : St) (Q : Exit → St → Prop) : Prop :=
 ∀ (E : Env) (bt : Nat → Option Nat) (a : Act) (w : World), Rel C E bt s a w → c.wp C.P (fun e a' w' => ∃ s' bt', Q e s' ∧ Rel C E bt' s' a' w') a w
def Sub (C : Cfg) (s s' : St) : Prop := ∀ (E : Env) (bt : Nat → Option Nat) (a : Act) (w : World), Rel C E bt s a w → ∃ bt', Rel C E bt' s' a w
theorem Sub.refl (C : Cfg) (s : St) : Sub C s s := fun _ bt _ _ h => ⟨bt, h⟩
theorem Sub.trans {C : Cfg} {a b c : St} (h : Sub C a b) (k : Sub C b c) : Sub C a c := fun E bt x w hr => let ⟨_, h1⟩ := h E bt x w hr; k E _ x w h1
def qnx (next : St → Prop) (Q : Exit → St → Prop) : Exit → St → Prop
 | .normal, s => next s
 | e, s => Q e s
def qjx (id : Nat) (Q : Exit → St → Prop) : Exit → St → Prop
 | .exit id', s => if id' = id then Q .normal s else Q (.exit id') s
 | e, s => Q e s
section
variable {C : Cfg} {s : St} {Q : Exit → St → Prop}
theorem AW.mono {c : Code} {Q' : Exit → St → Prop} (h : AW C c s Q) (hq : ∀ e s, Q e s → Q' e s) : AW C c s Q' :=
 fun E bt a w hr => Go.wp_mono (h E bt a w hr) fun _ _ _ ⟨s', bt', q, r⟩ => ⟨s', bt', hq _ _ q, r⟩
theorem AW.sub {c : Code} {s' : St} (hs : Sub C s s') (h : AW C c s' Q) : AW C c s Q := fun E bt a w hr => let ⟨bt', hr'⟩ := hs E bt a w hr; h E bt' a w hr'
theorem Wsk (h : Q .normal s) : AW C .skip s Q := fun _ bt _ _ hr => wp_skip ⟨s, bt, h, hr⟩
theorem Wex {id : Nat} (h : Q (.exit id) s) : AW C (.exit id) s Q := fun _ bt _ _ hr => wp_exit ⟨s, bt, h, hr⟩
theorem Wrt (h : Q .ret s) : AW C .ret s Q := fun _ bt _ _ hr => wp_ret ⟨s, bt, h, hr⟩
theorem Wsq {x y : Code} (h : AW C x s (qnx (fun s' => AW C y s' Q) Q)) : AW C (.seq x y) s Q := fun E bt a w hr =>
 wp_seq (Go.wp_mono (h E bt a w hr) fun e a' w' ⟨s', bt', q, r⟩ => by
  cases e with
  | normal => exact q E bt' a' w' r
  | _ => exact ⟨s', bt', q, r⟩)
theorem Wbk {id : Nat} {x : Code} (h : AW C x s (qjx id Q)) : AW C (.block id x) s Q := fun E bt a w hr =>
 wp_block (Go.wp_mono (h E bt a w hr) fun e a' w' ⟨s', bt', q, r⟩ => by
  cases e with
  | exit i =>
    simp only [qjx, Exit.inBlock] at q ⊢
    split
    ·rename_i e; rw [if_pos e] at q; exact ⟨s', bt', q, r⟩
    ·rename_i e; rw [if_neg e] at q; exact ⟨s', bt', q, r⟩
  | _ => exact ⟨s', bt', q, r⟩)
theorem AW.region (hC : COk C) {id : Nat} {ops : Array Oper} {p : Prop} {s' : St} (h : aops C ops ops.toList s = some (p, s')) (hp : p) (hq : Q .normal s') : AW C (.region id ops false) s Q := fun _ _ _ _ hr =>
 wp_region_list (q5j hC.t hC.e _ ops.toList hr h hp fun bt' _ _ r => ⟨s', bt', hq, r⟩)
theorem AW.draw (hC : COk C) {id : Nat} {ops : Array Oper} {p : Prop} {s' : St} (h : qz1 C ops s = some (p, s')) (hp : p) (hq : Q .normal s') : AW C (.region id ops true) s Q := fun _ _ _ _ hr =>
 qbew hC.t hC.e hC.m _ hr h hp fun bt' _ _ r => ⟨s', bt', hq, r⟩
theorem Wcd {c : Operand} {x y : Code} {t : Bool} (hc : s.val c = some (.d (.b t))) (h1 : t = true → AW C x s Q) (h2 : t = false → AW C y s Q) : AW C (.cond c x y) s Q := fun E bt a w hr => by
 have hv := qcp (qb0 hr hc)
 generalize hvx : a.eval c = u at hv
 cases hv
 exact wp_cond_split hvx (fun e => h1 e E bt a w hr) (fun e => h2 e E bt a w hr)
theorem Wcu {c : Operand} {x y : Code} {t : Bool} (hc : s.val c = some (.ub t)) (h1 : t = true → AW C x s Q) (h2 : AW C y s Q) : AW C (.cond c x y) s Q := fun E bt a w hr => by
 have hv := qb0 hr hc
 generalize hvx : a.eval c = u at hv
 cases hv with
 | ub _ _ hh => exact wp_cond_split hvx (fun e => h1 (hh e) E bt a w hr) (fun e => h2 E bt a w hr)
theorem Wcn {c : Operand} {x y : Code} {t : Bool} (hc : s.val c = some (.nb t)) (h1 : AW C x s Q) (h2 : t = true → AW C y s Q) : AW C (.cond c x y) s Q := fun E bt a w hr => by
 have hv := qb0 hr hc
 generalize hvx : a.eval c = u at hv
 cases hv with
 | nb _ _ hh => exact wp_cond_split hvx (fun e => h1 E bt a w hr) (fun e => h2 (hh e) E bt a w hr)
theorem AW.loop {ι : Type} (I : ι → St) (J : ι → Prop) (μ : ι → Nat) {c : Code} (i0 : ι) (hj : J i0) (h0 : Sub C s (I i0))
 (round : ∀ i, J i → AW C c (I i) (qnx (fun s' => ∃ j, J j ∧ μ j < μ i ∧ Sub C s' (I j)) Q)) : AW C (.loop c) s Q := fun E bt a w hr => by
 let R : Act → World → Nat → Prop := fun a w n => ∃ i bt, J i ∧ μ i = n ∧ Rel C E bt (I i) a w
 have ex : ∀ a w, (∃ n, R a w n) → ∃ n, R a w n ∧ ∀ m, R a w m → n ≤ m := fun a w h => by
  obtain ⟨n, hn⟩ := h
  induction n using Nat.strongRecOn with
  | _ n ih =>
    by_cases e : ∃ m, m < n ∧ R a w m
    ·obtain ⟨m, h1, h2⟩ := e; exact ih m h1 h2
    ·exact ⟨n, hn, fun m hm => Nat.le_of_not_lt fun hl => e ⟨m, hl, hm⟩⟩
 classical
 refine wp_loop (fun a w => ∃ n, R a w n) (fun a w => if h : ∃ n, R a w n then Classical.choose (ex a w h) else 0) ?_ ?_
 ·obtain ⟨bt', hr'⟩ := h0 E bt a w hr
  exact ⟨μ i0, i0, bt', hj, rfl, hr'⟩
 ·intro a w hR
  have hc := Classical.choose_spec (ex a w hR)
  rw [dif_pos hR]
  generalize Classical.choose (ex a w hR) = n at hc ⊢
  obtain ⟨⟨i, bt1, hJ, hn, hrel⟩, hmin⟩ := hc
  refine Go.wp_mono (round i hJ E bt1 a w hrel) fun e a' w' ⟨s', bt', q, r⟩ => ?_
  cases e with
  | normal =>
    obtain ⟨j, hJ', hlt, hs⟩ := q
    obtain ⟨bt2, r2⟩ := hs E bt' a' w' r
    have hR' : ∃ n, R a' w' n := ⟨μ j, j, bt2, hJ', rfl, r2⟩
    refine ⟨hR', ?_⟩
    rw [dif_pos hR']
    have := (Classical.choose_spec (ex a' w' hR')).2 (μ j) ⟨j, bt2, hJ', rfl, r2⟩
    omega
  | _ => exact ⟨s', bt', q, r⟩
end
end Go.Ev
