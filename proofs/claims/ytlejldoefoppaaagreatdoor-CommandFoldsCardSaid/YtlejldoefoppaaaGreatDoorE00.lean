/- Tools and contracts under the laws of this seat: DevEvA, DevGlob37, DevEvB, DevEvC, DevEvD, DevEvE, DevEvF, DevEvG, DevEvH, DevEvI, DevEvJ. -/
import Derived.Calls
import Derived.Orders
import Derived.Tactics
import Derived.RowKit3
import Derived.Below
import Derived.MapKept
import Derived.Laws.Entries
import Derived.Laws.Cells
import Derived.Laws.Rows
import Derived.Laws.CopyRow
import Derived.Laws.Slices
import Derived.Laws.Strings
import Derived.Laws.AppendOwn
import Derived.Laws.StructEq
import Derived.Laws.Small
import Derived.LaidEql
import Derived.WalkSpells
set_option linter.unusedVariables false
set_option linter.unusedSimpArgs false
namespace Go.Ev
inductive D where
 | b (x : Bool)
 | i (k : IntKind) (n : Int)
 | s (x : ByteArray)
 | agg (l : List D)
 | sl (sz : Nat) (l : List D)
 | nil
 | cp (l : List D)
 | np
 | fn (f : FuncId) (caps : List D)
 | mp (ks vs : List D)
instance : Inhabited D := ⟨.np⟩
def D.cells : D → List D
 | .agg l => l
 | d => [d]
def D.one : D → Bool
 | .agg _ => false
 | _ => true
def D.fits (sz : Nat) (d : D) : Prop := d.cells.length = sz ∧ ∀ c ∈ d.cells, c.one = true
def flat (l : List D) : List D := l.flatMap D.cells
theorem qc0 (d : D) (l : List D) : flat (d :: l) = d.cells ++ flat l := by simp [flat]
theorem qe9 (l m : List D) : flat (l ++ m) = flat l ++ flat m := by simp [flat]
theorem q02 {sz : Nat} : ∀ {l : List D}, (∀ d ∈ l, d.cells.length = sz) → (flat l).length = l.length * sz
 | [], _ => by simp [flat]
 | d :: l, h => by
   rw [qc0, List.length_append, h d (by simp), q02 (fun e he => h e (by simp [he])), List.length_cons, Nat.succ_mul]
   omega
theorem qex {sz : Nat} : ∀ {l : List D} {j c : Nat} {d : D}, (∀ e ∈ l, e.cells.length = sz) → l[j]? = some d → c < sz → (flat l)[j * sz + c]? = d.cells[c]?
 | [], j, c, d, _, h, _ => by simp at h
 | e :: l, 0, c, d, hs, h, hc => by
   simp at h; subst h
   rw [qc0, List.getElem?_append_left (by rw [hs e (by simp)]; omega)]; simp
 | e :: l, j + 1, c, d, hs, h, hc => by
   simp at h
   have he := hs e (by simp)
   rw [qc0, List.getElem?_append_right (by rw [he, Nat.succ_mul]; omega), he,
    show (j + 1) * sz + c - sz = j * sz + c by rw [Nat.succ_mul]; omega]
   exact qex (fun x hx => hs x (by simp [hx])) h hc
inductive RD (w : World) (X : Nat → Prop) : Value → D → Prop where
 | b (x : Bool) : RD w X (.bool x) (.b x)
 | i (k : IntKind) (n : Int) : RD w X (.int k n) (.i k n)
 | s (x : ByteArray) : RD w X (.string x) (.s x)
 | agg (cs : Array Value) (l : List D) (hn : cs.size = l.length) (h : ∀ (j : Nat) (v : Value) (d : D), cs[j]? = some v → l[j]? = some d → RD w X v d) : RD w X (.agg cs) (.agg l)
 | nil : RD w X (.slice none 0 0) .nil
 | sl0 (sz : Nat) : RD w X (.slice none 0 0) (.sl sz [])
 | sl (a : Addr) (cap sz : Nat) (l : List D) (u : Nat → Value) (hc : l.length ≤ cap) (hsz : 0 < sz) (hs : ∀ d ∈ l, d.fits sz)
    (ha : l ≠ [] → a.spot = none ∧ ¬ X a.block) (hw : ∀ (j : Nat) (d : D), (flat l)[j]? = some d → w.cell? ⟨a.block, a.off + j, none⟩ = some (u j))
    (h : ∀ (j : Nat) (d : D), (flat l)[j]? = some d → RD w X (u j) d) : RD w X (.slice (some a) l.length cap) (.sl sz l)
 | cp (a : Addr) (l : List D) (u : Nat → Value) (ha : a.spot = none ∧ (l ≠ [] → ¬ X a.block)) (hw : ∀ (j : Nat) (d : D), l[j]? = some d → w.cell? ⟨a.block, a.off + j, none⟩ = some (u j))
    (h : ∀ (j : Nat) (d : D), l[j]? = some d → RD w X (u j) d) : RD w X (.pointer (some a)) (.cp l)
 | np : RD w X (.pointer none) .np
 | fn (f : FuncId) (cs : Array Value) (l : List D) (hn : cs.size = l.length) (h : ∀ (j : Nat) (v : Value) (d : D), cs[j]? = some v → l[j]? = some d → RD w X v d) : RD w X (.func (.func f) #[] cs) (.fn f l)
 | mp (bk : Nat) (es : Array MapEntry) (clock : Nat) (ks vs : List D) (hX : ¬ X bk) (hb : w.heap[bk]? = some (.map es clock)) (hs : MapKept.Stamped es clock) (hk : es.size = ks.length) (hv : es.size = vs.length)
    (h1 : ∀ (j : Nat) (e : MapEntry) (d : D), es[j]? = some e → ks[j]? = some d → RD w X e.key d) (h2 : ∀ (j : Nat) (e : MapEntry) (d : D), es[j]? = some e → vs[j]? = some d → RD w X e.val d) :
    RD w X (.map (some bk)) (.mp ks vs)
 | mp0 : RD w X (.map none) (.mp [] [])
theorem qxe {sz : Nat} (hsz : 0 < sz) {l : List D} (hs : ∀ d ∈ l, d.cells.length = sz) (hl : l ≠ []) : ∃ d, (flat l)[0]? = some d := by
 cases l with
 | nil => exact absurd rfl hl
 | cons e l =>
   have he := hs e (by simp)
   rw [qc0]
   cases hc : e.cells with
   | nil => rw [hc] at he; simp at he; omega
   | cons x xs => exact ⟨x, by simp⟩
theorem RD.ext {w w' : World} {X X' : Nat → Prop} {v : Value} {d : D} (h : RD w X v d) (hb : ∀ b, b < w.heap.size → ¬ X b → w'.heap[b]? = w.heap[b]?)
 (hX : ∀ b, b < w.heap.size → X' b → X b) : RD w' X' v d := by
 induction h with
 | b x => exact .b x
 | i k n => exact .i k n
 | s x => exact .s x
 | agg cs l hn _ ih => exact .agg cs l hn ih
 | nil => exact .nil
 | sl0 sz => exact .sl0 sz
 | sl a cap sz l u hc hsz hs ha hw _ ih =>
   have lt : l ≠ [] → a.block < w.heap.size := fun hl => by
    obtain ⟨d, hd⟩ := qxe hsz (fun d hd => (hs d hd).1) hl
    exact World.block_lt_of_cell? w ⟨a.block, a.off + 0, none⟩ (hw 0 d hd)
   refine .sl a cap sz l u hc hsz hs (fun hl => ⟨(ha hl).1, fun hx => (ha hl).2 (hX _ (lt hl) hx)⟩) (fun j d hj => ?_) ih
   have hl : l ≠ [] := fun e => by subst e; simp [flat] at hj
   rw [← hw j d hj]
   exact World.cell?_of_block (w := w) (hb a.block (lt hl) (ha hl).2)
 | cp a l u ha hw _ ih =>
   have lt : l ≠ [] → a.block < w.heap.size := fun hl => by
    cases l with
    | nil => exact absurd rfl hl
    | cons e l => exact World.block_lt_of_cell? w ⟨a.block, a.off + 0, none⟩ (hw 0 e rfl)
   refine .cp a l u ⟨ha.1, fun hl hx => ha.2 hl (hX _ (lt hl) hx)⟩ (fun j d hj => ?_) ih
   have hl : l ≠ [] := fun e => by subst e; simp at hj
   rw [← hw j d hj]
   exact World.cell?_of_block (w := w) (hb a.block (lt hl) (ha.2 hl))
 | np => exact .np
 | fn f cs l hn _ ih => exact .fn f cs l hn ih
 | mp bk es clock ks vs hX' hb' hs hk hv _ _ ih1 ih2 =>
   have lt : bk < w.heap.size := (Array.getElem?_eq_some_iff.1 hb').1
   exact .mp bk es clock ks vs (fun hx => hX' (hX _ lt hx)) ((hb bk lt hX').trans hb') hs hk hv ih1 ih2
 | mp0 => exact .mp0
class Glob where
 bl : Nat → Prop
 inv : World → Prop
 val : Nat → Option (List D)
 cells : ∀ w, inv w → ∀ b, bl b → ∃ cs t m, w.heap[b]? = some (.cells cs t m)
 ext : ∀ w w', inv w → (∀ b, bl b → w'.heap[b]? = w.heap[b]?) → inv w'
 rd : ∀ (w : World) (X : Nat → Prop) (g : Nat) (l : List D), inv w → val g = some l → (∀ b, bl b → ¬ X b) → RD w X (.pointer (some ⟨g, 0, none⟩)) (.cp l)
theorem Glob.lt [Glob] {w : World} (h : Glob.inv w) {b : Nat} (hb : Glob.bl b) : b < w.heap.size := by
 obtain ⟨cs, t, m, e⟩ := Glob.cells w h b hb
 exact (Array.getElem?_eq_some_iff.1 e).1
structure GI [Glob] (w : World) (X : Nat → Prop) : Prop where
 inv : Glob.inv w
 not : ∀ b, Glob.bl b → ¬ X b
theorem GI.mono [Glob] {w : World} {X X' : Nat → Prop} (h : GI w X) (hx : ∀ b, X' b → X b) : GI w X' := ⟨h.inv, fun b hb k => h.not b hb (hx b k)⟩
inductive V where
 | d (x : D)
 | agg (l : List V)
 | ptr (id off : Nat)
 | row (id sz off n : Nat)
 | rp (id sz j off : Nat)
 | fn (f : FuncId) (caps : List V)
 | tup (l : List V)
 | opt (g : Bool) (x : V)
 | ub (x : Bool)
 | nb (x : Bool)
 | mref (id : Nat)
instance : Inhabited V := ⟨.d .np⟩
inductive Obj' where
 | box (t : TypeId) (c : List V)
 | row (t : TypeId) (sz : Nat) (z : Bool) (l : List D)
 | mp (t : TypeId) (ks : List D) (vs : List V)
inductive HS where
 | free
 | dead
 | live (o : Obj')
 | fz (o : Obj')
def HS.obj? : HS → Option Obj'
 | .live o | .fz o => some o
 | _ => none
structure St where
 sl : Nat → Option V
 hp : Nat → HS
inductive VR (w : World) (X : Nat → Prop) (bt : Nat → Option Nat) (nf : Nat → Prop) : Value → V → Prop where
 | d (v : Value) (x : D) (h : RD w X v x) : VR w X bt nf v (.d x)
 | agg (cs : Array Value) (l : List V) (hn : cs.size = l.length) (h : ∀ (j : Nat) (v : Value) (x : V), cs[j]? = some v → l[j]? = some x → VR w X bt nf v x) : VR w X bt nf (.agg cs) (.agg l)
 | ptr (id off bk : Nat) (hf : nf id) (hb : bt id = some bk) : VR w X bt nf (.pointer (some ⟨bk, off, none⟩)) (.ptr id off)
 | row (id sz off n bk cap : Nat) (ad : Addr) (had : ad = ⟨bk, off * sz, none⟩ ∨ cap = 0) (hf : nf id) (hb : bt id = some bk) (hn : n ≤ cap)
    (hk : ∃ cs t, w.heap[bk]? = some (.cells cs t (0, 0)) ∧ (off + cap) * sz = cs.size) : VR w X bt nf (.slice (some ad) n cap) (.row id sz off n)
 | row0 (id sz : Nat) (hf : nf id) (hb : bt id = none) : VR w X bt nf (.slice none 0 0) (.row id sz 0 0)
 | rp (id sz j off bk : Nat) (hf : nf id) (hb : bt id = some bk) : VR w X bt nf (.pointer (some ⟨bk, j * sz + off, none⟩)) (.rp id sz j off)
 | fn (f : FuncId) (cs : Array Value) (l : List V) (hn : cs.size = l.length) (h : ∀ (j : Nat) (v : Value) (x : V), cs[j]? = some v → l[j]? = some x → VR w X bt nf v x) : VR w X bt nf (.func (.func f) #[] cs) (.fn f l)
 | tup (cs : Array Value) (l : List V) (hn : cs.size = l.length) (h : ∀ (j : Nat) (v : Value) (x : V), cs[j]? = some v → l[j]? = some x → VR w X bt nf v x) : VR w X bt nf (.tuple cs) (.tup l)
 | opt (v : Value) (g : Bool) (x : V) (h : g = true → VR w X bt nf v x) (hb : g = false → ∀ b, v ≠ .bool b) : VR w X bt nf v (.opt g x)
 | ub (b x : Bool) (h : b = true → x = true) : VR w X bt nf (.bool b) (.ub x)
 | nb (b x : Bool) (h : b = false → x = true) : VR w X bt nf (.bool b) (.nb x)
 | mref (id bk : Nat) (hf : nf id) (hb : bt id = some bk) : VR w X bt nf (.map (some bk)) (.mref id)
structure Ext (X : Nat → Prop) (w w' : World) : Prop where
 size : w.heap.size ≤ w'.heap.size
 same : ∀ b, b < w.heap.size → ¬ X b → w'.heap[b]? = w.heap[b]?
 shape : ∀ (b : Nat) (cs : Array Value) (t : TypeId), w.heap[b]? = some (.cells cs t (0, 0)) → ∃ cs', w'.heap[b]? = some (Obj.cells cs' t (0, 0)) ∧ cs'.size = cs.size
theorem Ext.refl (X : Nat → Prop) (w : World) : Ext X w w := ⟨Nat.le_refl _, fun _ _ _ => rfl, fun _ cs _ h => ⟨cs, h, rfl⟩⟩
theorem Ext.trans {X : Nat → Prop} {a b c : World} (h : Ext X a b) (k : Ext X b c) : Ext X a c :=
 ⟨Nat.le_trans h.size k.size, fun i hi hx => (k.same i (Nat.lt_of_lt_of_le hi h.size) hx).trans (h.same i hi hx), fun i cs t hc => by
   obtain ⟨cs', h1, h2⟩ := h.shape i cs t hc
   obtain ⟨cs'', h3, h4⟩ := k.shape i cs' t h1
   exact ⟨cs'', h3, h4.trans h2⟩⟩
theorem Ext.mono {X X' : Nat → Prop} {w w' : World} (h : Ext X w w') (hx : ∀ b, X b → X' b) : Ext X' w w' := ⟨h.size, fun b hb hn => h.same b hb (fun hh => hn (hx b hh)), h.shape⟩
theorem VR.ext {w w' : World} {X X' : Nat → Prop} {bt bt' : Nat → Option Nat} {nf nf' : Nat → Prop} {v : Value} {x : V} (h : VR w X bt nf v x) (he : Ext X w w')
 (hX : ∀ b, b < w.heap.size → X' b → X b) (hbt : ∀ id, nf id → bt' id = bt id) (hnf : ∀ id, nf id → nf' id) : VR w' X' bt' nf' v x := by
 induction h with
 | d v x h => exact .d v x (h.ext he.same hX)
 | agg cs l hn _ ih => exact .agg cs l hn ih
 | ptr id off bk hf hb => exact .ptr id off bk (hnf id hf) ((hbt id hf).trans hb)
 | row id sz off n bk cap ad had hf hb hn hk =>
   obtain ⟨cs, t, h1, h2⟩ := hk
   obtain ⟨cs', h3, h4⟩ := he.shape _ _ _ h1
   exact .row id sz off n bk cap ad had (hnf id hf) ((hbt id hf).trans hb) hn ⟨cs', t, h3, by omega⟩
 | row0 id sz hf hb => exact .row0 id sz (hnf id hf) ((hbt id hf).trans hb)
 | rp id sz j off bk hf hb => exact .rp id sz j off bk (hnf id hf) ((hbt id hf).trans hb)
 | fn f cs l hn _ ih => exact .fn f cs l hn ih
 | tup cs l hn _ ih => exact .tup cs l hn ih
 | opt v g x _ hb ih => exact .opt v g x ih hb
 | ub b x h => exact .ub b x h
 | nb b x h => exact .nb b x h
 | mref id bk hf hb => exact .mref id bk (hnf id hf) ((hbt id hf).trans hb)
def OR (w : World) (X : Nat → Prop) (bt : Nat → Option Nat) (nf : Nat → Prop) (id : Nat) : Obj' → Prop
 | .box t c => ∃ bk cs, bt id = some bk ∧ w.heap[bk]? = some (.cells cs t (0, 0)) ∧ cs.size = c.length ∧ ∀ (j : Nat) (v : Value) (x : V), cs[j]? = some v → c[j]? = some x → VR w X bt nf v x
 | .row t sz z l => 0 < sz ∧ (∀ d ∈ l, d.fits sz) ∧ ((bt id = none ∧ l = []) ∨
     ∃ bk cs, bt id = some bk ∧ w.heap[bk]? = some (.cells cs t (0, 0)) ∧ (z = true → l ≠ []) ∧ (flat l).length ≤ cs.size ∧ ∀ (j : Nat) (v : Value) (x : D), cs[j]? = some v → (flat l)[j]? = some x → RD w X v x)
 | .mp _ ks vs => ∃ bk es clock, bt id = some bk ∧ w.heap[bk]? = some (.map es clock) ∧ MapKept.Stamped es clock ∧ es.size = ks.length ∧ es.size = vs.length ∧
     (∀ (j : Nat) (e : MapEntry) (d : D), es[j]? = some e → ks[j]? = some d → RD w X e.key d) ∧ ∀ (j : Nat) (e : MapEntry) (x : V), es[j]? = some e → vs[j]? = some x → VR w X bt nf e.val x
theorem OR.ext {w w' : World} {X X' : Nat → Prop} {bt bt' : Nat → Option Nat} {nf nf' : Nat → Prop} {id : Nat} {o : Obj'} (h : OR w X bt nf id o) (he : Ext X w w')
 (hX : ∀ b, b < w.heap.size → X' b → X b) (hbt : ∀ i, nf i → bt' i = bt i) (hnf : ∀ i, nf i → nf' i) (hid : nf id)
 (hs : ∀ bk, bt id = some bk → w'.heap[bk]? = w.heap[bk]?) : OR w' X' bt' nf' id o := by
 cases o with
 | box t c =>
   obtain ⟨bk, cs, h1, h2, h3, h4⟩ := h
   exact ⟨bk, cs, (hbt id hid).trans h1, (hs bk h1).trans h2, h3, fun j v x hj hx => (h4 j v x hj hx).ext he hX hbt hnf⟩
 | row t sz z l =>
   obtain ⟨h0, h1, h2⟩ := h
   refine ⟨h0, h1, ?_⟩
   rcases h2 with ⟨h3, h4⟩ | ⟨bk, cs, h3, h4, h5, h6, h7⟩
   ·exact .inl ⟨(hbt id hid).trans h3, h4⟩
   ·exact .inr ⟨bk, cs, (hbt id hid).trans h3, (hs bk h3).trans h4, h5, h6, fun j v x hj hx => (h7 j v x hj hx).ext he.same hX⟩
 | mp t ks vs =>
   obtain ⟨bk, es, clock, h1, h2, h0, h3, h4, h5, h6⟩ := h
   exact ⟨bk, es, clock, (hbt id hid).trans h1, (hs bk h1).trans h2, h0, h3, h4, fun j e d hj hd => (h5 j e d hj hd).ext he.same hX, fun j e x hj hx => (h6 j e x hj hx).ext he hX hbt hnf⟩
end Go.Ev
namespace Go.Ev
def qjz (w : World) : Prop := ∃ m, w.cell? ⟨1, 0, none⟩ = some (.int .i64 m)
theorem qtk (w : World) (h : qjz w) : ∃ cs t m, w.heap[1]? = some (.cells cs t m) := by
 obtain ⟨m, h⟩ := h
 unfold World.cell? at h
 split at h
 ·rename_i cs t k e; exact ⟨_, _, _, e⟩
 ·cases h
theorem qwt (w w' : World) (h : qjz w) (e : w'.heap[1]? = w.heap[1]?) : qjz w' := by
 obtain ⟨m, h⟩ := h
 exact ⟨m, (World.cell?_of_block (w := w) (w' := w') e).trans h⟩
instance glob37 : Glob := ⟨fun b => b = 1, qjz, fun _ => none, fun w h b hb => by cases hb; exact qtk w h,
 fun w w' h hs => qwt w w' h (hs 1 rfl), fun _ _ _ _ _ h => by cases h⟩
end Go.Ev
namespace Go.Ev
def q0u (P : Program) (t : TypeId) : Option Nat := (P.info? t).map (·.size)
def qb1 (P : Program) (t : TypeId) : Option Nat := (P.info? t).map (·.bytes)
def aggT (P : Program) (t : TypeId) : Option Bool := (P.underlying t).map fun | .struct _ | .array _ _ => true | _ => false
def qcj (P : Program) (t : TypeId) : Option TypeId := match P.underlying t with | some (.slice e) => some e | _ => none
def offT (P : Program) (t : TypeId) (f : Nat) : Option (Nat × Nat) :=
 match P.underlying t with
 | some (.struct fs) => match fs[f]? with
   | some x => match q0u P x.type with
     | some (n + 1) => some (x.offset, n + 1)
     | _ => none
   | none => none
 | _ => none
def qcv (P : Program) (t : TypeId) (f : Nat) : Option TypeId :=
 match P.underlying t with
 | some (.struct fs) => (fs[f]?).map (·.type)
 | _ => none
def qfa (P : Program) (t : TypeId) : Option (List (Nat × Nat)) :=
 match P.underlying t with
 | some (.struct fs) => fs.toList.mapM fun f => (P.info? f.type).map fun i => (f.offset, i.size)
 | _ => none
def cval : Value → Option D
 | .bool x => some (.b x)
 | .int k n => some (.i k n)
 | .string x => some (.s x)
 | .slice none 0 0 => some .nil
 | .pointer none => some .np
 | .map none => some (.mp [] [])
 | _ => none
def qbb (P : Program) (t : TypeId) : Option (List D) := ((P.info? t).bind (·.zero)).bind fun v => v.cells.toList.mapM cval
inductive O where
 | d (x : D)
 | own (t : TypeId) (sz : Nat) (l : List D)
 | agg (l : List O)
 | tup (l : List O)
 | bx (t : TypeId) (l : List O)
instance : Inhabited O := ⟨.d .np⟩
structure Cfg where
 P : Program
 N : Nat
 T : FuncId → List O → Option (Prop × O)
 mv : FuncId → Nat → List (Nat × TypeId × Nat)
 /-- The names of the boxes that came in and are told of behind the call: their blocks stay. -/
 pins : List Nat
 /-- Callees that turn their only argument, an own row of elements of so many cells, in place. -/
 ti : FuncId → Option (Nat × (List D → Option (Prop × List D)))
def V.cells : V → Option (List V)
 | .agg l => some l
 | .d (.agg l) => some (l.map .d)
 | .opt _ _ => none
 | v => some [v]
def V.one : V → Bool
 | .d x => x.one
 | .agg _ | .tup _ | .opt _ _ => false
 | _ => true
def V.asD : V → Option D
 | .d x => some x
 | _ => none
def mkAgg (l : List V) : V := match l.mapM V.asD with | some ds => .d (.agg ds) | none => .agg l
def St.val (s : St) : Operand → Option V
 | .tmp t => s.sl t
 | .const c => (cval c).map .d
 | .func f => some (.d (.fn f []))
 | .global g => (Glob.val g).map fun l => .d (.cp l)
structure Delta where
 hp : List (Nat × HS)
 v : Option V
 rd : List Nat
def q0e (h : Nat → HS) : List (Nat × HS) → Nat → HS
 | [], i => h i
 | (j, o) :: r, i => if i = j then o else q0e h r i
def qfi (N : Nat) (sl : Nat → Option V) (dst : Option Tmp) (v : Option V) : Nat → Option V :=
 match dst with
 | some d => fun i => if i = d then (if d < N then v else none) else sl i
 | none => sl
def Delta.app (C : Cfg) (dst : Option Tmp) (x : Delta) (s : St) : St := ⟨qfi C.N s.sl dst x.v, q0e s.hp x.hp⟩
def nm (dst : Option Tmp) (j : Nat) : Nat := match dst with | some d => 16 * d + j | none => 0
def ldV (agg : Bool) (n : Nat) (c : List V) (off : Nat) : Option V :=
 if agg then (if off + n ≤ c.length then some (mkAgg ((c.drop off).take n)) else none) else c[off]?
def ldD (agg : Bool) (n : Nat) (c : List D) (off : Nat) : Option V :=
 if agg then (if off + n ≤ c.length then some (.d (.agg ((c.drop off).take n))) else none) else (c[off]?).map .d
def q03 {α : Type} (c : List α) (off : Nat) (x : List α) : List α := c.take off ++ x ++ c.drop (off + x.length)
def D.splice (d : D) (off : Nat) (x : List D) : D := match d with | .agg l => .agg (q03 l off x) | _ => x.headD .np
def qbk (s : St) (id : Nat) : Option (TypeId × Nat × Bool × List D) :=
 match s.hp id with
 | .live (.row t sz z l) | .fz (.row t sz z l) => some (t, sz, z, l)
 | _ => none
def qb5 (s : St) (id : Nat) : Option (TypeId × Nat × Bool × List D) :=
 match s.hp id with
 | .live (.row t sz z l) => some (t, sz, z, l)
 | _ => none
def qda (s : St) (id : Nat) : Option (List V) :=
 match s.hp id with
 | .live (.box _ c) | .fz (.box _ c) => some c
 | _ => none
def qhm (s : St) (id : Nat) : Option (List D × List V) :=
 match s.hp id with
 | .live (.mp _ ks vs) | .fz (.mp _ ks vs) => some (ks, vs)
 | _ => none
def HS.isLive : HS → Bool
 | .live _ => true
 | _ => false
def HS.isFree : HS → Bool
 | .free => true
 | _ => false
def qfj (s : St) (sz : Nat) : V → Option (List D × List Nat)
 | .d .nil => some ([], [])
 | .d (.sl sz' l) => if sz' = sz then some (l, []) else none
 | .row id sz' off n => match qbk s id with
   | some (_, sz'', _, l) => if sz' = sz ∧ sz'' = sz ∧ off + n ≤ l.length then some ((l.drop off).take n, [id]) else none
   | none => none
 | _ => none
def toD1 (s : St) : V → Option (D × List Nat)
 | .d x => some (x, [])
 | .row id sz off n => match qbk s id with
   | some (_, sz', _, l) => if sz' = sz ∧ off + n ≤ l.length then some (.sl sz ((l.drop off).take n), [id]) else none
   | none => none
 | _ => none
def toDs (f : V → Option (D × List Nat)) : List V → Option (List D × List Nat)
 | [] => some ([], [])
 | v :: r => match f v, toDs f r with
   | some (x, i), some (xs, is) => some (x :: xs, i ++ is)
   | _, _ => none
def toD2 (s : St) : V → Option (D × List Nat)
 | .agg l => (toDs (toD1 s) l).map fun (xs, is) => (.agg xs, is)
 | .ptr id off => match qda s id with
   | some c => (toDs (toD1 s) c).map fun (xs, is) => (.cp (xs.drop off), id :: is)
   | none => none
 | .rp id sz j off => match qbk s id with
   | some (_, sz', _, l) => if sz' = sz then (l[j]?).map fun d => (.cp (d.cells.drop off), [id]) else none
   | none => none
 | v => toD1 s v
def toD3 (s : St) : V → Option (D × List Nat)
 | .fn f l => (toDs (toD2 s) l).map fun (xs, is) => (.fn f xs, is)
 | .mref id => match qhm s id with
   | some (ks, vs) => (toDs (toD2 s) vs).map fun (xs, is) => (.mp ks xs, id :: is)
   | none => none
 | v => toD2 s v
def qdf (s : St) (t sz : Nat) : V → Option (O × Option Nat)
 | .d .nil => if 0 < sz then some (.own t sz [], none) else none
 | .row id sz' off n => match qb5 s id with
   | some (t', sz'', _, l) => if sz' = sz ∧ sz'' = sz ∧ t' = t ∧ off = 0 ∧ n ≤ l.length then some (.own t sz (l.take n), some id) else none
   | none => none
 | _ => none
def mvAt : List (Nat × TypeId × Nat) → Nat → Option (TypeId × Nat)
 | [], _ => none
 | (j, x) :: r, i => if i = j then some x else mvAt r i
def qcp (s : St) (mv : List (Nat × TypeId × Nat)) : Nat → List V → Option (List O × List Nat × List (Option Nat))
 | _, [] => some ([], [], [])
 | j, v :: r =>
   match qcp s mv (j + 1) r with
   | none => none
   | some (os, rd, tk) =>
     match mvAt mv j with
     | some (t, sz) => match qdf s t sz v with
       | some (o, id) => some (o :: os, rd, id :: tk)
       | none => none
     | none => match toD1 s v with
       | some (x, is) => some (.d x :: os, is ++ rd, tk)
       | none => none
def argO (s : St) (mv : List (Nat × TypeId × Nat)) (v : V) : Option (O × List Nat × List (Option Nat)) :=
 match mv with
 | [] => (toD3 s v).map fun (x, is) => (.d x, is, [])
 | (j, t, sz) :: r => match j with
   | 4242 => match v with
     | .ptr id 0 => match s.hp id with
       | .live (.box t' c) => if t' = t then (qcp s r 0 c).map fun (os, rd, tk) => (.bx t os, rd, some id :: tk) else none
       | _ => none
     | _ => none
   | _ => match v with
     | .agg l => (qcp s mv 0 l).map fun (os, rd, tk) => (.agg os, rd, tk)
     | .d (.agg l) => (qcp s mv 0 (l.map V.d)).map fun (os, rd, tk) => (.agg os, rd, tk)
     | v => (qdf s t sz v).map fun (o, id) => (o, [], [id])
def qc1 (s : St) (mv : Nat → List (Nat × TypeId × Nat)) : Nat → List V → Option (List O × List Nat × List (Option Nat))
 | _, [] => some ([], [], [])
 | j, v :: r =>
   match argO s (mv j) v, qc1 s mv (j + 1) r with
   | some (o, rd, tk), some (os, rd', tk') => some (o :: os, rd ++ rd', tk ++ tk')
   | _, _ => none
def D.flat : D → Bool
 | .b _ | .i _ _ | .s _ | .nil | .np => true
 | _ => false
def D.flatA : D → Bool
 | .agg l => l.all D.flat
 | d => d.flat
def O.flat1 : O → Bool
 | .d x => x.flatA
 | .own _ _ l => l.all D.flatA
 | _ => false
def O.flat : O → Bool
 | .agg l => l.all O.flat1
 | .tup l => l.all fun | .agg l => l.all O.flat1 | .bx _ l => l.all O.flat1 | o => o.flat1
 | o => o.flat1
def inO1 (b : Nat) : Nat → O → V × List (Nat × HS) × Nat
 | j, .d x => (.d x, [], j)
 | j, .own t sz l => (.row (b + j) sz 0 l.length, [(b + j, .live (.row t sz false l))], j + 1)
 | j, _ => (.d .np, [], j)
def inOs (f : Nat → O → V × List (Nat × HS) × Nat) : Nat → List O → List V × List (Nat × HS) × Nat
 | j, [] => ([], [], j)
 | j, o :: r =>
   let (v, h, j1) := f j o
   let (vs, hs, j2) := inOs f j1 r
   (v :: vs, h ++ hs, j2)
def inO2 (b : Nat) (j : Nat) : O → V × List (Nat × HS) × Nat
 | .agg l => let (vs, h, j') := inOs (inO1 b) j l; (.agg vs, h, j')
 | .bx t l => let (vs, h, j') := inOs (inO1 b) (j + 1) l; (.ptr (b + j) 0, (b + j, .live (.box t vs)) :: h, j')
 | o => inO1 b j o
def inO (b : Nat) : O → V × List (Nat × HS) × Nat
 | .tup l => let (vs, h, j') := inOs (inO2 b) 0 l; (.tup vs, h, j')
 | o => inO2 b 0 o
def O.ok1 : O → Bool
 | .d _ | .own _ _ _ => true
 | _ => false
def O.ok2 : O → Bool
 | .agg l | .bx _ l => l.all O.ok1
 | o => o.ok1
def O.ok : O → Bool
 | .tup l => l.all O.ok2
 | o => o.ok2
structure Res where
 ok : Prop
 dl : Delta
def newObj (s : St) (dst : Option Tmp) (ok : Prop) (o : Obj') (v : V) : Option Res :=
 match dst with
 | some _ => if (s.hp (nm dst 0)).isFree then some ⟨ok, [(nm dst 0, .live o)], some v, []⟩ else none
 | none => none
def q01 (v : V) : Option Res := some ⟨True, [], some v, []⟩
def qb2 (ok : Prop) (v : V) : Option Res := some ⟨ok, [], some v, []⟩
def iand (k : IntKind) (a b : Int) : Int := k.wrap ((BitVec.ofInt k.bits a &&& BitVec.ofInt k.bits b).toNat : Int)
def ior (k : IntKind) (a b : Int) : Int := k.wrap ((BitVec.ofInt k.bits a ||| BitVec.ofInt k.bits b).toNat : Int)
def ixor (k : IntKind) (a b : Int) : Int := k.wrap ((BitVec.ofInt k.bits a ^^^ BitVec.ofInt k.bits b).toNat : Int)
def qlm (op : BinOp) (k : IntKind) (a b : Int) : Option (Prop × D) :=
 match op with
 | .add => some (True, .i k (k.wrap (a + b)))
 | .sub => some (True, .i k (k.wrap (a - b)))
 | .mul => some (True, .i k (k.wrap (a * b)))
 | .eql => some (True, .b (a == b))
 | .neq => some (True, .b (a != b))
 | .lss => some (True, .b (decide (a < b)))
 | .leq => some (True, .b (decide (a ≤ b)))
 | .gtr => some (True, .b (decide (a > b)))
 | .geq => some (True, .b (decide (a ≥ b)))
 | .quo => some (b ≠ 0, .i k (k.wrap (a.tdiv b)))
 | .rem => some (b ≠ 0, .i k (a.tmod b))
 | .and => some (True, .i k (iand k a b))
 | .or => some (True, .i k (ior k a b))
 | .xor => some (True, .i k (ixor k a b))
 | _ => none
def qxf : BinOp → Bool
 | .shl | .shr => true
 | _ => false
def qln (op : BinOp) (k : IntKind) (a b : Int) : Option (Prop × D) :=
 match op with
 | .shl => some (0 ≤ b, .i k (k.wrap (a * 2 ^ (min b.toNat k.bits))))
 | .shr => some (0 ≤ b, .i k (a.fdiv (2 ^ (min b.toNat k.bits))))
 | _ => none
def seq (x y : ByteArray) : Bool := x.toList == y.toList
def qlo (op : BinOp) (a b : ByteArray) : Option (Prop × D) :=
 match op with
 | .add => some (a.size + b.size ≤ 9223372036854775807, .s (a ++ b))
 | .eql => some (True, .b (seq a b))
 | .neq => some (True, .b (!seq a b))
 | .lss => some (True, .b (Op.bytesLess a.toList b.toList))
 | .leq => some (True, .b (Op.bytesLess a.toList b.toList || seq a b))
 | .gtr => some (True, .b (!(Op.bytesLess a.toList b.toList || seq a b)))
 | .geq => some (True, .b (!Op.bytesLess a.toList b.toList))
 | _ => none
def binD (op : BinOp) : D → D → Option (Prop × D)
 | .i k a, .i k' b => match qxf op with
   | true => qln op k a b
   | false => if k = k' then qlm op k a b else none
 | .s a, .s b => qlo op a b
 | _, _ => none
def unD (op : UnOp) : D → Option D
 | .b a => match op with | .not => some (.b (!a)) | _ => none
 | .i k a => match op with | .neg => some (.i k (k.wrap (0 - a))) | _ => none
 | _ => none
def qi7 : Option V → Option Int
 | some (.d (.i _ n)) => some n
 | _ => none
def qbc (s : St) (x : Option Operand) (z : Int) : Option Int := match x with | some o => qi7 (s.val o) | none => some z
def qd7 (s : St) (b : ByteArray) (lo hi mx : Option Operand) : Option Res :=
 match qbc s lo 0, qbc s hi b.size, mx with
  | some l, some h, none => qb2 (0 ≤ l ∧ l ≤ h ∧ h ≤ (b.size : Int)) (.d (.s (b.extract l.toNat h.toNat)))
  | _, _, _ => none
def qeo (s : St) (n : Nat) (x : V) (lo hi mx : Option Operand) : Option Res :=
 match x with
 | .d .nil => match qbc s lo 0, qbc s hi (0 : Nat), mx with
   | some l, some h, none => qb2 (0 ≤ l ∧ l ≤ h ∧ h ≤ 0) (.d .nil)
   | _, _, _ => none
 | .d (.sl sz ds) => if sz = n then (match qbc s lo 0, qbc s hi ds.length, mx with
   | some l, some h, none => qb2 (0 ≤ l ∧ l ≤ h ∧ h ≤ (ds.length : Int)) (.d (.sl sz ((ds.drop l.toNat).take (h.toNat - l.toNat))))
   | some l, some h, some m => match qi7 (s.val m) with
     | some m => if hi.isSome then some ⟨0 ≤ l ∧ l ≤ h ∧ h ≤ m ∧ m ≤ (ds.length : Int), [], none, []⟩ else none
     | none => none
   | _, _, _ => none) else none
 | .row id sz off k => match qbk s id, qbc s lo 0, qbc s hi k, mx with
   | some (_, sz', _, ds), some l, some h, none =>
     if sz' = sz ∧ sz = n then some ⟨0 ≤ l ∧ l ≤ h ∧ (off : Int) + h ≤ (ds.length : Int), [], some (.row id sz (off + l.toNat) (h.toNat - l.toNat)), [id]⟩ else none
   | some (_, sz', _, ds), some l, some h, some m => match qi7 (s.val m) with
     | some m => if sz' = sz ∧ sz = n ∧ hi.isSome then some ⟨0 ≤ l ∧ l ≤ h ∧ h ≤ m ∧ (off : Int) + m ≤ (ds.length : Int), [], none, [id]⟩ else none
     | none => none
   | _, _, _, _ => none
 | _ => none
def q08 (P : Program) (t : TypeId) : Bool := match P.underlying t with | some (.slice _) => true | _ => false
def qd8 (C : Cfg) (s : St) (dst : Option Tmp) (ts tx : TypeId) (x y : V) : Option Res :=
 match qcj C.P ts with
 | none => none
 | some e => match q0u C.P e, qb1 C.P e, q08 C.P tx, qbb C.P e with
   | some (sz + 1), some by_, true, some zl =>
     if zl.length ≠ sz + 1 then none else
     match qfj s (sz + 1) y with
     | none => none
     | some (ys, rd) => match x with
       | .d .nil => (newObj s dst (ys.length * by_ ≤ 140737488355328 ∧ ys.length ≤ 9223372036854775807) (.row e (sz + 1) true ys) (.row (nm dst 0) (sz + 1) 0 ys.length)).map fun r => { r with dl.rd := rd }
       | .row id sz' off n => match qb5 s id with
         | none => none
         | some (t, sz'', z, l) =>
           if sz' = sz + 1 ∧ sz'' = sz + 1 ∧ t = e ∧ off = 0 then
            if n = l.length then
             if rd.contains id then none else
              (newObj s dst ((l.length + ys.length) * by_ ≤ 140737488355328 ∧ l.length + ys.length ≤ 9223372036854775807) (.row e (sz + 1) z (l ++ ys)) (.row (nm dst 0) (sz + 1) 0 (l.length + ys.length))).map
                fun r => { r with dl.hp := (id, .dead) :: r.dl.hp, dl.rd := rd }
            else some ⟨n + ys.length ≤ l.length, [(id, .live (.row t (sz + 1) z (q03 l n ys)))], some (.row id (sz + 1) 0 (n + ys.length)), rd⟩
           else none
       | _ => none
   | _, _, _, _ => none
def q0t (s : St) (fz tk : List Nat) : List (Nat × HS) := (fz.map fun id => (id, match s.hp id with | .live o => .fz o | h => h)) ++ tk.map fun id => (id, .dead)
def bxId (mv : List (Nat × TypeId × Nat)) (v : V) : List Nat :=
 match mv with
 | (4242, _, _) :: _ => match v with | .ptr id 0 => [id] | _ => []
 | _ => []
def qf6 (mv : Nat → List (Nat × TypeId × Nat)) : Nat → List V → List Nat
 | _, [] => []
 | j, v :: r => bxId (mv j) v ++ qf6 mv (j + 1) r
def hget : List (Nat × HS) → Nat → Option HS
 | [], _ => none
 | (j, x) :: r, i => if i = j then some x else hget r i
def qfn (H : List (Nat × HS)) : List Nat → List V → Option (List (Nat × HS))
 | [], [] => some []
 | id :: ids, .ptr n 0 :: ps => match hget H n, qfn H ids ps with
   | some o, some l => some ((id, o) :: (n, .dead) :: l)
   | _, _ => none
 | _, _ => none
def one1 : List V → V
 | [x] => x
 | xs => .tup xs
def qcw (C : Cfg) (quiet : Bool) (s : St) (dst : Option Tmp) (f : FuncId) (vs : List V) : Option Res :=
 match qc1 s (C.mv f) 0 vs with
 | none => none
 | some (os, rd, tks) =>
   match C.T f os with
   | none => none
   | some (p, r) =>
     let tk := tks.filterMap id
     let live := rd.filter fun id => (s.hp id).isLive
     let fz := if live = [] ∨ r.flat = true then [] else live
     if r.ok = false ∨ decide tk.Nodup = false ∨ (tk.any fun id => rd.contains id) = true then none else
     match dst with
     | none => match qf6 (C.mv f) 0 vs with
       | [] => some ⟨p, q0t s fz tk, none, rd⟩
       | _ => none
     | some d =>
       let x := inO (16 * d) r
       if 16 < x.2.2 ∨ (x.2.1.all fun p => (s.hp p.1).isFree) = false then none else
       match qf6 (C.mv f) 0 vs with
       | [] => some ⟨p, q0t s fz tk ++ x.2.1, some x.1, rd⟩
       | ids => match x.1 with
         | .tup l => match qfn x.2.1 ids (l.drop (l.length - ids.length)) with
           | some back => some ⟨p, back ++ (q0t s fz tk ++ x.2.1), some (one1 (l.take (l.length - ids.length))), rd⟩
           | none => none
         | _ => none
def qd5 (s : St) (sz : Nat) (g : List D → Option (Prop × List D)) (vs : List V) : Option Res :=
 match vs with
 | [.row id sz' off n] => match qb5 s id with
   | some (t, sz'', z, l) => if sz' = sz ∧ sz'' = sz ∧ off = 0 ∧ 0 < n ∧ n ≤ l.length then (match g (l.take n) with
     | some (p, l') => some ⟨p, [(id, .live (.row t sz z (l' ++ l.drop n)))], some (.tup []), []⟩
     | none => none) else none
   | none => none
 | _ => none
def qbt (C : Cfg) (quiet : Bool) (s : St) (dst : Option Tmp) (f : FuncId) (vs : List V) : Option Res :=
 match C.ti f with
 | none => qcw C quiet s dst f vs
 | some (sz, g) => match qd5 s sz g vs with
   | some r => some r
   | none => qcw C quiet s dst f vs
def vals (s : St) : List Operand → Option (List V)
 | [] => some []
 | x :: r => match s.val x, vals s r with
   | some v, some vs => some (v :: vs)
   | _, _ => none
def qcs (P : Program) (t : TypeId) : Bool := match P.underlying t with | some .string => true | _ => false
def lenOf (P : Program) (t : TypeId) : V → Option Nat
 | .d (.s b) => if qcs P t then some b.size else none
 | .d .nil => if q08 P t then some 0 else none
 | .d (.sl _ l) => if q08 P t then some l.length else none
 | .row _ _ _ n => if q08 P t then some n else none
 | _ => none
def qgu (s : St) : V → Option (V × List Nat)
 | .d .nil => some (.d (.b true), [])
 | .d (.sl _ l) => some (.ub l.isEmpty, [])
 | .row id sz off n => match qbk s id with
   | some (_, sz', z, l) => if sz' = sz ∧ off = 0 ∧ n = l.length then some (if z = true then .d (.b l.isEmpty) else .ub l.isEmpty, [id]) else none
   | none => none
 | _ => none
def qiu : V → Option (V × List Nat)
 | .d .np => some (.d (.b true), [])
 | .ptr _ _ | .rp _ _ _ _ | .d (.cp _) => some (.d (.b false), [])
 | _ => none
def V.neg : V → V
 | .d (.b x) => .d (.b !x)
 | .ub x => .nb x
 | v => v
inductive K where
 | b | i | s
def qj0 (P : Program) (f : TypeId → Option (List K)) : Nat → List Field → Option (List K)
 | _, [] => some []
 | at_, x :: r => if x.name = "_" ∨ x.offset ≠ at_ then none else
   match f x.type, q0u P x.type with
   | some ks, some n => if ks.length = n then (qj0 P f (at_ + n) r).map (ks ++ ·) else none
   | _, _ => none
def eqK (P : Program) : Nat → TypeId → Option (List K)
 | 0, _ => none
 | n + 1, t => match P.underlying t with
   | some .bool => some [.b]
   | some (.int _) => some [.i]
   | some .string => some [.s]
   | some (.struct fs) => if P.stoodInHeld t then none else qj0 P (eqK P n) 0 fs.toList
   | _ => none
def qhv : K → D → D → Option Bool
 | .b, .b a, .b b => some (a == b)
 | .i, .i k a, .i k' b => if k = k' then some (a == b) else none
 | .s, .s a, .s b => some (seq a b)
 | _, _, _ => none
def qbu : List K → List D → List D → Option Bool
 | [], [], [] => some true
 | k :: ks, a :: r, b :: q => match qhv k a b, qbu ks r q with
   | some x, some y => some (x && y)
   | _, _ => none
 | _, _, _ => none
def eqKs (P : Program) (t : TypeId) : Option (List K) := if P.eqGuardType P.depth t = false then eqK P 8 t else none
def qb6 (P : Program) (t : TypeId) : Bool := match P.underlying t with | some .bool => true | _ => false
def qiv (op : BinOp) (r : Bool) : Option Res :=
 match op with
 | .eql => q01 (.d (.b r))
 | .neq => q01 (.d (.b !r))
 | _ => none
def qct (P : Program) (t : TypeId) : Bool := match P.underlying t with | some (.pointer _) => true | _ => false
def qf2 (C : Cfg) (s : St) (op : BinOp) (t : TypeId) (x y : V) : Option Res :=
 match x, y with
 | .d (.agg a), .d (.agg b) => if aggT C.P t = some true then (eqKs C.P t).bind fun ks => (qbu ks a b).bind (qiv op) else none
 | .d (.b a), .d (.b b) => if qb6 C.P t then qiv op (a == b) else none
 | .d (.i k a), .d (.i k' b) => (binD op (.i k a) (.i k' b)).bind fun r => qb2 r.1 (.d r.2)
 | .d (.s a), .d (.s b) => (binD op (.s a) (.s b)).bind fun r => qb2 r.1 (.d r.2)
 | x, .d .nil => if q08 C.P t then (match op, qgu s x with
     | .eql, some (v, rd) => some ⟨True, [], some v, rd⟩
     | .neq, some (v, rd) => some ⟨True, [], some v.neg, rd⟩
     | _, _ => none) else none
 | x, .d .np => if qct C.P t then (match op, qiu x with
     | .eql, some (v, rd) => some ⟨True, [], some v, rd⟩
     | .neq, some (v, rd) => some ⟨True, [], some v.neg, rd⟩
     | _, _ => none) else none
 | _, _ => none
def zD (P : Program) (t : TypeId) : D := match aggT P t, qbb P t with
 | some true, some z => .agg z
 | some false, some [z] => z
 | _, _ => .np
def storeAt (dz : TypeId → D) (s : St) (n : Nat) (p x : V) : Option Res :=
 match x.cells with
 | none => none
 | some xc =>
   if xc.all V.one = false ∨ xc.length ≠ n then none else
   match p with
   | .ptr id off => match s.hp id with
     | .live (.box t c) => if off + n ≤ c.length then some ⟨True, [(id, .live (.box t (q03 c off xc)))], none, []⟩ else none
     | _ => none
   | .rp id sz j off => match s.hp id, toDs (toD1 s) xc with
     | .live (.row t sz' z l), some (xs, []) => if sz' = sz ∧ off + n ≤ sz ∧ xs.all D.one = true ∧ 0 < n then
         some ⟨j < l.length, [(id, .live (.row t sz z (l.set j ((l.getD j (dz t)).splice off xs))))], none, []⟩ else none
     | .live (.row t sz' z l), some (xs, k :: is) => if sz' = sz ∧ off + n ≤ sz ∧ xs.all D.one = true ∧ 0 < n ∧ (k :: is).contains id = false then
         some ⟨j < l.length, (id, .live (.row t sz z (l.set j ((l.getD j (dz t)).splice off xs)))) :: q0t s (k :: is) [], none, k :: is⟩ else none
     | _, _ => none
   | _ => none
def loadAt (dz : TypeId → D) (s : St) (agg : Bool) (n : Nat) (p : V) : Option Res :=
 match p with
 | .ptr id off => match qda s id with
   | some c => (ldV agg n c off).map fun v => ⟨True, [], some v, [id]⟩
   | none => none
 | .rp id sz j off => match qbk s id with
   | some (t, sz', _, l) => if sz' = sz ∧ off + n ≤ sz ∧ 0 < n then
      some ⟨j < l.length, [], some (if agg then .d (.agg (((l.getD j (dz t)).cells.drop off).take n)) else .d ((l.getD j (dz t)).cells.getD off .np)), [id]⟩ else none
   | none => none
 | .d (.cp l) => (ldD agg n l 0).map fun v => ⟨True, [], some v, []⟩
 | _ => none
def mapT (P : Program) (t : TypeId) : Option (TypeId × TypeId) := match P.underlying t with | some (.map k e) => some (k, e) | _ => none
def isK (P : Program) (kt : TypeId) (d : D) : Bool := match P.underlying kt, d with
 | some .bool, .b _ => true
 | some (.int k), .i k' _ => decide (k' = k)
 | some .string, .s _ => true
 | _, _ => false
def kEq : D → D → Bool
 | .b x, .b y => x == y
 | .i _ x, .i _ y => x == y
 | .s x, .s y => seq x y
 | _, _ => false
def qdm : List D → D → Option Nat
 | [], _ => none
 | d :: r, k => if kEq d k = true then some 0 else (qdm r k).map (· + 1)
def qmr (ks : List D) (k : D) : List D := match qdm ks k with | some _ => ks | none => ks ++ [k]
def qms (ks : List D) (vs : List V) (k : D) (v : V) : List V := match qdm ks k with | some i => vs.set i v | none => vs ++ [v]
def qhn (s : St) : V → Option (List D × List V × List Nat)
 | .d (.mp ks vs) => some (ks, vs.map .d, [])
 | .mref id => match qhm s id with
   | some (ks, vs) => some (ks, vs, [id])
   | none => none
 | _ => none
def mget (ks : List D) (vs : List V) (k : D) : V := match qdm ks k with | some i => vs.getD i (.d .np) | none => .d .np
def qtt (z : D) (ks : List D) (vs : List V) (k : D) : Option D := match z with
 | .b z => some (.b (match qdm ks k with | some i => (match vs.getD i (.d .np) with | .d (.b x) => x | _ => z) | none => z))
 | .i c z => some (.i c (match qdm ks k with | some i => (match vs.getD i (.d .np) with | .d (.i _ x) => x | _ => z) | none => z))
 | .s z => some (.s (match qdm ks k with | some i => (match vs.getD i (.d .np) with | .d (.s x) => x | _ => z) | none => z))
 | _ => none
def sh1 : D → V → Bool
 | .b _, .d (.b _) => true
 | .i c _, .d (.i c' _) => decide (c' = c)
 | .s _, .d (.s _) => true
 | _, _ => false
def qdb (P : Program) (t : TypeId) : Option D := ((P.info? t).bind (·.zero)).bind cval
def notB : List D → Bool
 | [.b _] => false
 | _ => true
def qds (C : Cfg) (s : St) (t : TypeId) (m k : V) (cm : Bool) : Option Res :=
 match mapT C.P t, k with
 | some (kt, et), .d k => match qbb C.P et, qhn s m with
   | some z0, some (ks, vs, rd) =>
     if cm = true then if notB z0 = false then none else some ⟨(∀ d ∈ ks, isK C.P kt d = true) ∧ isK C.P kt k = true, [], some (.tup [.opt (qdm ks k).isSome (mget ks vs k), .d (.b (qdm ks k).isSome)]), rd⟩
     else match qdb C.P et with
      | some z => match qtt z ks vs k with
        | some d => some ⟨(∀ d ∈ ks, isK C.P kt d = true) ∧ isK C.P kt k = true ∧ ∀ v ∈ vs, sh1 z v = true, [], some (.d d), rd⟩
        | none => none
      | none => none
   | _, _ => none
 | _, _ => none
def qcg (C : Cfg) (s : St) (t : TypeId) (m k v : V) : Option Res :=
 match mapT C.P t, m, k with
 | some (kt, _), .mref id, .d k => match s.hp id with
   | .live (.mp t' ks vs) => some ⟨(∀ d ∈ ks, isK C.P kt d = true) ∧ isK C.P kt k = true, [(id, .live (.mp t' (qmr ks k) (qms ks vs k v)))], none, []⟩
   | _ => none
 | _, _, _ => none
def qep (C : Cfg) (s : St) (dst : Option Tmp) (b : Builtin) (ts : List TypeId) (vs : List V) : Option Res :=
 match b, ts, vs with
 | .len, [t], [v] => match lenOf C.P t v with
   | some n => q01 (.d (.i .i64 n))
   | none => match mapT C.P t, qhn s v with
     | some _, some (ks, _, rd) => some ⟨True, [], some (.d (.i .i64 ks.length)), rd⟩
     | _, _ => none
 | .append, [t1, t2], [x, y] => qd8 C s dst t1 t2 x y
 | .clear, [t], [v] => match v, qcj C.P t with
   | .row id sz off n, some e => match qb5 s id, q0u C.P e, qbb C.P e with
     | some (t', sz', _, l), some sz'', some z => if sz' = sz ∧ sz'' = sz ∧ z.length = sz ∧ dst = none then
        some ⟨off + n ≤ l.length, [(id, .live (.row t' sz false (l.take off)))], none, []⟩ else none
     | _, _, _ => none
   | _, _ => none
 | .min, _, [.d (.i k a), .d (.i k' b)] => if k = k' then q01 (.d (.i k (if b < a then b else a))) else none
 | .max, _, [.d (.i k a), .d (.i k' b)] => if k = k' then q01 (.d (.i k (if a < b then b else a))) else none
 | _, _, _ => none
def qe5 (s : St) (pl : List (Nat × Nat)) : List V → List (Nat × Operand) → Option (List V)
 | c, [] => some c
 | c, (i, x) :: r => match pl[i]?, (s.val x).bind V.cells with
   | some (off, n), some vc => if vc.length = n ∧ off + n ≤ c.length then qe5 s pl (q03 c off vc) r else none
   | _, _ => none
def optB : V → Option (Bool × Bool)
 | .d (.b p) => some (true, p)
 | .opt g (.d (.b p)) => some (g, p)
 | _ => none
def qdc (b : ByteArray) : List D := b.data.toList.map fun x => .i .u8 (x.toNat : Int)
def isU8 : D → Bool
 | .i .u8 _ => true
 | _ => false
def qj1 : D → UInt8
 | .i _ n => UInt8.ofNat n.toNat
 | _ => 0
def strD (l : List D) : ByteArray := ⟨(l.map qj1).toArray⟩
inductive CK where
 | int (k : IntKind)
 | str
 | bytes
 | none
def ckT (P : Program) (t : TypeId) : CK := match P.underlying t with
 | some (.int k) => .int k
 | some .string => .str
 | some (.slice e) => match P.underlying e with
   | some (.int .u8) => .bytes
   | _ => .none
 | _ => .none
def qfb (C : Cfg) (s : St) (src dst : TypeId) (v : V) : Option Res :=
 match ckT C.P src, ckT C.P dst, v with
 | .int _, .int k, .d (.i _ n) => q01 (.d (.i k (k.wrap n)))
 | .str, .str, .d (.s b) => q01 (.d (.s b))
 | .str, .bytes, .d (.s b) => q01 (.d (.sl 1 (qdc b)))
 | .bytes, .str, v => match qfj s 1 v with
   | some (ds, rd) => some ⟨ds.all isU8 = true, [], some (.d (.s (strD ds))), rd⟩
   | none => none
 | _, _, _ => none
def qfc (C : Cfg) (s : St) (dst : Option Tmp) (t : TypeId) (n c : V) : Option Res :=
 match qcj C.P t, n, c with
 | some e, .d (.i _ a), .d (.i _ b) => match q0u C.P e, qb1 C.P e, qbb C.P e with
   | some (sz + 1), some by_, some z => if z.length = sz + 1 then
      newObj s dst (0 ≤ a ∧ a = b ∧ a * (by_ : Int) ≤ 140737488355328 ∧ a ≤ 4611686018427387904 ∧ (zD C.P e).cells = z ∧ z.all D.one = true) (.row e (sz + 1) false (List.replicate a.toNat (zD C.P e))) (.row (nm dst 0) (sz + 1) 0 a.toNat) else none
   | _, _, _ => none
 | _, _, _ => none
def aop (C : Cfg) (quiet : Bool) (o : Oper) (s : St) : Option Res :=
 match o.op with
 | .move x | .assign x => (s.val x).bind q01
 | .pick c a b => match (s.val c).bind optB with
   | none => none
   | some (g0, x) => match (s.val a).bind optB, (s.val b).bind optB with
     | some (g1, p), some (g2, q) => qb2 (g0 = true ∧ (x = true → g1 = true) ∧ (x = false → g2 = true)) (.d (.b (bif x then p else q)))
     | va, vb => match x with
       | true => va.bind fun p => qb2 (g0 = true ∧ p.1 = true) (.d (.b p.2))
       | false => vb.bind fun p => qb2 (g0 = true ∧ p.1 = true) (.d (.b p.2))
 | .alloc t => match qbb C.P t with
   | some z => newObj s o.dst True (.box t (z.map .d)) (.ptr (nm o.dst 0) 0)
   | none => none
 | .box t x => match s.val x with
   | some v => v.cells.bind fun c => newObj s o.dst True (.box t c) (.ptr (nm o.dst 0) 0)
   | none => none
 | .load t x => match aggT C.P t, q0u C.P t, s.val x with
   | some g, some n, some p => loadAt (zD C.P) s g n p
   | _, _, _ => none
 | .store t x y => match q0u C.P t, s.val x, s.val y with
   | some n, some p, some v => storeAt (zD C.P) s n p v
   | _, _, _ => none
 | .nilCheck x => match s.val x with
   | some v => match v with
     | .ptr _ _ | .rp _ _ _ _ | .d (.cp _) => q01 v
     | _ => none
   | none => none
 | .binOp op t x y _ => match s.val x, s.val y with
   | some a, some b => qf2 C s op t a b
   | _, _ => none
 | .unOp op _ x => match s.val x with
   | some (.d a) => (unD op a).bind fun d => q01 (.d d)
   | some (.ub a) => if op = .not then q01 (.nb a) else none
   | some (.nb a) => if op = .not then q01 (.ub a) else none
   | _ => none
 | .fieldAddr t x f => match offT C.P t f, s.val x with
   | some (off, _), some (.ptr id o) => q01 (.ptr id (o + off))
   | some (off, _), some (.rp id sz j o) => q01 (.rp id sz j (o + off))
   | some (off, _), some (.d (.cp l)) => q01 (.d (.cp (l.drop off)))
   | _, _ => none
 | .field t x f => match offT C.P t f, (qcv C.P t f).bind (aggT C.P), s.val x with
   | some (off, n), some g, some (.d (.agg l)) => (ldD g n l off).bind q01
   | some (off, n), some g, some (.agg l) => (ldV g n l off).bind q01
   | _, _, _ => none
 | .indexAddr t x y => match qcj C.P t, s.val x, s.val y with
   | some e, some (.d (.sl sz l)), some (.d (.i _ i)) => if q0u C.P e = some sz then qb2 (0 ≤ i ∧ i < (l.length : Int)) (.d (.cp (l.getD i.toNat (zD C.P e)).cells)) else none
   | some e, some (.row id sz off n), some (.d (.i _ i)) => if q0u C.P e = some sz then qb2 (0 ≤ i ∧ i < (n : Int)) (.rp id sz (off + i.toNat) 0) else none
   | _, _, _ => none
 | .index t x y => match C.P.underlying t, s.val x, s.val y with
   | some .string, some (.d (.s b)), some (.d (.i _ i)) => qb2 (0 ≤ i ∧ i < (b.size : Int)) (.d (.i .u8 (b.data.toList.getD i.toNat 0).toNat))
   | _, _, _ => none
 | .build t parts => match qbb C.P t, qfa C.P t with
   | some z, some pl => (qe5 s pl (z.map .d) parts.toList).bind fun c => q01 (mkAgg c)
   | _, _ => none
 | .buildSlice t n parts => match qcj C.P t with
   | some e => match q0u C.P e, qbb C.P e, vals s (parts.toList.map (·.2)) with
     | some (sz + 1), some z, some vs => match toDs (toD3 s) vs with
       | some (ds, []) => if parts.toList.map (·.1) = List.range n ∧ n * (sz + 1) ≤ 16777216 ∧ z.length = sz + 1 then
          newObj s o.dst (∀ d ∈ ds, d.fits (sz + 1)) (.row e (sz + 1) false ds) (.row (nm o.dst 0) (sz + 1) 0 n) else none
       | some (ds, k :: is) => if parts.toList.map (·.1) = List.range n ∧ n * (sz + 1) ≤ 16777216 ∧ z.length = sz + 1 then
          (newObj s o.dst (∀ d ∈ ds, d.fits (sz + 1)) (.row e (sz + 1) false ds) (.row (nm o.dst 0) (sz + 1) 0 n)).map fun r => ⟨r.ok, r.dl.hp ++ q0t s (k :: is) [], r.dl.v, k :: is⟩ else none
       | _ => none
     | _, _, _ => none
   | none => none
 | .slice t x lo hi mx => match C.P.underlying t, s.val x with
   | some .string, some (.d (.s b)) => qd7 s b lo hi mx
   | some (.slice e), some v => match q0u C.P e with
     | some n => qeo s n v lo hi mx
     | none => none
   | _, _ => none
 | .extract x i => match s.val x with
   | some (.tup l) => (l[i]?).bind q01
   | _ => none
 | .makeFunc (.func f) first caps => if first = #[] then (match vals s caps.toList with
     | some vs => q01 (match vs.mapM V.asD with | some ds => .d (.fn f ds) | none => .fn f vs)
     | none => none) else none
 | .makeMap t none => newObj s o.dst True (.mp t [] []) (.mref (nm o.dst 0))
 | .lookup t x y cm => match s.val x, s.val y with
   | some m, some k => qds C s t m k cm
   | _, _ => none
 | .mapUpdate t x y z => match s.val x, s.val y, s.val z with
   | some m, some k, some v => qcg C s t m k v
   | _, _, _ => none
 | .convert src dst x => match s.val x with
   | some v => qfb C s src dst v
   | none => none
 | .makeSlice t x y => match s.val x, s.val y with
   | some n, some c => qfc C s o.dst t n c
   | _, _ => none
 | .call c => match vals s c.args.toList with
   | none => none
   | some vs => match c.callee with
     | .builtin b => qep C s o.dst b c.argTypes.toList vs
     | .value x => match s.val x with
       | some (.d (.fn f ds)) => qbt C quiet s o.dst f (vs ++ ds.map .d)
       | some (.fn f caps) => qbt C quiet s o.dst f (vs ++ caps)
       | _ => none
     | _ => none
 | _ => none
def qbp (g : Bool) (s : St) : List Operand → Prop × St
 | [] => (True, s)
 | .tmp t :: r => match s.sl t with
   | some (.opt g' v) => let (p, s') := qbp g ⟨fun i => if i = t then some v else s.sl i, s.hp⟩ r; ((g = true → g' = true) ∧ p, s')
   | _ => qbp g s r
 | _ :: r => qbp g s r
def qlp (o : Oper) : Bool := match o.op with
 | .pick .. => true
 | .move _ | .assign _ => o.guard.isNone
 | _ => false
def aopU (C : Cfg) (quiet : Bool) (g : Bool) (o : Oper) (s : St) : Option Res :=
 if qlp o then aop C quiet o s
 else (aop C quiet o (qbp g s o.op.operands.toList).2).map fun r => ⟨(qbp g s o.op.operands.toList).1 ∧ r.ok, r.dl⟩
def qcc (g : Bool) (r : Option Res) : Option Res :=
 match r with
 | some ⟨ok, ⟨[], some v, rd⟩⟩ => some ⟨g = true → ok, [], some (.opt g v), rd⟩
 | r => match g with
   | true => r
   | false => some ⟨True, [], none, []⟩
def qbx (ops : Array Oper) (j : Nat) : Option Tmp := (ops[j]?).bind (·.dst)
def qey (want : Bool) : Option V → Option Bool
 | some (.d (.b x)) => some (x == want)
 | some (.opt g (.d (.b x))) => some (g && x == want)
 | _ => none
def aop1 (C : Cfg) (quiet : Bool) (ops : Array Oper) (o : Oper) (s : St) : Option Res :=
 match o.guard with
 | none => aopU C quiet true o s
 | some (j, want) => match qey want ((qbx ops j).bind s.sl) with
   | some g => qcc g (aopU C quiet g o s)
   | none => none
def aops (C : Cfg) (ops : Array Oper) : List Oper → St → Option (Prop × St)
 | [], s => some (True, s)
 | o :: os, s => match aop1 C false ops o s with
   | none => none
   | some r => match aops C ops os (r.dl.app C o.dst s) with
     | none => none
     | some (p, s') => some (r.ok ∧ p, s')
end Go.Ev
namespace Go.Ev
def Xs (X0 : Nat → Prop) (hp : Nat → HS) (bt : Nat → Option Nat) (b : Nat) : Prop := X0 b ∨ ∃ id, (hp id).isLive = true ∧ bt id = some b
def Nf (hp : Nat → HS) (id : Nat) : Prop := (hp id).isFree = false
structure Fr (Mv : Nat → Prop) (w w' : World) : Prop where
 ext : Ext Mv w w'
 os : w'.os = w.os
 tape : w'.tape = w.tape
 output : w'.output = w.output
theorem Fr.refl (Mv : Nat → Prop) (w : World) : Fr Mv w w := ⟨Ext.refl _ _, rfl, rfl, rfl⟩
theorem Fr.trans {Mv : Nat → Prop} {a b c : World} (h : Fr Mv a b) (k : Fr Mv b c) : Fr Mv a c :=
 ⟨h.ext.trans k.ext, k.os.trans h.os, k.tape.trans h.tape, k.output.trans h.output⟩
structure Env where
 X0 : Nat → Prop
 Mv : Nat → Prop
 w0 : World
 hx : ∀ b, X0 b → b < w0.heap.size
 pin : Nat → Option Nat
 gi : GI w0 (fun b => X0 b ∨ Mv b)
structure Rel (C : Cfg) (E : Env) (bt : Nat → Option Nat) (s : St) (a : Act) (w : World) : Prop where
 df : a.defers = []
 sz : a.tmps.size = C.N
 slots : ∀ i v, s.sl i = some v → VR w (Xs E.X0 s.hp bt) bt (Nf s.hp) (a.tmps.getD i undef) v
 objs : ∀ id o, (s.hp id).obj? = some o → OR w (Xs E.X0 s.hp bt) bt (Nf s.hp) id o
 inj : ∀ i j bk, (s.hp i).isLive = true → (s.hp j).obj?.isSome = true → bt i = some bk → bt j = some bk → i = j
 own : ∀ i bk, (s.hp i).isLive = true → bt i = some bk → (E.w0.heap.size ≤ bk ∨ E.Mv bk) ∧ ¬ E.X0 bk
 nx : ∀ i bk, (s.hp i).obj?.isSome = true → bt i = some bk → ¬ E.X0 bk
 fr : Fr E.Mv E.w0 w
 pin : ∀ p b, E.pin p = some b → p ∈ C.pins ∧ bt p = some b ∧ Nf s.hp p
theorem Rel.gi {C : Cfg} {E : Env} {bt : Nat → Option Nat} {s : St} {a : Act} {w : World} (h : Rel C E bt s a w) : GI w (Xs E.X0 s.hp bt) := by
 refine ⟨Glob.ext _ _ E.gi.inv fun b hb => h.fr.ext.same b (Glob.lt E.gi.inv hb) fun hm => E.gi.not b hb (.inr hm), fun b hb hx => ?_⟩
 rcases hx with hx | ⟨i, hi, he⟩
 ·exact E.gi.not b hb (.inl hx)
 ·rcases (h.own i b hi he).1 with k | k
  ·have := Glob.lt E.gi.inv hb; omega
  ·exact E.gi.not b hb (.inr k)
theorem qdz {h : HS} {o : Obj'} (e : h.obj? = some o) : h.isFree = false := by cases h <;> simp_all [HS.obj?, HS.isFree]
theorem qc5 {h : HS} (e : h.isLive = true) : h.obj?.isSome = true := by cases h <;> simp_all [HS.obj?, HS.isLive]
theorem qd9 {h : HS} (e : h.isLive = true) : h.isFree = false := by cases h <;> simp_all [HS.isFree, HS.isLive]
theorem OR.lt {w : World} {X : Nat → Prop} {bt : Nat → Option Nat} {nf : Nat → Prop} {id bk : Nat} {o : Obj'} (h : OR w X bt nf id o) (hb : bt id = some bk) : bk < w.heap.size := by
 have key : ∀ {cs : Array Value} {t : TypeId}, w.heap[bk]? = some (.cells cs t (0, 0)) → bk < w.heap.size := fun hk => by
  rcases Nat.lt_or_ge bk w.heap.size with h' | h'
  ·exact h'
  ·simp [Array.getElem?_eq_none h'] at hk
 cases o with
 | box t c =>
   obtain ⟨bk', cs, h1, h2, _⟩ := h
   rw [hb] at h1; cases h1
   exact key h2
 | row t sz z l =>
   obtain ⟨_, _, h2⟩ := h
   rcases h2 with ⟨h3, _⟩ | ⟨bk', cs, h3, h4, _⟩
   ·rw [hb] at h3; cases h3
   ·rw [hb] at h3; cases h3
    exact key h4
 | mp t ks vs =>
   obtain ⟨bk', es, clock, h1, h2, _⟩ := h
   rw [hb] at h1; cases h1
   exact (Array.getElem?_eq_some_iff.1 h2).1
section
variable {C : Cfg} {E : Env} {bt : Nat → Option Nat} {s : St} {a : Act} {w : World}
theorem Rel.lt (h : Rel C E bt s a w) {i bk : Nat} (hl : (s.hp i).obj?.isSome = true) (hb : bt i = some bk) : bk < w.heap.size := by
 obtain ⟨o, ho⟩ := Option.isSome_iff_exists.1 hl
 exact (h.objs i o ho).lt hb
theorem qd0 (a : Act) (d i : Nat) (v : Value) (h : d < a.tmps.size) : (a.put (some d) v).tmps.getD i undef = if i = d then v else a.tmps.getD i undef := by
 simp only [Act.put, Array.getD_eq_getD_getElem?, Array.getElem?_setIfInBounds]
 by_cases e : i = d
 ·subst e; simp [h]
 ·rw [if_neg (fun h => e h.symm), if_neg e]
theorem qdi (a : Act) (dst : Option Tmp) (v : Value) : (a.put dst v).tmps.size = a.tmps.size := by cases dst <;> simp [Act.put]
theorem qfv (a : Act) (dst : Option Tmp) (v : Value) : (a.put dst v).defers = a.defers := by cases dst <;> simp [Act.put]
theorem qgd {w' : World} {X : Nat → Prop} {bt' : Nat → Option Nat} {nf : Nat → Prop} {dst : Option Tmp} {v : Value} {x : Option V} {N : Nat} {sl : Nat → Option V}
 (hsz : a.tmps.size = N) (hold : ∀ i y, sl i = some y → VR w' X bt' nf (a.tmps.getD i undef) y) (hnew : ∀ y, x = some y → VR w' X bt' nf v y) :
 ∀ i y, qfi N sl dst x i = some y → VR w' X bt' nf ((a.put dst v).tmps.getD i undef) y := by
 intro i y h
 cases dst with
 | none => exact hold i y h
 | some d =>
   simp only [qfi] at h
   by_cases e : i = d
   ·subst e
    simp only [if_true] at h
    by_cases hd : i < N
    ·rw [if_pos hd] at h
     rw [qd0 a i i v (by omega), if_pos rfl]
     exact hnew y h
    ·rw [if_neg hd] at h; cases h
   ·rw [if_neg e] at h
    have : (a.put (some d) v).tmps.getD i undef = a.tmps.getD i undef := by
     rcases Nat.lt_or_ge d a.tmps.size with hd | hd
     ·rw [qd0 a d i v hd, if_neg e]
     ·simp only [Act.put, Array.getD_eq_getD_getElem?, Array.getElem?_setIfInBounds]
      rw [if_neg (fun h => e h.symm)]
    rw [this]
    exact hold i y h
theorem Rel.heap {w' : World} (h : Rel C E bt s a w) (hh : w'.heap = w.heap) (ho : w'.os = w.os) (ht : w'.tape = w.tape) (hu : w'.output = w.output) : Rel C E bt s a w' := by
 have he : ∀ X, Ext X w w' := fun X => ⟨by rw [hh]; exact Nat.le_refl _, fun b _ _ => by rw [hh], fun b cs t hb => ⟨cs, by rw [hh]; exact hb, rfl⟩⟩
 refine ⟨h.df, h.sz, fun i v hv => (h.slots i v hv).ext (he _) (fun _ _ hx => hx) (fun _ _ => rfl) (fun _ hf => hf),
  fun id o hid => (h.objs id o hid).ext (he _) (fun _ _ hx => hx) (fun _ _ => rfl) (fun _ hf => hf) (qdz hid) (fun bk _ => by rw [hh]), h.inj, h.own, h.nx, h.fr.trans ⟨he _, ho, ht, hu⟩, h.pin⟩
theorem Rel.pure (h : Rel C E bt s a w) {v : Value} {x : Option V} {rd : List Nat} (dst : Option Tmp) (hv : ∀ y, x = some y → VR w (Xs E.X0 s.hp bt) bt (Nf s.hp) v y) :
 Rel C E bt (Delta.app C dst ⟨[], x, rd⟩ s) (a.put dst v) w :=
 ⟨(qfv _ _ _).trans h.df, (qdi _ _ _).trans h.sz, qgd h.sz h.slots hv, h.objs, h.inj, h.own, h.nx, h.fr, h.pin⟩
theorem qbo (hp : Nat → HS) (id : Nat) (o : HS) (i : Nat) : q0e hp [(id, o)] i = if i = id then o else hp i := rfl
theorem qry (X : Nat → Prop) (w : World) (o : Obj) : Ext X w (w.alloc o) :=
 ⟨by simp, fun b hb _ => Go.RowKit.Below.heap_alloc w o b hb, fun b cs t hb => ⟨cs, by
   rw [Go.RowKit.Below.heap_alloc w o b (by
    rcases Nat.lt_or_ge b w.heap.size with h' | h'
    ·exact h'
    ·simp [Array.getElem?_eq_none h'] at hb)]
   exact hb, rfl⟩⟩
theorem qiw (X : Nat → Prop) (w : World) (o : Obj) : Fr X w (w.alloc o) := ⟨qry X w o, rfl, rfl, rfl⟩
theorem qkr (w : World) (o : Obj) : (w.alloc o).heap[w.heap.size]? = some o := by
 show (w.heap.push o)[w.heap.size]? = some o
 simp
theorem Rel.make (h : Rel C E bt s a w) {id : Nat} (hfree : (s.hp id).isFree = true) {w' : World} (o : Obj') (b? : Option Nat) (hfr : ∀ M, Fr M w w')
 (hb : ∀ bk, b? = some bk → w.heap.size ≤ bk)
 (ho : OR w' (Xs E.X0 (q0e s.hp [(id, .live o)]) (fun i => if i = id then b? else bt i)) (fun i => if i = id then b? else bt i) (Nf (q0e s.hp [(id, .live o)])) id o)
 (dst : Option Tmp) (v : Value) (x : Option V) (rd : List Nat)
 (hv : ∀ y, x = some y → VR w' (Xs E.X0 (q0e s.hp [(id, .live o)]) (fun i => if i = id then b? else bt i)) (fun i => if i = id then b? else bt i) (Nf (q0e s.hp [(id, .live o)])) v y) :
 Rel C E (fun i => if i = id then b? else bt i) (Delta.app C dst ⟨[(id, .live o)], x, rd⟩ s) (a.put dst v) w' := by
 have hX : ∀ b, b < w.heap.size → Xs E.X0 (q0e s.hp [(id, .live o)]) (fun i => if i = id then b? else bt i) b → Xs E.X0 s.hp bt b := by
  intro b hlt hx
  rcases hx with hx | ⟨i, hi, he⟩
  ·exact .inl hx
  ·by_cases e : i = id
   ·subst e
    simp only [if_true] at he
    have := hb b he
    omega
   ·simp only [qbo, if_neg e] at hi he
    exact .inr ⟨i, hi, he⟩
 have hbt : ∀ i, Nf s.hp i → (fun i => if i = id then b? else bt i) i = bt i := by
  intro i hi
  have : i ≠ id := fun e => by subst e; simp [Nf, hfree] at hi
  simp [this]
 have hnf : ∀ i, Nf s.hp i → Nf (q0e s.hp [(id, .live o)]) i := by
  intro i hi
  have : i ≠ id := fun e => by subst e; simp [Nf, hfree] at hi
  simpa [Nf, qbo, this] using hi
 have hold : ∀ i o', i ≠ id → (s.hp i).obj? = some o' → OR w' (Xs E.X0 (q0e s.hp [(id, .live o)]) (fun i => if i = id then b? else bt i)) (fun i => if i = id then b? else bt i) (Nf (q0e s.hp [(id, .live o)])) i o' := by
  intro i o' _ ho'
  exact (h.objs i o' ho').ext (hfr _).ext hX hbt hnf (qdz ho') (fun bk hbk => (hfr (fun _ => False)).ext.same bk ((h.objs i o' ho').lt hbk) (fun hh => hh))
 refine ⟨(qfv _ _ _).trans h.df, (qdi _ _ _).trans h.sz, qgd h.sz (fun i y hy => (h.slots i y hy).ext (hfr _).ext hX hbt hnf) hv, ?_, ?_, ?_, ?_, h.fr.trans (hfr _), fun p b hp => let ⟨h1, h2, h3⟩ := h.pin p b hp; ⟨h1, (hbt p h3).trans h2, hnf p h3⟩⟩
 ·intro i o' ho'
  simp only [Delta.app, qbo] at ho' ⊢
  by_cases e : i = id
  ·subst e
   simp only [if_true, HS.obj?, Option.some.injEq] at ho'
   subst ho'
   exact ho
  ·rw [if_neg e] at ho'
   exact hold i o' e ho'
 ·intro i j bk hi hj hbi hbj
  simp only [Delta.app, qbo] at hi hj hbi hbj
  by_cases ei : i = id
  ·by_cases ej : j = id
   ·rw [ei, ej]
   ·rw [if_neg ej] at hj hbj
    rw [if_pos ei] at hbi
    have := h.lt hj hbj
    have := hb bk hbi
    omega
  ·rw [if_neg ei] at hi hbi
   by_cases ej : j = id
   ·rw [if_pos ej] at hbj
    have := h.lt (qc5 hi) hbi
    have := hb bk hbj
    omega
   ·rw [if_neg ej] at hj hbj
    exact h.inj i j bk hi hj hbi hbj
 ·intro i bk hi hbi
  simp only [Delta.app, qbo] at hi hbi
  by_cases ei : i = id
  ·rw [if_pos ei] at hbi
   have h1 := hb bk hbi
   have h2 := h.fr.ext.size
   exact ⟨.inl (by omega), fun hx => by have := E.hx bk hx; omega⟩
  ·rw [if_neg ei] at hi hbi
   exact h.own i bk hi hbi
 ·intro i bk hi hbi
  simp only [Delta.app, qbo] at hi hbi
  by_cases ei : i = id
  ·rw [if_pos ei] at hbi
   have h1 := hb bk hbi
   have h2 := h.fr.ext.size
   exact fun hx => by have := E.hx bk hx; omega
  ·rw [if_neg ei] at hi hbi
   exact h.nx i bk hi hbi
theorem qb7 {X0 : Nat → Prop} {hp : Nat → HS} {bt : Nat → Option Nat} {id bk : Nat} (hl : (hp id).isLive = true) (hb : bt id = some bk) : Xs X0 hp bt bk := .inr ⟨id, hl, hb⟩
theorem Rel.write (h : Rel C E bt s a w) {id : Nat} {o0 : Obj'} (hl : s.hp id = .live o0) {w' : World} (o : Obj') (hfr : Fr (fun b => bt id = some b) w w')
 (ho : OR w' (Xs E.X0 s.hp bt) bt (Nf s.hp) id o) (dst : Option Tmp) (v : Value) (x : Option V) (rd : List Nat)
 (hv : ∀ y, x = some y → VR w' (Xs E.X0 s.hp bt) bt (Nf s.hp) v y) :
 Rel C E bt (Delta.app C dst ⟨[(id, .live o)], x, rd⟩ s) (a.put dst v) w' := by
 have hlive : ∀ i, (q0e s.hp [(id, .live o)] i).isLive = (s.hp i).isLive := by
  intro i; rw [qbo]; by_cases e : i = id
  ·subst e; rw [if_pos rfl, hl]; rfl
  ·rw [if_neg e]
 have hsome : ∀ i, (q0e s.hp [(id, .live o)] i).obj?.isSome = (s.hp i).obj?.isSome := by
  intro i; rw [qbo]; by_cases e : i = id
  ·subst e; rw [if_pos rfl, hl]; rfl
  ·rw [if_neg e]
 have hfreeE : ∀ i, (q0e s.hp [(id, .live o)] i).isFree = (s.hp i).isFree := by
  intro i; rw [qbo]; by_cases e : i = id
  ·subst e; rw [if_pos rfl, hl]; rfl
  ·rw [if_neg e]
 have hXe : Xs E.X0 (q0e s.hp [(id, .live o)]) bt = Xs E.X0 s.hp bt := by
  funext b; simp only [Xs, hlive]
 have hNe : Nf (q0e s.hp [(id, .live o)]) = Nf s.hp := by
  funext i; simp only [Nf, hfreeE]
 have hidl : (s.hp id).isLive = true := by rw [hl]; rfl
 have hext : Ext (Xs E.X0 s.hp bt) w w' := hfr.ext.mono (fun b hb => qb7 hidl hb)
 have hMv : Fr E.Mv E.w0 w' := by
  have := h.fr
  refine ⟨⟨Nat.le_trans this.ext.size hfr.ext.size, fun b hb hm => ?_, (this.ext.mono (X' := fun _ => True) (fun _ _ => trivial)).trans (hfr.ext.mono (X' := fun _ => True) (fun _ _ => trivial)) |>.shape⟩, hfr.os.trans this.os, hfr.tape.trans this.tape, hfr.output.trans this.output⟩
  rw [hfr.ext.same b (Nat.lt_of_lt_of_le hb this.ext.size) (fun hbt => ?_)]
  ·exact this.ext.same b hb hm
  ·have := (h.own id b hidl hbt).1
   rcases this with h1 | h1
   ·omega
   ·exact hm h1
 refine ⟨(qfv _ _ _).trans h.df, (qdi _ _ _).trans h.sz, ?_, ?_, ?_, ?_, ?_, hMv, fun p b hp => let ⟨h1, h2, h3⟩ := h.pin p b hp; ⟨h1, h2, by show Nf (q0e s.hp [(id, .live o)]) p; rw [hNe]; exact h3⟩⟩
 ·simp only [Delta.app, hXe, hNe]
  exact qgd h.sz (fun i y hy => (h.slots i y hy).ext hext (fun _ _ hx => hx) (fun _ _ => rfl) (fun _ hf => hf)) hv
 ·intro i o' ho'
  simp only [Delta.app, hXe, hNe] at ho' ⊢
  by_cases e : i = id
  ·subst e
   rw [qbo, if_pos rfl] at ho'
   simp only [HS.obj?, Option.some.injEq] at ho'
   subst ho'
   exact ho
  ·rw [qbo, if_neg e] at ho'
   refine (h.objs i o' ho').ext hext (fun _ _ hx => hx) (fun _ _ => rfl) (fun _ hf => hf) (qdz ho') (fun bk hbk => ?_)
   refine hfr.ext.same bk ((h.objs i o' ho').lt hbk) (fun hh => e ?_)
   exact (h.inj id i bk hidl (by rw [ho']; rfl) hh hbk).symm
 ·intro i j bk hi hj
  simp only [Delta.app, hlive, hsome] at hi hj
  exact h.inj i j bk hi hj
 ·intro i bk hi
  simp only [Delta.app, hlive] at hi
  exact h.own i bk hi
 ·intro i bk hi
  simp only [Delta.app, hsome] at hi
  exact h.nx i bk hi
theorem Rel.drop (h : Rel C E bt s a w) (hp' : Nat → HS) (hd : ∀ i, hp' i = s.hp i ∨ (∃ o, s.hp i = .live o ∧ hp' i = .fz o) ∨ ((s.hp i).isFree = false ∧ hp' i = .dead)) :
 Rel C E bt ⟨s.sl, hp'⟩ a w := by
 have hX : ∀ b, Xs E.X0 hp' bt b → Xs E.X0 s.hp bt b := by
  rintro b (hx | ⟨i, hi, he⟩)
  ·exact .inl hx
  ·refine .inr ⟨i, ?_, he⟩
   rcases hd i with e | ⟨o, e1, e2⟩ | ⟨e1, e2⟩
   ·rw [← e]; exact hi
   ·rw [e1]; rfl
   ·rw [e2] at hi; cases hi
 have hN : ∀ i, Nf s.hp i → Nf hp' i := by
  intro i hi
  rcases hd i with e | ⟨o, e1, e2⟩ | ⟨e1, e2⟩
  ·simpa [Nf, e] using hi
  ·simp [Nf, e2, HS.isFree]
  ·simp [Nf, e2, HS.isFree]
 have hobj : ∀ i o, (hp' i).obj? = some o → (s.hp i).obj? = some o := by
  intro i o ho
  rcases hd i with e | ⟨o', e1, e2⟩ | ⟨e1, e2⟩
  ·rw [← e]; exact ho
  ·rw [e2] at ho; rw [e1]; exact ho
  ·rw [e2] at ho; cases ho
 have hlive : ∀ i, (hp' i).isLive = true → (s.hp i).isLive = true := by
  intro i hi
  rcases hd i with e | ⟨o', e1, e2⟩ | ⟨e1, e2⟩
  ·rw [← e]; exact hi
  ·rw [e1]; rfl
  ·rw [e2] at hi; cases hi
 refine ⟨h.df, h.sz, fun i v hv => (h.slots i v hv).ext (Ext.refl _ _) (fun b _ => hX b) (fun _ _ => rfl) hN,
  fun i o ho => (h.objs i o (hobj i o ho)).ext (Ext.refl _ _) (fun b _ => hX b) (fun _ _ => rfl) hN (qdz (hobj i o ho)) (fun _ _ => rfl), ?_, fun i bk hi => h.own i bk (hlive i hi), fun i bk hi hb => by
   obtain ⟨o, ho⟩ := Option.isSome_iff_exists.1 hi
   exact h.nx i bk (by rw [hobj i o ho]; rfl) hb, h.fr, fun p b hp => let ⟨h1, h2, h3⟩ := h.pin p b hp; ⟨h1, h2, hN p h3⟩⟩
 intro i j bk hi hj
 obtain ⟨o, ho⟩ := Option.isSome_iff_exists.1 hj
 exact h.inj i j bk (hlive i hi) (by rw [hobj j o ho]; rfl)
theorem Rel.adopt (h : Rel C E bt s a w) {id id' : Nat} {o0 : Obj'} (hl : s.hp id = .live o0) (hfree : (s.hp id').isFree = true) {w' : World} (o : Obj') (hfr : Fr (fun b => bt id = some b) w w')
 (dst : Option Tmp) (v : Value) (x : Option V) (rd : List Nat)
 (ho : OR w' (Xs E.X0 s.hp bt) (fun i => if i = id' then bt id else bt i) (Nf (q0e s.hp [(id, .dead), (id', .live o)])) id' o)
 (hv : ∀ y, x = some y → VR w' (Xs E.X0 s.hp bt) (fun i => if i = id' then bt id else bt i) (Nf (q0e s.hp [(id, .dead), (id', .live o)])) v y) :
 Rel C E (fun i => if i = id' then bt id else bt i) (Delta.app C dst ⟨[(id, .dead), (id', .live o)], x, rd⟩ s) (a.put dst v) w' := by
 have hne : id ≠ id' := fun e => by subst e; rw [hl] at hfree; cases hfree
 have hidl : (s.hp id).isLive = true := by rw [hl]; rfl
 have hup : ∀ i, q0e s.hp [(id, .dead), (id', .live o)] i = if i = id then .dead else if i = id' then .live o else s.hp i := fun i => rfl
 have hXe : Xs E.X0 (q0e s.hp [(id, .dead), (id', .live o)]) (fun i => if i = id' then bt id else bt i) = Xs E.X0 s.hp bt := by
  funext b
  apply propext
  constructor
  ·rintro (hx | ⟨i, hi, he⟩)
   ·exact .inl hx
   ·rw [hup] at hi
    simp only at he
    by_cases e1 : i = id
    ·rw [if_pos e1] at hi; cases hi
    ·rw [if_neg e1] at hi
     by_cases e2 : i = id'
     ·rw [if_pos e2] at he; exact .inr ⟨id, hidl, he⟩
     ·rw [if_neg e2] at hi he; exact .inr ⟨i, hi, he⟩
  ·rintro (hx | ⟨i, hi, he⟩)
   ·exact .inl hx
   ·by_cases e1 : i = id
    ·subst e1
     refine .inr ⟨id', ?_, by simp [he]⟩
     rw [hup, if_neg (fun e => hne e.symm), if_pos rfl]; rfl
    ·refine .inr ⟨i, ?_, ?_⟩
     ·rw [hup, if_neg e1, if_neg (fun e => by subst e; rw [qd9 hi] at hfree; cases hfree)]; exact hi
     ·simp only; rw [if_neg (fun e => by subst e; rw [qd9 hi] at hfree; cases hfree)]; exact he
 have hN : ∀ i, Nf s.hp i → Nf (q0e s.hp [(id, .dead), (id', .live o)]) i := by
  intro i hi
  simp only [Nf, hup]
  by_cases e1 : i = id
  ·rw [if_pos e1]; rfl
  ·rw [if_neg e1]
   by_cases e2 : i = id'
   ·rw [if_pos e2]; rfl
   ·rw [if_neg e2]; exact hi
 have hbt : ∀ i, Nf s.hp i → (fun i => if i = id' then bt id else bt i) i = bt i := by
  intro i hi
  have : i ≠ id' := fun e => by subst e; simp [Nf, hfree] at hi
  simp [this]
 have hext : Ext (Xs E.X0 s.hp bt) w w' := hfr.ext.mono (fun b hb => qb7 hidl hb)
 have hMv : Fr E.Mv E.w0 w' := by
  have := h.fr
  refine ⟨⟨Nat.le_trans this.ext.size hfr.ext.size, fun b hb hm => ?_, (this.ext.mono (X' := fun _ => True) (fun _ _ => trivial)).trans (hfr.ext.mono (X' := fun _ => True) (fun _ _ => trivial)) |>.shape⟩, hfr.os.trans this.os, hfr.tape.trans this.tape, hfr.output.trans this.output⟩
  rw [hfr.ext.same b (Nat.lt_of_lt_of_le hb this.ext.size) (fun hbt => ?_)]
  ·exact this.ext.same b hb hm
  ·have := (h.own id b hidl hbt).1
   rcases this with h1 | h1
   ·omega
   ·exact hm h1
 refine ⟨(qfv _ _ _).trans h.df, (qdi _ _ _).trans h.sz, ?_, ?_, ?_, ?_, ?_, hMv, fun p b hp => let ⟨h1, h2, h3⟩ := h.pin p b hp; ⟨h1, (if_neg (fun e => by subst e; simp [Nf, hfree] at h3)).trans h2, hN p h3⟩⟩
 ·simp only [Delta.app, hXe]
  exact qgd h.sz (fun i y hy => (h.slots i y hy).ext hext (fun _ _ hx => hx) hbt hN) hv
 ·intro i o' ho'
  simp only [Delta.app, hXe] at ho' ⊢
  rw [hup] at ho'
  by_cases e1 : i = id
  ·rw [if_pos e1] at ho'; cases ho'
  ·rw [if_neg e1] at ho'
   by_cases e2 : i = id'
   ·subst e2
    rw [if_pos rfl] at ho'
    simp only [HS.obj?, Option.some.injEq] at ho'
    subst ho'
    exact ho
   ·rw [if_neg e2] at ho'
    refine (h.objs i o' ho').ext hext (fun _ _ hx => hx) hbt hN (qdz ho') (fun bk hbk => ?_)
    refine hfr.ext.same bk ((h.objs i o' ho').lt hbk) (fun hh => e1 ?_)
    exact (h.inj id i bk hidl (by rw [ho']; rfl) hh hbk).symm
 ·intro i j bk hi hj hbi hbj
  simp only [Delta.app, hup] at hi hj hbi hbj
  have e1 : i ≠ id := fun e => by rw [if_pos e] at hi; cases hi
  have e2 : j ≠ id := fun e => by rw [if_pos e] at hj; cases hj
  rw [if_neg e1] at hi
  rw [if_neg e2] at hj
  by_cases f1 : i = id'
  ·by_cases f2 : j = id'
   ·rw [f1, f2]
   ·rw [if_neg f2] at hj hbj
    rw [if_pos f1] at hbi
    exact absurd (h.inj id j bk hidl hj hbi hbj).symm e2
  ·rw [if_neg f1] at hi hbi
   by_cases f2 : j = id'
   ·rw [if_pos f2] at hbj
    exact absurd (h.inj i id bk hi (by rw [hl]; rfl) hbi hbj) e1
   ·rw [if_neg f2] at hj hbj
    exact h.inj i j bk hi hj hbi hbj
 ·intro i bk hi hbi
  simp only [Delta.app, hup] at hi hbi
  have e1 : i ≠ id := fun e => by rw [if_pos e] at hi; cases hi
  rw [if_neg e1] at hi
  by_cases f1 : i = id'
  ·rw [if_pos f1] at hbi
   exact h.own id bk hidl hbi
  ·rw [if_neg f1] at hi hbi
   exact h.own i bk hi hbi
 ·intro i bk hi hbi
  simp only [Delta.app, hup] at hi hbi
  have e1 : i ≠ id := fun e => by rw [if_pos e] at hi; cases hi
  rw [if_neg e1] at hi
  by_cases f1 : i = id'
  ·rw [if_pos f1] at hbi
   exact h.nx id bk (qc5 hidl) hbi
  ·rw [if_neg f1] at hi hbi
   exact h.nx i bk hi hbi
end
end Go.Ev
namespace Go.Ev
section
variable {C : Cfg} {E : Env} {bt : Nat → Option Nat} {s : St} {a : Act} {w : World} {X : Nat → Prop} {nf : Nat → Prop}
theorem qij {c : Value} {d : D} (h : cval c = some d) : RD w X c d := by
 unfold cval at h
 split at h <;> first | (cases h; first | exact .b _ | exact .i _ _ | exact .s _ | exact .nil | exact .np | exact .mp0) | cases h
theorem q27 {c : Value} {d : D} (h : cval c = some d) : d.one = true := by
 unfold cval at h
 split at h <;> first | (cases h; rfl) | cases h
theorem q0s (h : Rel C E bt s a w) {x : Operand} {v : V} (hv : s.val x = some v) : VR w (Xs E.X0 s.hp bt) bt (Nf s.hp) (a.eval x) v := by
 cases x with
 | tmp t => exact h.slots t v hv
 | const c =>
   simp only [St.val, Option.map_eq_some_iff] at hv
   obtain ⟨d, hd, rfl⟩ := hv
   exact .d _ _ (qij hd)
 | global g =>
   simp only [St.val, Option.map_eq_some_iff] at hv
   obtain ⟨l, hl, rfl⟩ := hv
   exact .d _ _ (Glob.rd w _ g l h.gi.inv hl h.gi.not)
 | func f =>
   simp only [St.val, Option.some.injEq] at hv
   subst hv
   exact .d _ _ (.fn f #[] [] rfl (fun j v d hj => by simp at hj))
def Out (C : Cfg) (E : Env) (o : Oper) (s : St) (a : Act) (w : World) (δ : Delta) : Prop :=
 ∃ n v w' bt', (execOp a.eval o).run C.P w = .ok n w' ∧ (n = .value v ∨ (n = .skip ∧ v = undef)) ∧ Rel C E bt' (δ.app C o.dst s) (a.put o.dst v) w'
theorem Out.same (h : Rel C E bt s a w) {o : Oper} {v : Value} {x : Option V} {rd : List Nat} (hr : (execOp a.eval o).run C.P w = .ok (.value v) w)
 (hv : ∀ y, x = some y → VR w (Xs E.X0 s.hp bt) bt (Nf s.hp) v y) : Out C E o s a w ⟨[], x, rd⟩ :=
 ⟨_, v, w, bt, hr, .inl rfl, h.pure o.dst hv⟩
theorem RD.cells {v : Value} {d : D} (h : RD w X v d) : v.cells.size = d.cells.length ∧ ∀ (j : Nat) (u : Value) (e : D), v.cells[j]? = some u → d.cells[j]? = some e → RD w X u e := by
 have one : ∀ {v : Value} {d : D}, RD w X v d → v.cells = #[v] → d.cells = [d] → v.cells.size = d.cells.length ∧ ∀ (j : Nat) (u : Value) (e : D), v.cells[j]? = some u → d.cells[j]? = some e → RD w X u e := by
  intro v d h h1 h2
  rw [h1, h2]
  refine ⟨rfl, fun j u e hj he => ?_⟩
  cases j with
  | zero => simp at hj he; subst hj; subst he; exact h
  | succ j => simp at hj
 cases h with
 | agg cs l hn h => exact ⟨hn, h⟩
 | b x => exact one (.b x) rfl rfl
 | i k n => exact one (.i k n) rfl rfl
 | s x => exact one (.s x) rfl rfl
 | nil => exact one .nil rfl rfl
 | sl0 sz => exact one (.sl0 sz) rfl rfl
 | sl a cap sz l u hc hsz hs ha hw h => exact one (.sl a cap sz l u hc hsz hs ha hw h) rfl rfl
 | cp a l u ha hw h => exact one (.cp a l u ha hw h) rfl rfl
 | np => exact one .np rfl rfl
 | fn f cs l hn h => exact one (.fn f cs l hn h) rfl rfl
 | mp bk es clock ks vs hX hb hs hk hv h1 h2 => exact one (.mp bk es clock ks vs hX hb hs hk hv h1 h2) rfl rfl
 | mp0 => exact one .mp0 rfl rfl
theorem RD.oneCell {v : Value} {d : D} (h : RD w X v d) (h1 : d.one = true) : v.oneCell' = true := by
 cases h <;> first | rfl | cases h1
theorem VR.cells {v : Value} {x : V} {xc : List V} (h : VR w X bt nf v x) (hx : x.cells = some xc) :
 v.cells.size = xc.length ∧ ∀ (j : Nat) (u : Value) (e : V), v.cells[j]? = some u → xc[j]? = some e → VR w X bt nf u e := by
 have one : ∀ {v : Value} {x : V}, VR w X bt nf v x → v.cells = #[v] → v.cells.size = [x].length ∧ ∀ (j : Nat) (u : Value) (e : V), v.cells[j]? = some u → [x][j]? = some e → VR w X bt nf u e := by
  intro v d h h1
  rw [h1]
  refine ⟨rfl, fun j u e hj he => ?_⟩
  cases j with
  | zero => simp at hj he; subst hj; subst he; exact h
  | succ j => simp at hj
 cases h with
 | d v d h =>
   cases d with
   | agg l =>
     simp only [V.cells, Option.some.injEq] at hx
     subst hx
     have := h.cells
     refine ⟨by simpa [D.cells] using this.1, fun j u e hj he => ?_⟩
     simp only [List.getElem?_map, Option.map_eq_some_iff] at he
     obtain ⟨e', he', rfl⟩ := he
     exact .d _ _ (this.2 j u e' hj he')
   | _ =>
     simp only [V.cells, Option.some.injEq] at hx
     subst hx
     exact one (.d _ _ h) (by cases h <;> rfl)
 | agg cs l hn h => simp only [V.cells, Option.some.injEq] at hx; subst hx; exact ⟨hn, h⟩
 | ptr id off bk hf hb => simp only [V.cells, Option.some.injEq] at hx; subst hx; exact one (.ptr id off bk hf hb) rfl
 | row id sz off n bk cap ad had hf hb hn hk => simp only [V.cells, Option.some.injEq] at hx; subst hx; exact one (.row id sz off n bk cap ad had hf hb hn hk) rfl
 | row0 id sz hf hb => simp only [V.cells, Option.some.injEq] at hx; subst hx; exact one (.row0 id sz hf hb) rfl
 | rp id sz j off bk hf hb => simp only [V.cells, Option.some.injEq] at hx; subst hx; exact one (.rp id sz j off bk hf hb) rfl
 | fn f cs l hn h => simp only [V.cells, Option.some.injEq] at hx; subst hx; exact one (.fn f cs l hn h) rfl
 | tup cs l hn h => simp only [V.cells, Option.some.injEq] at hx; subst hx; exact one (.tup cs l hn h) rfl
 | opt v g x h hb => cases hx
 | ub b x h => simp only [V.cells, Option.some.injEq] at hx; subst hx; exact one (.ub b x h) rfl
 | nb b x h => simp only [V.cells, Option.some.injEq] at hx; subst hx; exact one (.nb b x h) rfl
 | mref id bk hf hb => simp only [V.cells, Option.some.injEq] at hx; subst hx; exact one (.mref id bk hf hb) rfl
theorem VR.oneCell {v : Value} {x : V} (h : VR w X bt nf v x) (h1 : x.one = true) : v.oneCell' = true := by
 cases h with
 | d v d h => exact h.oneCell h1
 | agg _ _ _ _ => cases h1
 | tup _ _ _ _ => cases h1
 | opt _ _ _ _ _ => cases h1
 | _ => rfl
theorem qn2 : ∀ {l : List V} {ds : List D}, l.mapM V.asD = some ds → l = ds.map V.d
 | [], ds, h => by simp at h; subst h; rfl
 | v :: l, ds, h => by
   rw [List.mapM_cons] at h
   cases v with
   | d x =>
     cases hl : l.mapM V.asD with
     | none => simp [V.asD, hl] at h
     | some es => simp [V.asD, hl] at h; subst h; simp [qn2 hl]
   | _ => simp [V.asD] at h
theorem VR.mkAgg {cs : Array Value} {l : List V} (hn : cs.size = l.length) (h : ∀ (j : Nat) (v : Value) (x : V), cs[j]? = some v → l[j]? = some x → VR w X bt nf v x) :
 VR w X bt nf (.agg cs) (mkAgg l) := by
 unfold Ev.mkAgg
 cases hl : l.mapM V.asD with
 | none => exact .agg cs l hn h
 | some ds =>
   have e := qn2 hl
   subst e
   refine .d _ _ (.agg cs ds (by simpa using hn) fun j v d hj hd => ?_)
   have := h j v (.d d) hj (by simp [hd])
   cases this with
   | d _ _ h => exact h
theorem qea {bk : Nat} {cs : Array Value} {t : TypeId} (hb : w.heap[bk]? = some (.cells cs t (0, 0))) (j : Nat) : w.cell? ⟨bk, j, none⟩ = cs[j]? := by simp [World.cell?, hb]
theorem qrz {P : Program} {t : TypeId} (h : aggT P t = some true) (w : World) : (isAgg t).run P w = .ok true w := by
 unfold aggT at h
 cases hu : P.underlying t with
 | none => simp [hu] at h
 | some d =>
   unfold isAgg
   rw [Sem.run_bind, run_underlying hu w]
   cases d <;> simp_all
theorem qos {P : Program} {t : TypeId} (h : aggT P t = some false) (w : World) : (isAgg t).run P w = .ok false w := by
 unfold aggT at h
 cases hu : P.underlying t with
 | none => simp [hu] at h
 | some d =>
   unfold isAgg
   rw [Sem.run_bind, run_underlying hu w]
   cases d <;> simp_all
theorem qeb {P : Program} {t : TypeId} {n : Nat} (h : q0u P t = some n) (w : World) : (sizeOf t).run P w = .ok n w := by
 unfold q0u at h
 cases hq : P.info? t with
 | none => simp [hq] at h
 | some i =>
   simp only [hq, Option.map_some, Option.some.injEq] at h
   simp [sizeOf, typeInfo, hq, h]
theorem qot {P : Program} {t : TypeId} {n : Nat} (w : World) (hg : aggT P t = some true) (hn : q0u P t = some n) (b o : Nat) (f : Nat → Value)
 (h : ∀ j, j < n → w.cell? ⟨b, o + j, none⟩ = some (f j)) : (loadVar t ⟨b, o, none⟩).run P w = .ok (.agg ((List.range n).map f).toArray) w := by
 have hl := run_loadCells (P := P) w ⟨b, o, none⟩ n f (fun j hj => by rw [Addr.add_lit]; exact h j hj)
 simp [loadVar, Sem.run_bind, qrz hg, qeb hn, hl]
theorem qou {P : Program} {t : TypeId} (w : World) (hg : aggT P t = some false) (ad : Addr) (v : Value)
 (h : w.cell? ad = some v) : (loadVar t ad).run P w = .ok v w := by
 simp [loadVar, Sem.run_bind, qos hg, run_load, h]
theorem qh7 {P : Program} {t : TypeId} {g : Bool} {n : Nat} (hg : aggT P t = some g) (hn : q0u P t = some n) (b o : Nat) (c : List V) (off : Nat) (u : Nat → Value) {v : V}
 (hv : ldV g n c off = some v) (hc : ∀ (j : Nat) (x : V), c[off + j]? = some x → w.cell? ⟨b, o + j, none⟩ = some (u j) ∧ VR w X bt nf (u j) x) :
 ∃ r, (loadVar t ⟨b, o, none⟩).run P w = .ok r w ∧ VR w X bt nf r v := by
 cases g with
 | true =>
   simp only [ldV, if_true] at hv
   split at hv
   ·rename_i hle
    cases hv
    refine ⟨_, qot w hg hn b o u (fun j hj => ?_), VR.mkAgg ?_ ?_⟩
    ·have : off + j < c.length := by omega
     exact (hc j c[off + j] (by simp [this])).1
    ·simp; omega
    ·intro j v x hj hx
     simp only [List.getElem?_toArray, List.getElem?_map, Option.map_eq_some_iff] at hj
     obtain ⟨k, hk, rfl⟩ := hj
     rw [List.getElem?_take, List.getElem?_drop] at hx
     split at hx
     ·have : j < n := by assumption
      rw [List.getElem?_range this] at hk
      cases hk
      exact (hc j x hx).2
     ·cases hx
   ·cases hv
 | false =>
   simp only [ldV] at hv
   have := hc 0 v (by simpa using hv)
   exact ⟨_, qou w hg ⟨b, o, none⟩ (u 0) (by simpa using this.1), this.2⟩
theorem qq1 {g : Bool} {n : Nat} {c : List D} {off : Nat} {v : V} (h : ldD g n c off = some v) : ldV g n (c.map .d) off = some v := by
 cases g with
 | true =>
   simp only [ldD, ldV, if_true, List.length_map] at h ⊢
   split at h
   ·rename_i hle
    rw [if_pos hle]
    cases h
    have : ((List.drop off (c.map V.d)).take n).mapM V.asD = some ((c.drop off).take n) := by
     rw [← List.map_drop, ← List.map_take]
     generalize (c.drop off).take n = l
     induction l with
     | nil => rfl
     | cons x l ih => simp [List.mapM_cons, V.asD, ih]
    simp [mkAgg, this]
   ·cases h
 | false => simpa [ldD, ldV] using h
theorem getD_some {α : Type} {c : List α} {j : Nat} {z : α} (h : j < c.length) : c[j]? = some (c.getD j z) := by simp [List.getD, h]
theorem qet {v : Value} {id off : Nat} (h : VR w X bt nf v (.ptr id off)) : ∃ bk, bt id = some bk ∧ nf id ∧ v = .pointer (some ⟨bk, off, none⟩) := by
 cases h with
 | ptr _ _ bk hf hb => exact ⟨bk, hb, hf, rfl⟩
theorem qj2 {v : Value} {id sz j off : Nat} (h : VR w X bt nf v (.rp id sz j off)) : ∃ bk, bt id = some bk ∧ nf id ∧ v = .pointer (some ⟨bk, j * sz + off, none⟩) := by
 cases h with
 | rp _ _ _ _ bk hf hb => exact ⟨bk, hb, hf, rfl⟩
theorem q0z {v : Value} {d : D} (h : VR w X bt nf v (.d d)) : RD w X v d := by
 cases h with
 | d _ _ h => exact h
theorem qh8 {s : St} {id : Nat} {c : List V} (h : qda s id = some c) : ∃ t, (s.hp id).obj? = some (.box t c) := by
 unfold qda at h
 split at h <;> cases h
 ·rename_i t e; exact ⟨t, by simp [e, HS.obj?]⟩
 ·rename_i t e; exact ⟨t, by simp [e, HS.obj?]⟩
theorem qdq {s : St} {id : Nat} {t : TypeId} {sz : Nat} {z : Bool} {l : List D} (h : qbk s id = some (t, sz, z, l)) : (s.hp id).obj? = some (.row t sz z l) := by
 unfold qbk at h
 split at h <;> cases h
 ·rename_i e; simp [e, HS.obj?]
 ·rename_i e; simp [e, HS.obj?]
theorem qeu {s : St} {id : Nat} {t : TypeId} {sz : Nat} {z : Bool} {l : List D} (h : qb5 s id = some (t, sz, z, l)) : s.hp id = .live (.row t sz z l) := by
 unfold qb5 at h
 split at h <;> cases h
 assumption
theorem qt6 (h : Rel C E bt s a w) {dz : TypeId → D} {t : TypeId} {g : Bool} {n : Nat} (hg : aggT C.P t = some g) (hn : q0u C.P t = some n) {pv : Value} {p : V} {r : Res}
 (hp : VR w (Xs E.X0 s.hp bt) bt (Nf s.hp) pv p) (hr : loadAt dz s g n p = some r) (hok : r.ok) :
 ∃ v x, (Instr.loadAt t pv).run C.P w = .ok v w ∧ r.dl.hp = [] ∧ r.dl.v = some x ∧ VR w (Xs E.X0 s.hp bt) bt (Nf s.hp) v x := by
 cases p with
 | ptr id off =>
   obtain ⟨bk, hb, _, rfl⟩ := qet hp
   simp only [loadAt] at hr
   cases hbox : qda s id with
   | none => simp [hbox] at hr
   | some c =>
     simp only [hbox, Option.map_eq_some_iff] at hr
     obtain ⟨v, hv, rfl⟩ := hr
     obtain ⟨t', ho⟩ := qh8 hbox
     obtain ⟨bk', cs, h1, h2, h3, h4⟩ := h.objs id _ ho
     rw [hb] at h1; cases h1
     obtain ⟨r, hr, hvr⟩ := qh7 (w := w) (X := Xs E.X0 s.hp bt) (bt := bt) (nf := Nf s.hp) hg hn bk off c off (fun j => cs.getD (off + j) undef) hv (fun j x hx => by
      have hlt : off + j < c.length := (List.getElem?_eq_some_iff.1 hx).1
      have hlt' : off + j < cs.size := by omega
      have e : cs[off + j]? = some (cs.getD (off + j) undef) := by simp [Array.getD, hlt']
      exact ⟨by rw [qea h2]; exact e, h4 _ _ _ e hx⟩)
     exact ⟨r, v, by simpa [Instr.loadAt, Instr.sureAddr] using hr, rfl, rfl, hvr⟩
 | rp id sz j off =>
   obtain ⟨bk, hb, _, rfl⟩ := qj2 hp
   simp only [loadAt] at hr
   cases hrow : qbk s id with
   | none => simp [hrow] at hr
   | some q =>
     obtain ⟨t', sz', z, l⟩ := q
     simp only [hrow] at hr
     split at hr
     ·rename_i hcond
      obtain ⟨rfl, hle, hn0⟩ := hcond
      cases hr
      have hj : j < l.length := hok
      obtain ⟨h0, hs, hrest⟩ := h.objs id _ (qdq hrow)
      rcases hrest with ⟨h3, h4⟩ | ⟨bk', cs, h3, h4, h5, h6, h7⟩
      ·rw [hb] at h3; cases h3
      ·rw [hb] at h3; cases h3
       have hel : l[j]? = some (l.getD j (dz t')) := by simp [List.getD, hj]
       have hfit := hs (l.getD j (dz t')) (List.mem_of_getElem? hel)
       have hcell : ∀ c, c < sz' → ∀ x, ((l.getD j (dz t')).cells)[c]? = some x → w.cell? ⟨bk, j * sz' + c, none⟩ = some (cs.getD (j * sz' + c) undef) ∧ RD w (Xs E.X0 s.hp bt) (cs.getD (j * sz' + c) undef) x := by
        intro c hc x hx
        have hf := qex (fun d hd => (hs d hd).1) hel hc
        rw [hx] at hf
        have hlt : j * sz' + c < (flat l).length := (List.getElem?_eq_some_iff.1 hf).1
        have e : cs[j * sz' + c]? = some (cs.getD (j * sz' + c) undef) := by
         have : j * sz' + c < cs.size := by omega
         simp [Array.getD, this]
        exact ⟨by rw [qea h4]; exact e, h7 _ _ _ e hf⟩
       have hld : ldD g n (l.getD j (dz t')).cells off = some (if g then .d (.agg (((l.getD j (dz t')).cells.drop off).take n)) else .d ((l.getD j (dz t')).cells.getD off .np)) := by
        cases g with
        | true =>
          simp only [ldD, if_true]
          rw [if_pos (by rw [hfit.1]; omega)]
        | false =>
          have : off < (l.getD j (dz t')).cells.length := by rw [hfit.1]; omega
          simp only [ldD, Bool.false_eq_true, if_false]
          rw [getD_some (z := D.np) this]
          rfl
       obtain ⟨r, hr, hvr⟩ := qh7 (w := w) (X := Xs E.X0 s.hp bt) (bt := bt) (nf := Nf s.hp) hg hn bk (j * sz' + off) _ off (fun k => cs.getD (j * sz' + off + k) undef) (qq1 hld) (fun k x hx => by
        simp only [List.getElem?_map, Option.map_eq_some_iff] at hx
        obtain ⟨y, hy, rfl⟩ := hx
        have hlt : off + k < sz' := by
         have := (List.getElem?_eq_some_iff.1 hy).1
         rw [hfit.1] at this
         exact this
        have := hcell (off + k) hlt y hy
        rw [Nat.add_assoc]
        exact ⟨this.1, .d _ _ this.2⟩)
       exact ⟨r, _, by simpa [Instr.loadAt, Instr.sureAddr] using hr, rfl, rfl, hvr⟩
     ·cases hr
 | d x =>
   cases x with
   | cp l =>
     have hp := q0z hp
     simp only [loadAt, Option.map_eq_some_iff] at hr
     obtain ⟨v, hv, rfl⟩ := hr
     cases hp with
     | cp ad _ u ha hw hrd =>
       obtain ⟨b, o, sp⟩ := ad
       simp only at ha hw
       obtain ⟨rfl, _⟩ := ha
       obtain ⟨r, hr, hvr⟩ := qh7 (w := w) (X := Xs E.X0 s.hp bt) (bt := bt) (nf := Nf s.hp) hg hn b o _ 0 u (qq1 hv) (fun k x hx => by
        simp only [List.getElem?_map, Option.map_eq_some_iff, Nat.zero_add] at hx
        obtain ⟨y, hy, rfl⟩ := hx
        exact ⟨hw k y hy, .d _ _ (hrd k y hy)⟩)
       exact ⟨r, v, by simpa [Instr.loadAt, Instr.sureAddr] using hr, rfl, rfl, hvr⟩
   | _ => cases hr
 | _ => cases hr
theorem qch {α : Type} {c : List α} {off : Nat} {x : List α} (h : off + x.length ≤ c.length) (j : Nat) :
 (q03 c off x)[j]? = if j < off then c[j]? else if j < off + x.length then x[j - off]? else c[j]? := by
 unfold q03
 by_cases h1 : j < off
 ·rw [if_pos h1, List.append_assoc, List.getElem?_append_left (by simp; omega), List.getElem?_take, if_pos h1]
 ·rw [if_neg h1]
  by_cases h2 : j < off + x.length
  ·rw [if_pos h2, List.append_assoc, List.getElem?_append_right (by simp; omega), List.getElem?_append_left (by simp; omega)]
   congr 1
   simp; omega
  ·rw [if_neg h2, List.getElem?_append_right (by simp; omega), List.getElem?_drop]
   congr 1
   simp; omega
theorem q04 {α : Type} {c : List α} {off : Nat} {x : List α} (h : off + x.length ≤ c.length) : (q03 c off x).length = c.length := by
 unfold q03; simp; omega
theorem qge {bk : Nat} {cs : Array Value} {t : TypeId} {X : Nat → Prop} (hb : w.heap[bk]? = some (.cells cs t (0, 0))) (hX : X bk) (cs' : Array Value) (hs : cs'.size = cs.size) :
 Fr X w (w.setRow bk cs') := by
 refine ⟨⟨by simp [World.setRow], fun b _ hx => setRow_other w bk b cs' (fun e => hx (by subst e; exact hX)), fun b cs2 t2 hb2 => ?_⟩, rfl, rfl, rfl⟩
 by_cases e : b = bk
 ·subst e
  rw [hb] at hb2
  cases hb2
  exact ⟨cs', setRow_heap w b cs _ t _ hb, hs⟩
 ·exact ⟨cs2, by rw [setRow_other w bk b cs' e]; exact hb2, rfl⟩
theorem qnh {P : Program} {t : TypeId} {n : Nat} (hn : q0u P t = some n) {bk off : Nat} {cs : Array Value} {t' : TypeId} (hb : w.heap[bk]? = some (.cells cs t' (0, 0))) {v : Value}
 (hv : v.cells.size = n) (hle : off + n ≤ cs.size) (h1 : ∀ u ∈ v.cells.toList, u.oneCell' = true) :
 (Instr.storeAt t (.pointer (some ⟨bk, off, none⟩)) v).run P w = .ok () (w.setRow bk (q03 cs.toList off v.cells.toList).toArray) := by
 have hst := run_storeCells_at P bk off t' v.cells.toList 0 cs w hb (by simp; omega) h1
 have e : (sizeOf t).run P w = .ok n w := qeb hn w
 simp only [Nat.add_zero] at hst
 simp [Instr.storeAt, Instr.sureAddr, storeVar, Sem.run_bind, e, hv, hst, q03]
theorem VR.allOne {v : Value} {x : V} {xc : List V} (h : VR w X bt nf v x) (hx : x.cells = some xc) (h1 : xc.all V.one = true) : ∀ u ∈ v.cells.toList, u.oneCell' = true := by
 intro u hu
 obtain ⟨hs, hc⟩ := h.cells hx
 obtain ⟨j, hj⟩ := List.mem_iff_getElem?.1 hu
 have hj' : v.cells[j]? = some u := by simpa using hj
 have hlt : j < xc.length := by
  have := (Array.getElem?_eq_some_iff.1 hj').1
  omega
 have := hc j u xc[j] hj' (by simp [hlt])
 exact this.oneCell (List.all_eq_true.1 h1 _ (List.getElem_mem hlt))
theorem qgf {f : V → Option (D × List Nat)} : ∀ {l : List V} {xs : List D} {is : List Nat}, toDs f l = some (xs, is) → xs.length = l.length ∧
 ∀ (j : Nat) (v : V), l[j]? = some v → ∃ x i, f v = some (x, i) ∧ xs[j]? = some x ∧ ∀ k ∈ i, k ∈ is
 | [], xs, is, h => by simp [toDs] at h; obtain ⟨rfl, rfl⟩ := h; simp
 | v :: l, xs, is, h => by
   simp only [toDs] at h
   split at h
   ·rename_i x i xs' is' hf hl
    cases h
    obtain ⟨h1, h2⟩ := qgf hl
    refine ⟨by simp [h1], fun j u hj => ?_⟩
    cases j with
    | zero => simp at hj; subst hj; exact ⟨x, i, hf, by simp, fun k hk => by simp [hk]⟩
    | succ j =>
      simp at hj
      obtain ⟨x', i', e1, e2, e3⟩ := h2 j u hj
      exact ⟨x', i', e1, by simpa using e2, fun k hk => by simp [e3 k hk]⟩
   ·cases h
theorem qwu {d : D} {sz off : Nat} {xs : List D} (hd : d.fits sz) (h1 : xs.all D.one = true) (hle : off + xs.length ≤ sz) (h0 : 0 < xs.length) :
 (d.splice off xs).fits sz ∧ (d.splice off xs).cells = q03 d.cells off xs := by
 have mem1 : ∀ c ∈ xs, c.one = true := fun c hc => List.all_eq_true.1 h1 c hc
 have other : d.cells = [d] → (d.splice off xs) = xs.headD .np → (d.splice off xs).fits sz ∧ (d.splice off xs).cells = q03 d.cells off xs := by
  intro hc hs
  have hsz : sz = 1 := by rw [← hd.1, hc]; rfl
  subst hsz
  match xs, hle, h0, mem1, hs with
  | [x], hle, _, mem1, hs =>
    have h0 : off = 0 := by simp at hle; omega
    subst h0
    have hx := mem1 x (by simp)
    have hxc : x.cells = [x] := by cases x <;> first | rfl | cases hx
    simp only [List.headD_cons] at hs
    rw [hs]
    refine ⟨⟨by rw [hxc]; rfl, fun c hcc => by rw [hxc] at hcc; simp at hcc; subst hcc; exact hx⟩, ?_⟩
    rw [hxc, hc]
    simp [q03]
  | _ :: _ :: _, hle, _, _, _ => simp at hle; omega
 cases d with
 | agg l =>
   have hl : off + xs.length ≤ l.length := by have := hd.1; simp only [D.cells] at this; omega
   refine ⟨⟨by have := hd.1; simp only [D.cells, D.splice] at this ⊢; rw [q04 hl]; exact this, fun c hc => ?_⟩, rfl⟩
   simp only [D.splice, D.cells, q03, List.mem_append] at hc
   rcases hc with (hc | hc) | hc
   ·exact hd.2 c (List.mem_of_mem_take hc)
   ·exact mem1 c hc
   ·exact hd.2 c (List.mem_of_mem_drop hc)
 | _ => exact other rfl rfl
theorem q28 {l : List D} {sz j k : Nat} {d' : D} (hsz : 0 < sz) (hs : ∀ d ∈ l, d.cells.length = sz) (hd : d'.cells.length = sz) (hj : j < l.length) :
 (flat (l.set j d'))[k]? = if k < j * sz then (flat l)[k]? else if k < j * sz + sz then d'.cells[k - j * sz]? else (flat l)[k]? := by
 have hs' : ∀ d ∈ l.set j d', d.cells.length = sz := fun d hm => by
  rcases List.mem_or_eq_of_mem_set hm with h | h
  ·exact hs d h
  ·rw [h]; exact hd
 have hlen : (flat (l.set j d')).length = (flat l).length := by rw [q02 hs', q02 hs, List.length_set]
 by_cases hk : k < (flat l).length
 ·have hq : k = k / sz * sz + k % sz := by have := Nat.div_add_mod k sz; rw [Nat.mul_comm] at this; omega
  have hc : k % sz < sz := Nat.mod_lt _ hsz
  have hlt : k / sz < l.length := by
   rw [q02 hs] at hk
   exact Nat.div_lt_of_lt_mul (by rw [Nat.mul_comm]; exact hk)
  have e1 := qex (l := l.set j d') (j := k / sz) (c := k % sz) (d := (l.set j d')[k / sz]'(by simpa using hlt)) hs' (by simp [hlt]) hc
  have e2 := qex (l := l) (j := k / sz) (c := k % sz) (d := l[k / sz]) hs (by simp [hlt]) hc
  rw [← hq] at e1 e2
  rw [e1, e2]
  by_cases ej : k / sz = j
  ·have b1 : ¬ k < j * sz := by rw [← ej]; omega
   have b2 : k < j * sz + sz := by rw [← ej]; omega
   rw [if_neg b1, if_pos b2]
   simp only [ej, List.getElem_set_self]
   congr 1
   rw [← ej]; omega
  ·rw [List.getElem_set, if_neg (fun (h : j = k / sz) => ej h.symm)]
   split
   ·rfl
   ·rename_i b1
    rw [if_neg (fun b2 => ej ?_)]
    have h1 : j * sz ≤ k := by omega
    have h2 : k < (j + 1) * sz := by rw [Nat.succ_mul]; exact b2
    exact (Nat.div_eq_of_lt_le h1 h2)
 ·rw [List.getElem?_eq_none (by omega : (flat (l.set j d')).length ≤ k)]
  have : j * sz + sz ≤ (flat l).length := by
   rw [q02 hs, ← Nat.succ_mul]
   exact Nat.mul_le_mul_right _ hj
  rw [if_neg (by omega), if_neg (by omega), List.getElem?_eq_none (by omega)]
theorem qg2 (h : Rel C E bt s a w) {dz : TypeId → D} {t : TypeId} {n : Nat} (hn : q0u C.P t = some n) {pv xv : Value} {p x : V} {r : Res}
 (hp : VR w (Xs E.X0 s.hp bt) bt (Nf s.hp) pv p) (hx : VR w (Xs E.X0 s.hp bt) bt (Nf s.hp) xv x) (hr : storeAt dz s n p x = some r) (hrd : r.dl.rd = []) (hok : r.ok) (dst : Option Tmp) :
 ∃ w', (Instr.storeAt t pv xv).run C.P w = .ok () w' ∧ Rel C E bt (r.dl.app C dst s) (a.put dst undef) w' := by
 unfold storeAt at hr
 cases hxc : x.cells with
 | none => simp [hxc] at hr
 | some xc =>
   simp only [hxc] at hr
   split at hr
   ·cases hr
   ·rename_i hcond
    have hone : xc.all V.one = true := by
     cases hh : xc.all V.one with
     | true => rfl
     | false => exact absurd (.inl hh) hcond
    have hlen : xc.length = n := by
     by_cases hh : xc.length = n
     ·exact hh
     ·exact absurd (.inr hh) hcond
    obtain ⟨hsz, hcells⟩ := hx.cells hxc
    have hone' := hx.allOne hxc hone
    cases p with
    | ptr id off =>
      obtain ⟨bk, hb, _, rfl⟩ := qet hp
      simp only at hr
      split at hr
      ·rename_i t' c hobj
       split at hr
       ·rename_i hle
        cases hr
        obtain ⟨bk', cs, h1, h2, h3, h4⟩ := h.objs id (.box t' c) (by rw [hobj]; rfl)
        rw [hb] at h1; cases h1
        have hle' : off + xv.cells.toList.length ≤ cs.toList.length := by simp; omega
        have hrun := qnh (P := C.P) (w := w) hn h2 (v := xv) (off := off) (by omega) (by omega) hone'
        have hfr : Fr (fun b => bt id = some b) w (w.setRow bk (q03 cs.toList off xv.cells.toList).toArray) :=
         qge h2 hb _ (by simp [q04 hle'])
        have hext := hfr.ext.mono (fun b hbt => qb7 (X0 := E.X0) (hp := s.hp) (bt := bt) (id := id) (by rw [hobj]; rfl) hbt)
        refine ⟨_, hrun, h.write hobj _ hfr ?_ dst undef none [] (fun y hy => by cases hy)⟩
        refine ⟨bk, _, hb, setRow_heap w bk cs _ t' _ h2, by simp [q04 hle', q04 (c := c) (off := off) (x := xc) (by omega)]; omega, fun j v y hj hy => ?_⟩
        rw [List.getElem?_toArray, qch hle'] at hj
        rw [qch (by omega)] at hy
        have hl : xv.cells.toList.length = xc.length := by simpa using hsz
        rw [hl] at hj
        by_cases c1 : j < off
        ·rw [if_pos c1] at hj hy
         exact (h4 j v y (by simpa using hj) hy).ext hext (fun _ _ hx => hx) (fun _ _ => rfl) (fun _ hf => hf)
        ·rw [if_neg c1] at hj hy
         by_cases c2 : j < off + xc.length
         ·rw [if_pos c2] at hj hy
          exact (hcells _ v y (by simpa using hj) hy).ext hext (fun _ _ hx => hx) (fun _ _ => rfl) (fun _ hf => hf)
         ·rw [if_neg c2] at hj hy
          exact (h4 j v y (by simpa using hj) hy).ext hext (fun _ _ hx => hx) (fun _ _ => rfl) (fun _ hf => hf)
       ·cases hr
      ·cases hr
    | rp id sz j off =>
      obtain ⟨bk, hb, _, rfl⟩ := qj2 hp
      simp only at hr
      split at hr
      ·rename_i t' sz' z l xs hobj hds
       split at hr
       ·rename_i hc
        obtain ⟨rfl, hle, h1, hn0⟩ := hc
        cases hr
        have hj : j < l.length := hok
        obtain ⟨hz0, hs, hrest⟩ := h.objs id (.row t' sz' z l) (by rw [hobj]; rfl)
        rcases hrest with ⟨h3, h4⟩ | ⟨bk', cs, h3, h4, h5, h6, h7⟩
        ·rw [hb] at h3; cases h3
        ·rw [hb] at h3; cases h3
         obtain ⟨dl, dat⟩ := qgf hds
         have hxc' : ∀ (k : Nat) (v : V), xc[k]? = some v → ∃ x, v = .d x ∧ xs[k]? = some x := by
          intro k v hk
          obtain ⟨x, i, e1, e2, e3⟩ := dat k v hk
          cases v with
          | d y => simp only [toD1, Option.some.injEq, Prod.mk.injEq] at e1; exact ⟨x, by rw [e1.1], e2⟩
          | row id' sz'' off' n' =>
            simp only [toD1] at e1
            split at e1
            ·split at e1
             ·simp only [Option.some.injEq, Prod.mk.injEq] at e1
              have := e3 id' (by rw [← e1.2]; simp)
              simp at this
             ·cases e1
            ·cases e1
          | _ => cases e1
         have hs1 : ∀ d ∈ l, d.cells.length = sz' := fun d hd => (hs d hd).1
         have hel : l[j]? = some (l.getD j (dz t')) := getD_some hj
         have hfit := hs (l.getD j (dz t')) (List.mem_of_getElem? hel)
         obtain ⟨hf', hcells'⟩ := qwu (off := off) (xs := xs) hfit h1 (by omega) (by omega)
         have hflen := q02 hs1
         have hbound : j * sz' + sz' ≤ (flat l).length := by
          rw [hflen, ← Nat.succ_mul]; exact Nat.mul_le_mul_right _ hj
         have hle' : j * sz' + off + xv.cells.toList.length ≤ cs.toList.length := by simp; omega
         have hrun := qnh (P := C.P) (w := w) hn h4 (v := xv) (off := j * sz' + off) (by omega) (by omega) hone'
         have hfr : Fr (fun b => bt id = some b) w (w.setRow bk (q03 cs.toList (j * sz' + off) xv.cells.toList).toArray) :=
          qge h4 hb _ (by simp [q04 hle'])
         have hext := hfr.ext.mono (fun b hbt => qb7 (X0 := E.X0) (hp := s.hp) (bt := bt) (id := id) (by rw [hobj]; rfl) hbt)
         refine ⟨_, hrun, h.write hobj _ hfr ?_ dst undef none [] (fun y hy => by cases hy)⟩
         refine ⟨hz0, fun d hd => ?_, .inr ⟨bk, _, hb, setRow_heap w bk cs _ t' _ h4, fun hz => by simpa using h5 hz, ?_, fun k v y hk hy => ?_⟩⟩
         ·rcases List.mem_or_eq_of_mem_set hd with h | h
          ·exact hs d h
          ·rw [h]; exact hf'
         ·have : (flat (l.set j ((l.getD j (dz t')).splice off xs))).length = (flat l).length := by
           rw [q02 (sz := sz') (fun d hd => by
            rcases List.mem_or_eq_of_mem_set hd with h | h
            ·exact hs1 d h
            ·rw [h]; exact hf'.1), hflen, List.length_set]
          rw [this]
          simp [q04 hle']
          exact h6
         ·rw [List.getElem?_toArray, qch hle'] at hk
          rw [q28 hz0 hs1 hf'.1 hj, hcells'] at hy
          have hl : xv.cells.toList.length = xs.length := by simp; omega
          rw [hl] at hk
          have hd := hfit.1
          have old : ∀ {k : Nat} {v : Value} {y : D}, cs.toList[k]? = some v → (flat l)[k]? = some y → RD (w.setRow bk (q03 cs.toList (j * sz' + off) xv.cells.toList).toArray) (Xs E.X0 s.hp bt) v y :=
           fun hk hy => (h7 _ _ _ (by simpa using hk) hy).ext hext.same (fun _ _ hx => hx)
          have here : ∀ c, c < sz' → (l.getD j (dz t')).cells[c]? = (flat l)[j * sz' + c]? := fun c hc => (qex hs1 hel hc).symm
          by_cases c1 : k < j * sz'
          ·rw [if_pos c1] at hy
           rw [if_pos (by omega)] at hk
           exact old hk hy
          ·rw [if_neg c1] at hy
           by_cases c2 : k < j * sz' + sz'
           ·rw [if_pos c2, qch (by omega)] at hy
            by_cases c3 : k < j * sz' + off
            ·rw [if_pos c3] at hk
             rw [if_pos (by omega), here _ (by omega), show j * sz' + (k - j * sz') = k by omega] at hy
             exact old hk hy
            ·rw [if_neg c3] at hk
             rw [if_neg (by omega)] at hy
             by_cases c4 : k < j * sz' + off + xs.length
             ·rw [if_pos c4] at hk
              rw [if_pos (by omega), show k - j * sz' - off = k - (j * sz' + off) by omega] at hy
              have hlt : k - (j * sz' + off) < xc.length := by omega
              have hv := hcells _ v xc[k - (j * sz' + off)] (by simpa using hk) (by simp [hlt])
              obtain ⟨x', e1, e2⟩ := hxc' _ _ (show xc[k - (j * sz' + off)]? = some xc[k - (j * sz' + off)] by simp [hlt])
              rw [hy] at e2; cases e2
              rw [e1] at hv
              exact (q0z hv).ext hext.same (fun _ _ hx => hx)
             ·rw [if_neg c4] at hk
              rw [if_neg (by omega), here _ (by omega), show j * sz' + (k - j * sz') = k by omega] at hy
              exact old hk hy
           ·rw [if_neg c2] at hy
            rw [if_neg (by omega), if_neg (by omega)] at hk
            exact old hk hy
       ·cases hr
      ·split at hr
       ·cases hr
        cases hrd
       ·cases hr
      ·cases hr
    | _ => cases hr
end
end Go.Ev
namespace Go.Ev
section
variable {C : Cfg} {E : Env} {bt : Nat → Option Nat} {s : St} {a : Act} {w : World} {X : Nat → Prop} {nf : Nat → Prop}
theorem VR.made {id : Nat} (hfree : (s.hp id).isFree = true) {w' : World} {o : Obj'} {b? : Option Nat} (hfr : ∀ M, Fr M w w')
 (hb : ∀ bk, b? = some bk → w.heap.size ≤ bk) {v : Value} {x : V} (h : VR w (Xs E.X0 s.hp bt) bt (Nf s.hp) v x) :
 VR w' (Xs E.X0 (q0e s.hp [(id, .live o)]) (fun i => if i = id then b? else bt i)) (fun i => if i = id then b? else bt i) (Nf (q0e s.hp [(id, .live o)])) v x := by
 refine h.ext (hfr _).ext ?_ ?_ ?_
 ·intro b hlt hx
  rcases hx with hx | ⟨i, hi, he⟩
  ·exact .inl hx
  ·by_cases e : i = id
   ·subst e
    simp only [if_true] at he
    have := hb b he
    omega
   ·simp only [qbo, if_neg e] at hi he
    exact .inr ⟨i, hi, he⟩
 ·intro i hi
  have : i ≠ id := fun e => by subst e; simp [Nf, hfree] at hi
  simp [this]
 ·intro i hi
  have : i ≠ id := fun e => by subst e; simp [Nf, hfree] at hi
  simpa [Nf, qbo, this] using hi
theorem qov {id : Nat} {o : Obj'} : Nf (q0e s.hp [(id, .live o)]) id := by simp [Nf, qbo, HS.isFree]
theorem qck {dst : Option Tmp} {ok : Prop} {o : Obj'} {v : V} {r : Res} (h : newObj s dst ok o v = some r) :
 (s.hp (nm dst 0)).isFree = true ∧ r = ⟨ok, [(nm dst 0, .live o)], some v, []⟩ := by
 cases dst with
 | none => cases h
 | some d =>
   simp only [newObj] at h
   split at h
   ·cases h; exact ⟨by assumption, rfl⟩
   ·cases h
theorem qt7 (h : Rel C E bt s a w) {dst : Option Tmp} (hfree : (s.hp (nm dst 0)).isFree = true) {t : TypeId} {cs : Array Value} {c : List V} (hn : cs.size = c.length)
 (hc : ∀ (j : Nat) (v : Value) (x : V), cs[j]? = some v → c[j]? = some x → VR w (Xs E.X0 s.hp bt) bt (Nf s.hp) v x) (rd : List Nat) :
 Rel C E (fun i => if i = nm dst 0 then some w.heap.size else bt i) (Delta.app C dst ⟨[(nm dst 0, .live (.box t c))], some (.ptr (nm dst 0) 0), rd⟩ s)
  (a.put dst (.pointer (some ⟨w.heap.size, 0, none⟩))) (w.alloc (.cells cs t)) := by
 refine h.make hfree (.box t c) (some w.heap.size) (fun M => qiw M w _) (fun bk e => by cases e; exact Nat.le_refl _) ?_ dst _ _ rd ?_
 ·exact ⟨w.heap.size, cs, by simp, qkr w _, hn, fun j v x hj hx => VR.made hfree (fun M => qiw M w _) (fun bk e => by cases e; exact Nat.le_refl _) (hc j v x hj hx)⟩
 ·intro y hy
  cases hy
  exact .ptr _ _ _ qov (by simp)
theorem q00o (h : Rel C E bt s a w) {o : Oper} {t : TypeId} {x : Operand} (ho : o.op = .box t x) {v : V} {c : List V} (hv : s.val x = some v) (hc : v.cells = some c) {r : Res}
 (hr : newObj s o.dst True (.box t c) (.ptr (nm o.dst 0) 0) = some r) : Out C E o s a w r.dl := by
 obtain ⟨hfree, rfl⟩ := qck hr
 obtain ⟨e1, e2⟩ := (q0s h hv).cells hc
 refine ⟨_, _, _, _, ?_, .inl rfl, qt7 h hfree (t := t) (cs := (a.eval x).cells) (c := c) e1 e2 []⟩
 simp [execOp, ho, Instr.box, newVar, newRow]
theorem qr0 (off : Nat) : ∀ (l : List Value) (k : Nat) (cs : Array Value), off + k + l.length ≤ cs.size →
 ((l.zipIdx k).foldl (fun cs (x : Value × Nat) => cs.setIfInBounds (off + x.2) x.1) cs).size = cs.size ∧
 ∀ i, ((l.zipIdx k).foldl (fun cs (x : Value × Nat) => cs.setIfInBounds (off + x.2) x.1) cs)[i]? = if off + k ≤ i ∧ i < off + k + l.length then l[i - (off + k)]? else cs[i]?
 | [], k, cs, _ => by simp; intro i h1 h2; omega
 | v :: l, k, cs, h => by
   simp only [List.length_cons] at h
   obtain ⟨e1, e2⟩ := qr0 off l (k + 1) (cs.setIfInBounds (off + k) v) (by simp; omega)
   simp only [List.zipIdx_cons, List.foldl_cons]
   refine ⟨by rw [e1]; simp, fun i => ?_⟩
   rw [e2 i]
   by_cases c1 : off + (k + 1) ≤ i ∧ i < off + (k + 1) + l.length
   ·rw [if_pos c1, if_pos (by simp; omega)]
    rw [show i - (off + k) = (i - (off + (k + 1))) + 1 by omega]
    simp
   ·rw [if_neg c1, Array.getElem?_setIfInBounds]
    by_cases c2 : off + k = i
    ·subst c2
     rw [if_pos rfl, if_pos (by omega), if_pos (by simp)]
     simp
    ·rw [if_neg c2, if_neg (by simp; omega)]
theorem qt8 (off : Nat) (vc cs : Array Value) (h : off + vc.size ≤ cs.size) :
 vc.zipIdx.foldl (fun cs (x : Value × Nat) => cs.setIfInBounds (off + x.2) x.1) cs = (q03 cs.toList off vc.toList).toArray := by
 rw [← Array.foldl_toList, Array.toList_zipIdx]
 obtain ⟨e1, e2⟩ := qr0 off vc.toList 0 cs (by simp; omega)
 apply Array.ext_getElem?
 intro i
 have e3 : (q03 cs.toList off vc.toList).toArray[i]? = (q03 cs.toList off vc.toList)[i]? := List.getElem?_toArray
 rw [e2 i, e3, qch (by simp; omega)]
 simp only [Nat.add_zero]
 by_cases c1 : i < off
 ·rw [if_neg (by omega), if_pos c1]; simp
 ·rw [if_neg c1]
  by_cases c2 : i < off + vc.toList.length
  ·rw [if_pos ⟨by omega, c2⟩, if_pos c2]
  ·rw [if_neg (fun h => c2 h.2), if_neg c2]; simp
theorem qr1 {place : Nat → Option (Nat × Nat)} {cs : Array Value} {i off n : Nat} {v : Value} {rest : List (Nat × Value)} (hp : place i = some (off, n)) (hv : v.cells.size = n) (hle : off + n ≤ cs.size) :
 Instr.fill place cs ((i, v) :: rest) = Instr.fill place (q03 cs.toList off v.cells.toList).toArray rest := by
 rw [Instr.fill]
 simp only [hp]
 rw [if_neg (by simp; omega)]
 congr 1
 exact qt8 off v.cells cs (by omega)
theorem qow (sz : Nat) : ∀ (vs : List Value) (k : Nat) (cs : Array Value), (∀ v ∈ vs, v.cells.size = sz) → (k + vs.length) * sz ≤ cs.size →
 ∃ cs', Instr.fill (fun i => some (i * sz, sz)) cs ((List.range' k vs.length).zip vs) = some cs' ∧ cs'.size = cs.size ∧ (∀ j, j < k * sz → cs'[j]? = cs[j]?) ∧
   ∀ (q : Nat) (v : Value) (c : Nat), vs[q]? = some v → c < sz → cs'[(k + q) * sz + c]? = v.cells[c]?
 | [], k, cs, _, _ => ⟨cs, rfl, rfl, fun _ _ => rfl, fun q v c h => by simp at h⟩
 | v :: vs, k, cs, hv, hle => by
   have h0 := hv v (by simp)
   simp only [List.length_cons] at hle
   have hmul : (k + (vs.length + 1)) * sz = k * sz + sz + vs.length * sz := by rw [Nat.add_mul, Nat.succ_mul]; omega
   have hle1 : k * sz + v.cells.toList.length ≤ cs.toList.length := by simp; omega
   obtain ⟨cs', e1, e2, e3, e4⟩ := qow sz vs (k + 1) (q03 cs.toList (k * sz) v.cells.toList).toArray (fun x hx => hv x (by simp [hx])) (by
    simp [q04 hle1]; rw [Nat.add_mul, Nat.succ_mul]; omega)
   have hsucc : (k + 1) * sz = k * sz + sz := Nat.succ_mul k sz
   refine ⟨cs', ?_, by rw [e2]; simp [q04 hle1], fun j hj => ?_, fun q u c hq hc => ?_⟩
   ·simp only [List.length_cons, List.range'_succ, List.zip_cons_cons]
    rw [qr1 rfl h0 (by omega)]
    exact e1
   ·rw [e3 j (by omega), List.getElem?_toArray, qch hle1, if_pos hj]; simp
   ·cases q with
    | zero =>
      simp at hq; subst hq
      rw [Nat.add_zero, e3 _ (by omega), List.getElem?_toArray, qch hle1, if_neg (by omega), if_pos (by simp; omega)]
      simp
    | succ q =>
      simp at hq
      have := e4 q u c hq hc
      rwa [show k + 1 + q = k + (q + 1) by omega] at this
theorem q00p : ∀ {l : List Value} {ds : List D}, l.mapM cval = some ds → l.length = ds.length ∧ ∀ (j : Nat) (u : Value) (d : D), l[j]? = some u → ds[j]? = some d → cval u = some d := by
 intro l
 induction l with
 | nil => intro ds h; simp at h; subst h; simp
 | cons x l ih =>
   intro ds h
   rw [List.mapM_cons] at h
   cases hx : cval x with
   | none => simp [hx] at h
   | some d =>
     cases hl : l.mapM cval with
     | none => simp [hx, hl] at h
     | some es =>
       simp [hx, hl] at h
       subst h
       obtain ⟨e1, e2⟩ := ih hl
       refine ⟨by simp [e1], fun j u d' hj hd => ?_⟩
       cases j with
       | zero => simp at hj hd; subst hj; subst hd; exact hx
       | succ j => simp at hj hd; exact e2 j u d' hj hd
theorem qfw {P : Program} {t : TypeId} {z : List D} (hz : qbb P t = some z) : ∃ i v, P.info? t = some i ∧ i.zero = some v ∧ v.cells.size = z.length ∧
 ∀ (j : Nat) (u : Value) (d : D), v.cells[j]? = some u → z[j]? = some d → cval u = some d := by
 unfold qbb at hz
 cases hq : P.info? t with
 | none => simp [hq] at hz
 | some i =>
   simp only [hq, Option.bind_some] at hz
   cases hzv : i.zero with
   | none => simp [hzv] at hz
   | some v =>
     simp only [hzv, Option.bind_some] at hz
     obtain ⟨e1, e2⟩ := q00p hz
     exact ⟨i, v, rfl, hzv, by simpa using e1, fun j u d hj hd => e2 j u d (by simpa using hj) hd⟩
theorem qwv (h : Rel C E bt s a w) {o : Oper} {t : TypeId} (ho : o.op = .alloc t) {z : List D} (hz : qbb C.P t = some z) {r : Res}
 (hr : newObj s o.dst True (.box t (z.map .d)) (.ptr (nm o.dst 0) 0) = some r) : Out C E o s a w r.dl := by
 obtain ⟨hfree, rfl⟩ := qck hr
 obtain ⟨i, v, hq, hzv, e1, e2⟩ := qfw hz
 refine ⟨_, _, _, _, ?_, .inl rfl, qt7 h hfree (t := t) (cs := v.cells) (c := z.map .d) (by simpa using e1) (fun j u x hj hx => ?_) []⟩
 ·simp [execOp, ho, Instr.alloc, zeroValue, typeInfo, hq, hzv, newVar, newRow]
 ·simp only [List.getElem?_map, Option.map_eq_some_iff] at hx
  obtain ⟨d, hd, rfl⟩ := hx
  exact .d _ _ (qij (e2 j u d hj hd))
def Cells (w : World) (X : Nat → Prop) (bt : Nat → Option Nat) (nf : Nat → Prop) (cs : Array Value) (c : List V) : Prop :=
 cs.size = c.length ∧ ∀ (j : Nat) (v : Value) (x : V), cs[j]? = some v → c[j]? = some x → VR w X bt nf v x
theorem Cells.splice {cs vs : Array Value} {c vc : List V} {off : Nat} (h : Cells w X bt nf cs c) (hv : Cells w X bt nf vs vc) (hle : off + vc.length ≤ c.length) :
 Cells w X bt nf (q03 cs.toList off vs.toList).toArray (q03 c off vc) := by
 have hle' : off + vs.toList.length ≤ cs.toList.length := by have := h.1; have := hv.1; simp; omega
 refine ⟨by simp [q04 hle', q04 hle]; exact h.1, fun j v x hj hx => ?_⟩
 rw [List.getElem?_toArray, qch hle'] at hj
 rw [qch hle] at hx
 have hl : vs.toList.length = vc.length := by simpa using hv.1
 rw [hl] at hj
 by_cases c1 : j < off
 ·rw [if_pos c1] at hj hx; exact h.2 j v x (by simpa using hj) hx
 ·rw [if_neg c1] at hj hx
  by_cases c2 : j < off + vc.length
  ·rw [if_pos c2] at hj hx; exact hv.2 _ v x (by simpa using hj) hx
  ·rw [if_neg c2] at hj hx; exact h.2 j v x (by simpa using hj) hx
theorem qox (h : Rel C E bt s a w) {pl : List (Nat × Nat)} : ∀ (parts : List (Nat × Operand)) (c : List V) (cs : Array Value) (c' : List V),
 Cells w (Xs E.X0 s.hp bt) bt (Nf s.hp) cs c → qe5 s pl c parts = some c' →
 ∃ cs', Instr.fill (pl.toArray[·]?) cs (parts.map fun p => (p.1, a.eval p.2)) = some cs' ∧ Cells w (Xs E.X0 s.hp bt) bt (Nf s.hp) cs' c'
 | [], c, cs, c', hc, hb => by simp only [qe5, Option.some.injEq] at hb; subst hb; exact ⟨cs, rfl, hc⟩
 | (i, x) :: r, c, cs, c', hc, hb => by
   simp only [qe5] at hb
   split at hb
   ·rename_i off n vc hp hv
    split at hb
    ·rename_i hcond
     obtain ⟨rfl, hle⟩ := hcond
     cases hx : s.val x with
     | none => simp [hx] at hv
     | some v =>
       simp only [hx, Option.bind_some] at hv
       have hcells := (q0s h hx).cells hv
       obtain ⟨cs', e1, e2⟩ := qox h r _ _ c' (hc.splice (vs := (a.eval x).cells) hcells hle) hb
       refine ⟨cs', ?_, e2⟩
       rw [List.map_cons, qr1 (off := off) (n := vc.length) (by simpa using hp) hcells.1 (by have := hc.1; omega)]
       exact e1
    ·cases hb
   ·cases hb
theorem qww (h : Rel C E bt s a w) {o : Oper} {t : TypeId} {parts : Array (Nat × Operand)} (ho : o.op = .build t parts) {z : List D} (hz : qbb C.P t = some z)
 {pl : List (Nat × Nat)} (hpl : qfa C.P t = some pl) {c : List V} (hc : qe5 s pl (z.map .d) parts.toList = some c) : Out C E o s a w ⟨[], some (mkAgg c), []⟩ := by
 obtain ⟨i, v, hq, hzv, e1, e2⟩ := qfw hz
 obtain ⟨cs', e3, e4⟩ := qox h parts.toList _ v.cells c ⟨by simpa using e1, fun j u x hj hx => by
  simp only [List.getElem?_map, Option.map_eq_some_iff] at hx
  obtain ⟨d, hd, rfl⟩ := hx
  exact .d _ _ (qij (e2 j u d hj hd))⟩ hc
 have hbuilt : C.P.built t (parts.map fun (i, x) => (i, a.eval x)).toList = some cs' := by
  unfold qfa at hpl
  cases hu : C.P.underlying t with
  | none => simp [hu] at hpl
  | some d =>
    cases d <;> simp only [hu] at hpl <;> try (cases hpl; done)
    simp only [Program.built, hq, hu, hzv, hpl]
    simpa using e3
 refine Out.same h (v := .agg cs') ?_ (fun y hy => ?_)
 ·simp only [execOp, ho, Sem.run_bind, run_build w t _ cs' hbuilt, Result.andThen_ok]; rfl
 ·cases hy; exact VR.mkAgg e4.1 e4.2
end
end Go.Ev
namespace Go.Ev
section
variable {C : Cfg} {E : Env} {bt : Nat → Option Nat} {s : St} {a : Act} {w : World} {X : Nat → Prop} {nf : Nat → Prop}
theorem RD.mono {X X' : Nat → Prop} {v : Value} {d : D} (h : RD w X v d) (hx : ∀ b, X' b → X b) : RD w X' v d := h.ext (fun _ _ _ => rfl) (fun b _ => hx b)
def Xm (X : Nat → Prop) (bt : Nat → Option Nat) (is : List Nat) (b : Nat) : Prop := X b ∧ ∀ id ∈ is, bt id ≠ some b
theorem qhw {sz : Nat} : ∀ {l : List D} (off : Nat), (∀ d ∈ l, d.cells.length = sz) → flat (l.drop off) = (flat l).drop (off * sz)
 | [], off, _ => by simp [flat]
 | d :: l, 0, _ => by simp
 | d :: l, off + 1, h => by
   rw [List.drop_succ_cons, qhw off (fun e he => h e (by simp [he])), qc0, Nat.succ_mul, List.drop_append, h d (by simp)]
   have e : d.cells.drop (off * sz + sz) = [] := List.drop_eq_nil_of_le (by rw [h d (by simp)]; omega)
   rw [e, List.nil_append]
   congr 1; omega
theorem qdd {sz : Nat} : ∀ {l : List D} (n : Nat), (∀ d ∈ l, d.cells.length = sz) → flat (l.take n) = (flat l).take (n * sz)
 | [], n, _ => by simp [flat]
 | d :: l, 0, _ => by simp [flat]
 | d :: l, n + 1, h => by
   rw [List.take_succ_cons, qc0, qdd n (fun e he => h e (by simp [he])), qc0, Nat.succ_mul, List.take_append, h d (by simp)]
   have e : d.cells.take (n * sz + sz) = d.cells := List.take_of_length_le (by rw [h d (by simp)]; omega)
   rw [e]
   congr 2; omega
theorem qik (h : Rel C E bt s a w) {v : Value} {x : V} (hv : VR w (Xs E.X0 s.hp bt) bt (Nf s.hp) v x) {d : D} {is : List Nat} (hd : toD1 s x = some (d, is)) :
 RD w (Xm (Xs E.X0 s.hp bt) bt is) v d := by
 cases x with
 | d y => simp only [toD1, Option.some.injEq, Prod.mk.injEq] at hd; obtain ⟨rfl, rfl⟩ := hd; exact (q0z hv).mono fun b hb => hb.1
 | row id sz off n =>
   simp only [toD1] at hd
   cases hrow : qbk s id with
   | none => simp [hrow] at hd
   | some q =>
     obtain ⟨t, sz', z, l⟩ := q
     simp only [hrow] at hd
     split at hd
     ·rename_i hc
      obtain ⟨rfl, hle⟩ := hc
      simp only [Option.some.injEq, Prod.mk.injEq] at hd
      obtain ⟨rfl, rfl⟩ := hd
      obtain ⟨hz0, hs, hrest⟩ := h.objs id _ (qdq hrow)
      have hs1 : ∀ d ∈ l, d.cells.length = sz' := fun d hd => (hs d hd).1
      cases hv with
      | row0 _ _ hf hb => simp; exact .sl0 sz'
      | row _ _ _ _ bk cap ad had hf hb hn hk =>
        by_cases hn0 : n = 0
        ·subst hn0
         have := RD.sl (w := w) (X := Xm (Xs E.X0 s.hp bt) bt [id]) ad cap sz' [] (fun _ => undef) (by simp) hz0 (by simp) (fun h => absurd rfl h) (fun j d hj => by simp [flat] at hj) (fun j d hj => by simp [flat] at hj)
         simpa using this
        have had : ad = ⟨bk, off * sz', none⟩ := by
         rcases had with h | h
         ·exact h
         ·omega
        subst had
        rcases hrest with ⟨h3, h4⟩ | ⟨bk', cs, h3, h4, h5, h6, h7⟩
        ·rw [hb] at h3; cases h3
        ·rw [hb] at h3; cases h3
         have hlen : ((l.drop off).take n).length = n := by simp; omega
         have hmem : ∀ d ∈ (l.drop off).take n, d ∈ l := fun d hd => List.mem_of_mem_drop (List.mem_of_mem_take hd)
         have hflat : ∀ (j : Nat) (d : D), (flat ((l.drop off).take n))[j]? = some d → (flat l)[off * sz' + j]? = some d := by
          intro j d hj
          rw [qdd n (fun d hd => hs1 d (List.mem_of_mem_drop hd)), qhw off hs1, List.getElem?_take] at hj
          split at hj
          ·rwa [List.getElem?_drop] at hj
          ·cases hj
         have hcell : ∀ (j : Nat) (d : D), (flat ((l.drop off).take n))[j]? = some d → cs[off * sz' + j]? = some (cs.getD (off * sz' + j) undef) := by
          intro j d hj
          have := (List.getElem?_eq_some_iff.1 (hflat j d hj)).1
          have : off * sz' + j < cs.size := by omega
          simp [Array.getD, this]
         have := RD.sl (w := w) (X := Xm (Xs E.X0 s.hp bt) bt [id]) ⟨bk, off * sz', none⟩ cap sz' ((l.drop off).take n) (fun j => cs.getD (off * sz' + j) undef) (by omega) hz0
          (fun d hd => hs d (hmem d hd)) (fun _ => ⟨rfl, fun hx => hx.2 id (by simp) hb⟩)
          (fun j d hj => by rw [qea h4]; exact hcell j d hj) (fun j d hj => (h7 _ _ d (hcell j d hj) (hflat j d hj)).mono fun b hb => hb.1)
         rw [hlen] at this
         exact this
     ·cases hd
 | _ => cases hd
theorem qt9 {X : Nat → Prop} {bt : Nat → Option Nat} {is js : List Nat} (h : ∀ k ∈ is, k ∈ js) {b : Nat} (hb : Xm X bt js b) : Xm X bt is b := ⟨hb.1, fun id hid => hb.2 id (h id hid)⟩
theorem qmt {f : V → Option (D × List Nat)} {w : World} {X : Nat → Prop} {bt : Nat → Option Nat} {cs : Array Value} {l : List V} {xs : List D} {is : List Nat}
 (hf : ∀ (j : Nat) (v : Value) (x : V) (d : D) (i : List Nat), cs[j]? = some v → l[j]? = some x → f x = some (d, i) → RD w (Xm X bt i) v d) (h : toDs f l = some (xs, is)) :
 xs.length = l.length ∧ ∀ (j : Nat) (v : Value) (d : D), cs[j]? = some v → xs[j]? = some d → RD w (Xm X bt is) v d := by
 obtain ⟨e1, e2⟩ := qgf h
 refine ⟨e1, fun j v d hj hd => ?_⟩
 have hlt : j < l.length := by have := (List.getElem?_eq_some_iff.1 hd).1; omega
 obtain ⟨x, i, g1, g2, g3⟩ := e2 j l[j] (by simp [hlt])
 rw [hd] at g2; cases g2
 exact (hf j v l[j] d i hj (by simp [hlt]) g1).mono fun b hb => qt9 g3 hb
theorem qj3 (h : Rel C E bt s a w) {v : Value} {x : V} (hv : VR w (Xs E.X0 s.hp bt) bt (Nf s.hp) v x) {d : D} {is : List Nat} (hd : toD2 s x = some (d, is)) :
 RD w (Xm (Xs E.X0 s.hp bt) bt is) v d := by
 cases x with
 | agg l =>
   simp only [toD2, Option.map_eq_some_iff, Prod.mk.injEq] at hd
   obtain ⟨⟨xs, is'⟩, hds, rfl, rfl⟩ := hd
   cases hv with
   | agg cs _ hn hc =>
     obtain ⟨e1, e2⟩ := qmt (cs := cs) (w := w) (X := Xs E.X0 s.hp bt) (bt := bt) (fun j v x d i hj hx hf => qik h (hc j v x hj hx) hf) hds
     exact .agg cs xs (by omega) e2
 | ptr id off =>
   simp only [toD2] at hd
   cases hbox : qda s id with
   | none => simp [hbox] at hd
   | some c =>
     simp only [hbox, Option.map_eq_some_iff, Prod.mk.injEq] at hd
     obtain ⟨⟨xs, is'⟩, hds, rfl, rfl⟩ := hd
     obtain ⟨bk, hb, _, rfl⟩ := qet hv
     obtain ⟨t', ho⟩ := qh8 hbox
     obtain ⟨bk', cs, h1, h2, h3, h4⟩ := h.objs id _ ho
     rw [hb] at h1; cases h1
     obtain ⟨e1, e2⟩ := qmt (cs := cs) (w := w) (X := Xs E.X0 s.hp bt) (bt := bt) (fun j v x d i hj hx hf => qik h (h4 j v x hj hx) hf) hds
     have hcell : ∀ (j : Nat) (d : D), (xs.drop off)[j]? = some d → xs[off + j]? = some d ∧ cs[off + j]? = some (cs.getD (off + j) undef) := by
      intro j d hj
      rw [List.getElem?_drop] at hj
      have := (List.getElem?_eq_some_iff.1 hj).1
      have : off + j < cs.size := by omega
      exact ⟨hj, by simp [Array.getD, this]⟩
     exact .cp ⟨bk, off, none⟩ (xs.drop off) (fun j => cs.getD (off + j) undef) ⟨rfl, fun _ hx => hx.2 id (by simp) hb⟩ (fun j d hj => by rw [qea h2]; exact (hcell j d hj).2)
      (fun j d hj => (e2 _ _ d (hcell j d hj).2 (hcell j d hj).1).mono fun b hb => qt9 (fun k hk => by simp [hk]) hb)
 | rp id sz j off =>
   simp only [toD2] at hd
   cases hrow : qbk s id with
   | none => simp [hrow] at hd
   | some q =>
     obtain ⟨t, sz', z, l⟩ := q
     simp only [hrow] at hd
     split at hd
     ·rename_i hc
      subst hc
      simp only [Option.map_eq_some_iff, Prod.mk.injEq] at hd
      obtain ⟨e, he, rfl, rfl⟩ := hd
      obtain ⟨bk, hb, _, rfl⟩ := qj2 hv
      obtain ⟨hz0, hs, hrest⟩ := h.objs id _ (qdq hrow)
      have hs1 : ∀ d ∈ l, d.cells.length = sz' := fun d hd => (hs d hd).1
      rcases hrest with ⟨h3, h4⟩ | ⟨bk', cs, h3, h4, h5, h6, h7⟩
      ·rw [hb] at h3; cases h3
      ·rw [hb] at h3; cases h3
       have hcell : ∀ (k : Nat) (d : D), (e.cells.drop off)[k]? = some d → (flat l)[j * sz' + off + k]? = some d ∧ cs[j * sz' + off + k]? = some (cs.getD (j * sz' + off + k) undef) := by
        intro k d hk
        rw [List.getElem?_drop] at hk
        have hlt := (List.getElem?_eq_some_iff.1 hk).1
        rw [hs1 e (List.mem_of_getElem? he)] at hlt
        have hf := qex hs1 he hlt
        rw [hk, ← Nat.add_assoc] at hf
        have := (List.getElem?_eq_some_iff.1 hf).1
        have : j * sz' + off + k < cs.size := by omega
        exact ⟨hf, by simp [Array.getD, this]⟩
       exact .cp ⟨bk, j * sz' + off, none⟩ (e.cells.drop off) (fun k => cs.getD (j * sz' + off + k) undef) ⟨rfl, fun _ hx => hx.2 id (by simp) hb⟩ (fun k d hk => by rw [qea h4]; exact (hcell k d hk).2)
        (fun k d hk => (h7 _ _ d (hcell k d hk).2 (hcell k d hk).1).mono fun b hb => hb.1)
     ·cases hd
 | d y => exact qik h hv hd
 | row id sz off n => exact qik h hv hd
 | fn f l => cases hd
 | tup l => cases hd
 | opt g x => cases hd
 | ub x => cases hd
 | nb x => cases hd
 | mref x => cases hd
theorem qlq {id : Nat} {ks : List D} {vs : List V} (h : qhm s id = some (ks, vs)) : ∃ t, (s.hp id).obj? = some (.mp t ks vs) := by
 unfold qhm at h
 split at h
 ·rename_i e; cases h; exact ⟨_, by rw [e]; rfl⟩
 ·rename_i e; cases h; exact ⟨_, by rw [e]; rfl⟩
 ·cases h
theorem qn3 {nf : Nat → Prop} {X : Nat → Prop} {v : Value} {id : Nat} (h : VR w X bt nf v (.mref id)) : ∃ bk, bt id = some bk ∧ nf id ∧ v = .map (some bk) := by
 cases h with
 | mref _ bk hf hb => exact ⟨bk, hb, hf, rfl⟩
theorem qq2 (h : Rel C E bt s a w) {v : Value} {x : V} (hv : VR w (Xs E.X0 s.hp bt) bt (Nf s.hp) v x) {d : D} {is : List Nat} (hd : toD3 s x = some (d, is)) :
 RD w (Xm (Xs E.X0 s.hp bt) bt is) v d := by
 cases x with
 | fn f l =>
   simp only [toD3, Option.map_eq_some_iff, Prod.mk.injEq] at hd
   obtain ⟨⟨xs, is'⟩, hds, rfl, rfl⟩ := hd
   cases hv with
   | fn _ cs _ hn hc =>
     obtain ⟨e1, e2⟩ := qmt (cs := cs) (w := w) (X := Xs E.X0 s.hp bt) (bt := bt) (fun j v x d i hj hx hf => qj3 h (hc j v x hj hx) hf) hds
     exact .fn f cs xs (by omega) e2
 | mref id =>
   simp only [toD3] at hd
   split at hd
   ·rename_i ks vs hm
    simp only [Option.map_eq_some_iff, Prod.mk.injEq] at hd
    obtain ⟨⟨xs, is'⟩, hds, rfl, rfl⟩ := hd
    obtain ⟨bk, hb, _, rfl⟩ := qn3 hv
    obtain ⟨t, ho⟩ := qlq hm
    obtain ⟨bk', es, clock, h1, h2, h0, h3, h4, h5, h6⟩ := h.objs id _ ho
    rw [hb] at h1; cases h1
    obtain ⟨e1, e2⟩ := qmt (cs := es.map (·.val)) (w := w) (X := Xs E.X0 s.hp bt) (bt := bt) (fun j v x d i hj hx hf => by
     simp only [Array.getElem?_map, Option.map_eq_some_iff] at hj
     obtain ⟨e, he, rfl⟩ := hj
     exact qj3 h (h6 j e x he hx) hf) hds
    exact .mp bk es clock ks xs (fun hx => hx.2 id (by simp) hb) h2 h0 h3 (by omega) (fun j e d hj hd => (h5 j e d hj hd).mono fun b hb => hb.1)
     (fun j e d hj hd => (e2 j e.val d (by simp [hj]) hd).mono fun b hb => qt9 (fun k hk => by simp [hk]) hb)
   ·cases hd
 | _ => exact qj3 h hv hd
theorem q9a {X : Nat → Prop} {bt : Nat → Option Nat} {v : Value} {d : D} (h : RD w (Xm X bt []) v d) : RD w X v d := h.mono fun _ hb => ⟨hb, fun _ hid => by simp at hid⟩
theorem qn4 (h : Rel C E bt s a w) {dst : Option Tmp} (hfree : (s.hp (nm dst 0)).isFree = true) {w' : World} (hh : w'.heap = w.heap) (hos : w'.os = w.os) (htp : w'.tape = w.tape) (hou : w'.output = w.output)
 {t : TypeId} {cs : Array Value} {l : List D} {sz cap : Nat} {z : Bool} (hz0 : 0 < sz)
 (hs : ∀ d ∈ l, d.fits sz) (hz : z = true → l ≠ []) (hcap : l.length ≤ cap) (hcs : cs.size = cap * sz)
 (hc : ∀ (j : Nat) (v : Value) (d : D), cs[j]? = some v → (flat l)[j]? = some d → RD w (Xs E.X0 s.hp bt) v d) (rd : List Nat) :
 Rel C E (fun i => if i = nm dst 0 then some w.heap.size else bt i) (Delta.app C dst ⟨[(nm dst 0, .live (.row t sz z l))], some (.row (nm dst 0) sz 0 l.length), rd⟩ s)
  (a.put dst (.slice (some ⟨w.heap.size, 0, none⟩) l.length cap)) (w'.alloc (.cells cs t)) := by
 have hfr : ∀ M, Fr M w (w'.alloc (.cells cs t)) := fun M =>
  (show Fr M w w' from ⟨⟨by rw [hh]; exact Nat.le_refl _, fun b _ _ => by rw [hh], fun b cs t hb => ⟨cs, by rw [hh]; exact hb, rfl⟩⟩, hos, htp, hou⟩).trans (qiw M w' _)
 have hsz : w'.heap.size = w.heap.size := by rw [hh]
 have hnew : (w'.alloc (.cells cs t)).heap[w.heap.size]? = some (.cells cs t (0, 0)) := by rw [← hsz]; exact qkr w' _
 have hlen := q02 (fun d hd => (hs d hd).1)
 have hfl : (flat l).length ≤ cs.size := by rw [hlen, hcs]; exact Nat.mul_le_mul_right _ hcap
 refine h.make hfree (.row t sz z l) (some w.heap.size) hfr (fun bk e => by cases e; exact Nat.le_refl _) ?_ dst _ _ rd ?_
 ·refine ⟨hz0, hs, .inr ⟨w.heap.size, cs, by simp, hnew, hz, hfl, fun j v x hj hx => ?_⟩⟩
  have := VR.made (o := .row t sz z l) (b? := some w.heap.size) hfree hfr (fun bk e => by cases e; exact Nat.le_refl _) (VR.d (bt := bt) (nf := Nf s.hp) v x (hc j v x hj hx))
  exact q0z this
 ·intro y hy
  cases hy
  have := VR.row (w := w'.alloc (.cells cs t)) (X := Xs E.X0 (q0e s.hp [(nm dst 0, .live (.row t sz z l))]) (fun i => if i = nm dst 0 then some w.heap.size else bt i))
   (bt := fun i => if i = nm dst 0 then some w.heap.size else bt i) (nf := Nf (q0e s.hp [(nm dst 0, .live (.row t sz z l))]))
   (nm dst 0) sz 0 l.length w.heap.size cap ⟨w.heap.size, 0, none⟩ (.inl (by simp)) qov (by simp) hcap ⟨cs, t, hnew, by rw [Nat.zero_add]; omega⟩
  simpa using this
end
end Go.Ev
namespace Go.Ev
section
variable {C : Cfg} {E : Env} {bt : Nat → Option Nat} {s : St} {a : Act} {w : World} {X : Nat → Prop} {nf : Nat → Prop}
theorem qfo : ∀ {l : List Operand} {vs : List V}, vals s l = some vs → vs.length = l.length ∧ ∀ (j : Nat) (x : Operand), l[j]? = some x → ∃ v, vs[j]? = some v ∧ s.val x = some v
 | [], vs, h => by simp [vals] at h; subst h; simp
 | x :: l, vs, h => by
   simp only [vals] at h
   split at h
   ·rename_i v vs' hx hl
    cases h
    obtain ⟨e1, e2⟩ := qfo hl
    refine ⟨by simp [e1], fun j y hj => ?_⟩
    cases j with
    | zero => simp at hj; subst hj; exact ⟨v, by simp, hx⟩
    | succ j => simp at hj; simpa using e2 j y hj
   ·cases h
theorem qr2 {l : List D} {sz : Nat} {cs : Array Value} (hsz : 0 < sz) (hs : ∀ d ∈ l, d.cells.length = sz)
 (h : ∀ (q : Nat) (d : D) (c : Nat) (v : Value) (e : D), l[q]? = some d → c < sz → cs[q * sz + c]? = some v → d.cells[c]? = some e → RD w X v e) :
 ∀ (j : Nat) (v : Value) (e : D), cs[j]? = some v → (flat l)[j]? = some e → RD w X v e := by
 intro j v e hj he
 have hk := (List.getElem?_eq_some_iff.1 he).1
 have hq : j = j / sz * sz + j % sz := by have := Nat.div_add_mod j sz; rw [Nat.mul_comm] at this; omega
 have hc : j % sz < sz := Nat.mod_lt _ hsz
 have hlt : j / sz < l.length := by
  rw [q02 hs] at hk
  exact Nat.div_lt_of_lt_mul (by rw [Nat.mul_comm]; exact hk)
 have e1 := qex (l := l) (j := j / sz) (c := j % sz) (d := l[j / sz]) hs (by simp [hlt]) hc
 rw [← hq, he] at e1
 exact h (j / sz) l[j / sz] (j % sz) v e (by simp [hlt]) hc (by rw [← hq]; exact hj) e1.symm
theorem qfd {P : Program} {t e : TypeId} (h : qcj P t = some e) : P.underlying t = some (.slice e) := by
 unfold qcj at h
 split at h
 ·cases h; assumption
 ·cases h
theorem qks {P : Program} {t : TypeId} {n : Nat} (h : q0u P t = some n) : ∃ i, P.info? t = some i ∧ i.size = n := by
 unfold q0u at h
 cases hq : P.info? t with
 | none => simp [hq] at h
 | some i => simp only [hq, Option.map_some, Option.some.injEq] at h; exact ⟨i, rfl, h⟩
theorem qh6 (h : Rel C E bt s a w) {o : Oper} {t e : TypeId} {n : Nat} {parts : Array (Nat × Operand)} (ho : o.op = .buildSlice t n parts) (he : qcj C.P t = some e) {sz : Nat}
 (hsz : q0u C.P e = some (sz + 1)) {z : List D} (hz : qbb C.P e = some z) {ds : List D} (hdl : ds.length = n) (part : ∀ (q : Nat) (x : Operand), (parts.toList.map (·.2))[q]? = some x → ∃ d, ds[q]? = some d ∧ RD w (Xs E.X0 s.hp bt) (a.eval x) d)
 (hidx : parts.toList.map (·.1) = List.range n) (hbig : n * (sz + 1) ≤ 16777216) (hzl : z.length = sz + 1) {r : Res}
 (hr : Ev.newObj s o.dst (∀ d ∈ ds, d.fits (sz + 1)) (.row e (sz + 1) false ds) (.row (nm o.dst 0) (sz + 1) 0 n) = some r) (hok : r.ok) : Out C E o s a w r.dl := by
 obtain ⟨hfree, rfl⟩ := qck hr
 have hfits : ∀ d ∈ ds, d.fits (sz + 1) := hok
 obtain ⟨i, zv, hq, hzv, z1, z2⟩ := qfw hz
 have hlen : parts.toList.length = n := by have := congrArg List.length hidx; simpa using this
 have hsizes : ∀ v ∈ (parts.toList.map (·.2)).map a.eval, v.cells.size = sz + 1 := by
  intro v hv
  obtain ⟨x, hx, rfl⟩ := List.mem_map.1 hv
  obtain ⟨q, hq⟩ := List.mem_iff_getElem?.1 hx
  obtain ⟨d, g1, g2⟩ := part q x hq
  rw [g2.cells.1]
  exact (hfits d (List.mem_of_getElem? g1)).1
 obtain ⟨i2, hi2, hi2s⟩ := qks hsz
 rw [hq] at hi2; cases hi2
 have hzip : (List.range' 0 ((parts.toList.map (·.2)).map a.eval).length).zip ((parts.toList.map (·.2)).map a.eval) = (parts.map fun (i, x) => (i, a.eval x)).toList := by
  have e1 : List.range' 0 ((parts.toList.map (·.2)).map a.eval).length = parts.toList.map (·.1) := by
   rw [hidx, List.length_map, List.length_map, hlen, List.range_eq_range']
  rw [e1, Array.toList_map]
  generalize parts.toList = pl
  induction pl with
  | nil => rfl
  | cons p pl ih => simp only [List.map_cons, List.zip_cons_cons, ih]
 obtain ⟨cs', f1, f2, _, f4⟩ := qow (sz + 1) ((parts.toList.map (·.2)).map a.eval) 0 ((Array.range (n * (sz + 1))).map (zv.cells[· % zv.cells.size]!)) hsizes (by simp [hlen])
 rw [hzip] at f1
 have hcs : cs'.size = n * (sz + 1) := by rw [f2]; simp
 have hm := qn4 h hfree (w' := w) rfl rfl rfl rfl (t := e) (cs := cs') (l := ds) (sz := sz + 1) (cap := n) (z := false) (by omega) hfits (fun hh => by cases hh) (by omega) hcs
  (qr2 (by omega) (fun d hd => (hfits d hd).1) (fun q d c v e hd hc hv he => by
    have hlt : q < n := by have := (List.getElem?_eq_some_iff.1 hd).1; omega
    have hx : (parts.toList.map (·.2))[q]? = some ((parts.toList.map (·.2))[q]'(by simpa [hlen] using hlt)) := by simp [hlen, hlt]
    obtain ⟨d', g1, g2⟩ := part q _ hx
    rw [hd] at g1; cases g1
    have := f4 q (a.eval ((parts.toList.map (·.2))[q]'(by simpa [hlen] using hlt))) c (by simp [hlen, hlt]) hc
    rw [Nat.zero_add] at this
    rw [this] at hv
    exact g2.cells.2 c v e hv he)) []
 rw [hdl] at hm
 refine ⟨_, _, _, _, ?_, .inl rfl, hm⟩
 have hrun : (Instr.buildSlice t n (parts.map fun (i, x) => (i, a.eval x))).run C.P w = .ok (.slice (some ⟨w.heap.size, 0, none⟩) n n) (w.alloc (.cells cs' e)) := by
  have hu := run_underlying (qfd he) w
  by_cases hn : n = 0
  ·subst hn
   have hp : parts.toList = [] := List.eq_nil_of_length_eq_zero hlen
   have hpe : parts = #[] := by cases parts; simp_all
   subst hpe
   have : cs' = #[] := by
    have : cs'.size = 0 := by simpa using hcs
    exact Array.eq_empty_of_size_eq_zero this
   subst this
   simp [Instr.buildSlice, Sem.run_bind, hu, qeb hsz, Instr.fill, newRow, show Array.range 0 = #[] from rfl]
  ·have h1 : ¬ n * (sz + 1) > 2 ^ 24 := by omega
   have h2 : ¬ n * (sz + 1) = 0 := by
    intro h0
    rcases Nat.mul_eq_zero.1 h0 with h0 | h0 <;> omega
   have f1' : Instr.fill (fun i => some (i * (sz + 1), sz + 1)) ((Array.range (n * (sz + 1))).map (zv.cells[· % zv.cells.size]!)) (parts.toList.map fun x => (x.1, a.eval x.2)) = some cs' := by
    simpa using f1
   simp only [Instr.buildSlice, Sem.run_bind, hu, qeb hsz, Result.andThen_ok, if_neg h1, if_neg h2, zeroValue, typeInfo, program, Sem.run, hq]
   simp [hzv, f1', newRow]
 simp only [execOp, ho, Sem.run_bind, hrun, Result.andThen_ok]
 rfl
theorem qn5 (h : Rel C E bt s a w) {o : Oper} {t e : TypeId} {n : Nat} {parts : Array (Nat × Operand)} (ho : o.op = .buildSlice t n parts) (he : qcj C.P t = some e) {sz : Nat}
 (hsz : q0u C.P e = some (sz + 1)) {z : List D} (hz : qbb C.P e = some z) {vs : List V} (hvs : vals s (parts.toList.map (·.2)) = some vs) {ds : List D} (hds : toDs (toD3 s) vs = some (ds, []))
 (hidx : parts.toList.map (·.1) = List.range n) (hbig : n * (sz + 1) ≤ 16777216) (hzl : z.length = sz + 1) {r : Res}
 (hr : Ev.newObj s o.dst (∀ d ∈ ds, d.fits (sz + 1)) (.row e (sz + 1) false ds) (.row (nm o.dst 0) (sz + 1) 0 n) = some r) (hok : r.ok) : Out C E o s a w r.dl := by
 have hlen : parts.toList.length = n := by have := congrArg List.length hidx; simpa using this
 obtain ⟨v1, v2⟩ := qfo hvs
 obtain ⟨d1, d2⟩ := qgf hds
 have hvals : vs.length = n := by rw [v1, List.length_map, hlen]
 refine qh6 h ho he hsz hz (by omega) (fun q x hx => ?_) hidx hbig hzl hr hok
 obtain ⟨v, g1, g2⟩ := v2 q x hx
 obtain ⟨d, is, g3, g4, g5⟩ := d2 q v g1
 have : is = [] := by cases is with | nil => rfl | cons k ks => have := g5 k (by simp); simp at this
 subst this
 exact ⟨d, g4, q9a (qq2 h (q0s h g2) g3)⟩
end
end Go.Ev
namespace Go.Ev
section
variable {C : Cfg} {E : Env} {bt : Nat → Option Nat} {s : St} {a : Act} {w : World} {X : Nat → Prop} {nf : Nat → Prop}
theorem qdg {v : Value} {id sz off n : Nat} (h : VR w X bt nf v (.row id sz off n)) : nf id ∧
 ((∃ bk cap ad, bt id = some bk ∧ v = .slice (some ad) n cap ∧ (ad = ⟨bk, off * sz, none⟩ ∨ cap = 0) ∧ n ≤ cap ∧ ∃ cs t, w.heap[bk]? = some (.cells cs t (0, 0)) ∧ (off + cap) * sz = cs.size) ∨
  (bt id = none ∧ off = 0 ∧ n = 0 ∧ v = .slice none 0 0)) := by
 cases h with
 | row _ _ _ _ bk cap ad had hf hb hn hk => exact ⟨hf, .inl ⟨bk, cap, ad, hb, rfl, had, hn, hk⟩⟩
 | row0 _ _ hf hb => exact ⟨hf, .inr ⟨hb, rfl, rfl, rfl⟩⟩
theorem qj4 {v : Value} (h : RD w X v .nil) : v = .slice none 0 0 := by cases h; rfl
structure Src (P : Program) (w : World) (X : Nat → Prop) (sz : Nat) (yv : Value) (ys : List D) (news : List Value) : Prop where
 fits : ∀ d ∈ ys, d.fits sz
 len : ∀ w', (Builtin.lenOf yv).run P w' = .ok ys.length w'
 first : ∀ w', w'.heap = w.heap → (Builtin.firstCells sz ys.length yv).run P w' = .ok news.toArray w'
 size : news.length = ys.length * sz
 one : ∀ u ∈ news, u.oneCell' = true
 rd : ∀ (j : Nat) (v : Value) (d : D), news[j]? = some v → (flat ys)[j]? = some d → RD w X v d
theorem qr3 {w w' : World} (h : w'.heap = w.heap) (ad : Addr) : w'.cell? ad = w.cell? ad := by simp [World.cell?, h]
theorem q29 {sz : Nat} {l : List D} (hs : ∀ d ∈ l, d.fits sz) {d : D} (hd : d ∈ flat l) : d.one = true := by
 simp only [flat, List.mem_flatMap] at hd
 obtain ⟨e, he, hde⟩ := hd
 exact (hs e he).2 d hde
theorem q00q {P : Program} {w : World} {X : Nat → Prop} {sz bk o m cap : Nat} {u : Nat → Value} {ys : List D} (hs : ∀ d ∈ ys, d.fits sz) (hm : ys.length = m)
 (hw : ∀ (j : Nat) (d : D), (flat ys)[j]? = some d → w.cell? ⟨bk, o + j, none⟩ = some (u j)) (h : ∀ (j : Nat) (d : D), (flat ys)[j]? = some d → RD w X (u j) d) :
 ∃ news, Src P w X sz (.slice (some ⟨bk, o, none⟩) m cap) ys news := by
 have hlen := q02 (fun d hd => (hs d hd).1)
 have hn : ∀ (j : Nat) (v : Value), ((List.range (ys.length * sz)).map u)[j]? = some v → v = u j ∧ ∃ d, (flat ys)[j]? = some d := by
  intro j v hj
  simp only [List.getElem?_map, Option.map_eq_some_iff] at hj
  obtain ⟨k, hk, rfl⟩ := hj
  obtain ⟨hlt, rfl⟩ := List.getElem?_eq_some_iff.1 hk
  simp only [List.getElem_range]
  simp at hlt
  exact ⟨trivial, (flat ys)[j]'(by omega), by simp⟩
 refine ⟨(List.range (ys.length * sz)).map u, hs, fun w' => by subst hm; rfl, fun w' hh => ?_, by simp, fun v hv => ?_, fun j v d hj hd => ?_⟩
 ·refine run_firstCells_some w' sz ys.length ⟨bk, o, none⟩ m cap _ (by simp) (fun j v hj => ?_)
  obtain ⟨rfl, d, hd⟩ := hn j v hj
  rw [Addr.add_lit, qr3 hh]
  exact hw j d hd
 ·obtain ⟨j, hj⟩ := List.mem_iff_getElem?.1 hv
  obtain ⟨rfl, d, hd⟩ := hn j v hj
  exact (h j d hd).oneCell (q29 hs (List.mem_of_getElem? hd))
 ·obtain ⟨rfl, _⟩ := hn j v hj
  exact h j d hd
theorem qq3 {P : Program} {w : World} {X : Nat → Prop} {sz : Nat} : Src P w X sz (.slice none 0 0) [] [] :=
 ⟨by simp, fun w' => rfl, fun w' _ => by simp [Builtin.firstCells], by simp, by simp, by simp⟩
theorem qua (h : Rel C E bt s a w) {sz : Nat} {yv : Value} {y : V} (hv : VR w (Xs E.X0 s.hp bt) bt (Nf s.hp) yv y) {ys : List D} {rd : List Nat} (he : qfj s sz y = some (ys, rd)) :
 ∃ news, Src C.P w (Xs E.X0 s.hp bt) sz yv ys news := by
 cases y with
 | d x =>
   have hv := q0z hv
   cases x with
   | nil =>
     simp only [qfj, Option.some.injEq, Prod.mk.injEq] at he
     obtain ⟨rfl, rfl⟩ := he
     cases hv
     exact ⟨[], qq3⟩
   | sl sz' l =>
     simp only [qfj] at he
     split at he
     ·rename_i hz
      subst hz
      simp only [Option.some.injEq, Prod.mk.injEq] at he
      obtain ⟨rfl, rfl⟩ := he
      cases hv with
      | sl0 _ => exact ⟨[], qq3⟩
      | sl ad cap _ _ u hc hsz hs ha hw hr =>
        cases hl : l with
        | nil =>
          exact ⟨[], ⟨by simp, fun w' => rfl, fun w' _ => by simp [Builtin.firstCells, loadCells, loadCellsFrom], by simp, by simp, by simp⟩⟩
        | cons e l' =>
          obtain ⟨b, o, sp⟩ := ad
          have h0 := (ha (by rw [hl]; simp)).1
          simp only at h0
          subst h0
          rw [← hl]
          exact q00q hs rfl hw hr
     ·cases he
   | _ => cases he
 | row id sz' off n =>
   simp only [qfj] at he
   cases hrow : qbk s id with
   | none => simp [hrow] at he
   | some q =>
     obtain ⟨t, sz'', z, l⟩ := q
     simp only [hrow] at he
     split at he
     ·rename_i hc
      obtain ⟨rfl, rfl, hle⟩ := hc
      simp only [Option.some.injEq, Prod.mk.injEq] at he
      obtain ⟨rfl, rfl⟩ := he
      obtain ⟨hz0, hs, hrest⟩ := h.objs id _ (qdq hrow)
      have hs1 : ∀ d ∈ l, d.cells.length = sz'' := fun d hd => (hs d hd).1
      cases hv with
      | row0 _ _ hf hb => exact ⟨[], by simpa using qq3⟩
      | row _ _ _ _ bk cap ad had hf hb hn hk =>
        by_cases hn0 : n = 0
        ·subst hn0
         exact ⟨[], ⟨by simp, fun w' => by simp [Builtin.lenOf], fun w' _ => by simp [Builtin.firstCells, loadCells, loadCellsFrom], by simp, by simp, by simp⟩⟩
        have had : ad = ⟨bk, off * sz'', none⟩ := by
         rcases had with h | h
         ·exact h
         ·omega
        subst had
        rcases hrest with ⟨h3, h4⟩ | ⟨bk', cs, h3, h4, h5, h6, h7⟩
        ·rw [hb] at h3; cases h3
        ·rw [hb] at h3; cases h3
         have hflat : ∀ (j : Nat) (d : D), (flat ((l.drop off).take n))[j]? = some d → (flat l)[off * sz'' + j]? = some d ∧ cs[off * sz'' + j]? = some (cs.getD (off * sz'' + j) undef) := by
          intro j d hj
          rw [qdd n (fun d hd => hs1 d (List.mem_of_mem_drop hd)), qhw off hs1, List.getElem?_take] at hj
          split at hj
          ·rw [List.getElem?_drop] at hj
           have := (List.getElem?_eq_some_iff.1 hj).1
           have : off * sz'' + j < cs.size := by omega
           exact ⟨hj, by simp [Array.getD, this]⟩
          ·cases hj
         exact q00q (fun d hd => hs d (List.mem_of_mem_drop (List.mem_of_mem_take hd))) (by simp; omega) (u := fun j => cs.getD (off * sz'' + j) undef)
          (fun j d hj => by rw [qea h4]; exact (hflat j d hj).2) (fun j d hj => h7 _ _ d (hflat j d hj).2 (hflat j d hj).1)
     ·cases he
 | _ => cases he
theorem qlr {P : Program} {ts tx e : TypeId} {i : TypeInfo} (ht : P.underlying ts = some (.slice e)) (hx : q08 P tx = true) (hi : P.info? e = some i)
 {base : Option Addr} {n cap : Nat} {yv : Value} {ys : List D} {news : List Value} (hy : Src P w X i.size yv ys news) (hroom : n + ys.length ≤ cap)
 (hnil : ys = []) (ty : TypeId) : (Builtin.append_ #[ts, tx] ty #[.slice base n cap, yv]).run P w = .ok (.slice base n cap) w := by
 subst hnil
 have hl : news = [] := List.eq_nil_of_length_eq_zero (by simpa using hy.size)
 subst hl
 have h1 := hy.len w
 have h2 : (Builtin.firstCells i.size 0 yv).run P w = .ok #[] w := hy.first w rfl
 have hroom : n ≤ cap := by simpa using hroom
 unfold q08 at hx
 split at hx
 ·rename_i e2 hu
  cases base <;> simp [Builtin.append_, run_underlying ht, run_underlying hu, sizeOf, typeInfo, hi, h1, h2, storeCells, hroom]
 ·cases hx
theorem qls {P : Program} {ts tx e : TypeId} {i : TypeInfo} (ht : P.underlying ts = some (.slice e)) (hx : q08 P tx = true) (hi : P.info? e = some i)
 {g n cap : Nat} {cur : Array Value} {t' : TypeId} (hg : w.heap[g]? = some (.cells cur t' (0, 0))) {yv : Value} {ys : List D} {news : List Value} (hy : Src P w X i.size yv ys news)
 (hroom : n + ys.length ≤ cap) (hfit : cap * i.size ≤ cur.size) (ty : TypeId) :
 (Builtin.append_ #[ts, tx] ty #[.slice (some ⟨g, 0, none⟩) n cap, yv]).run P w =
   .ok (.slice (some ⟨g, 0, none⟩) (n + ys.length) cap) (w.setRow g (q03 cur.toList (n * i.size) news).toArray) := by
 have h1 := hy.len w
 have h2 := hy.first w rfl
 have hsz : (n + ys.length) * i.size ≤ cap * i.size := Nat.mul_le_mul_right _ hroom
 have hst := run_storeCells_at P g (n * i.size) t' news 0 cur w hg (by rw [hy.size]; rw [Nat.add_mul] at hsz; omega) hy.one
 simp only [Nat.add_zero] at hst
 unfold q08 at hx
 split at hx
 ·rename_i e2 hu
  simp [Builtin.append_, run_underlying ht, run_underlying hu, sizeOf, typeInfo, hi, h1, h2, hroom, Addr.add_lit, hst, q03]
 ·cases hx
theorem qub {P : Program} {ts tx e : TypeId} {i : TypeInfo} {z : Value} (ht : P.underlying ts = some (.slice e)) (hx : q08 P tx = true) (hi : P.info? e = some i) (hz : i.zero = some z)
 {base : Option Addr} {n cap : Nat} {olds : List Value} (holds : ∀ w', w'.heap = w.heap → (Builtin.firstCells i.size n (.slice base n cap)).run P w' = .ok olds.toArray w')
 {yv : Value} {ys : List D} {news : List Value} (hy : Src P w X i.size yv ys news)
 (hroom : cap < n + ys.length) (h63 : n + ys.length ≤ 9223372036854775807) (hby : (n + ys.length) * i.bytes ≤ 140737488355328) (ty : TypeId) :
 (Builtin.append_ #[ts, tx] ty #[.slice base n cap, yv]).run P w =
   .ok (.slice (some ⟨w.heap.size, 0, none⟩) (n + ys.length) (grownCap w (n + ys.length) cap e))
     (w.drew.alloc (.cells (olds.toArray ++ news.toArray ++ Builtin.zeroCells z.cells (grownCap w (n + ys.length) cap e - (n + ys.length))) e)) := by
 have h1 := hy.len w
 have h2 := hy.first w.drew rfl
 have h3 := holds w.drew rfl
 have hn : ¬ (n + ys.length ≤ cap) := by omega
 have h63' : ¬ (9223372036854775807 < ((n : Int) + (ys.length : Int))) := by omega
 have h48 := growslice_fits (old := cap) hroom hby
 have h48' : ¬ (281474976710656 < Builtin.nextslicecap (n + ys.length) cap * i.bytes) := by omega
 unfold q08 at hx
 split at hx
 ·rename_i e2 hu
  simp [Builtin.append_, run_underlying ht, run_underlying hu, sizeOf, typeInfo, zeroValue, hi, hz, h1, hn, h63', h48', Question.forced, h2, h3, newRow, grownCap]
  rw [← Array.append_assoc]
  simp
 ·cases hx
theorem qj5 (z : Value) (n : Nat) : (Builtin.zeroCells z.cells n).size = n * z.cells.size := by simp [Builtin.zeroCells]
theorem qyg (h : Rel C E bt s a w) {dst : Option Tmp} {id sz n : Nat} {t : TypeId} {z : Bool} {l : List D} {v : Value} (hl : s.hp id = .live (.row t sz z l)) (hfree : (s.hp (nm dst 0)).isFree = true)
 (hv : VR w (Xs E.X0 s.hp bt) bt (Nf s.hp) v (.row id sz 0 n)) (rd : List Nat) :
 Rel C E (fun i => if i = nm dst 0 then bt id else bt i) (Delta.app C dst ⟨[(id, .dead), (nm dst 0, .live (.row t sz z l))], some (.row (nm dst 0) sz 0 n), rd⟩ s) (a.put dst v) w := by
 have hnf : ∀ i, Nf s.hp i → Nf (q0e s.hp [(id, .dead), (nm dst 0, .live (.row t sz z l))]) i := by
  intro i hi
  simp only [Nf, q0e]
  split
  ·rfl
  ·split
   ·rfl
   ·exact hi
 have hbt : ∀ i, Nf s.hp i → (fun i => if i = nm dst 0 then bt id else bt i) i = bt i := by
  intro i hi
  have : i ≠ nm dst 0 := fun e => by subst e; simp [Nf, hfree] at hi
  simp [this]
 have hne : id ≠ nm dst 0 := fun e => by rw [e] at hl; rw [hl] at hfree; cases hfree
 have hnew : Nf (q0e s.hp [(id, .dead), (nm dst 0, .live (.row t sz z l))]) (nm dst 0) := by
  show (if nm dst 0 = id then HS.dead else if nm dst 0 = nm dst 0 then HS.live (.row t sz z l) else s.hp (nm dst 0)).isFree = false
  rw [if_neg (fun (e : nm dst 0 = id) => hne e.symm), if_pos rfl]; rfl
 have ho := h.objs id (.row t sz z l) (by rw [hl]; rfl)
 refine h.adopt hl hfree (.row t sz z l) (Fr.refl _ w) dst v _ rd ?_ ?_
 ·obtain ⟨h0, hs, hrest⟩ := ho
  refine ⟨h0, hs, ?_⟩
  rcases hrest with ⟨h3, h4⟩ | ⟨bk, cs, h3, h4, h5, h6, h7⟩
  ·exact .inl ⟨by simpa using h3, h4⟩
  ·exact .inr ⟨bk, cs, by simpa using h3, h4, h5, h6, h7⟩
 ·intro y hy
  cases hy
  generalize ho : (0 : Nat) = off at hv
  cases hv with
  | row _ _ _ _ bk cap ad had hf hb hn hk => subst ho; exact .row _ _ _ _ bk cap ad had hnew (by simpa using hb) hn hk
  | row0 _ _ hf hb => exact .row0 _ _ hnew (by simpa using hb)
theorem qf3 {o : Oper} {ts tx : TypeId} {x y : Operand} (ho : o.op = .call ⟨.builtin .append, #[x, y], #[ts, tx]⟩) {v : Value} {w' : World}
 (h : (Builtin.append_ #[ts, tx] o.type #[a.eval x, a.eval y]).run C.P w = .ok v w') : (execOp a.eval o).run C.P w = .ok (.value v) w' := by
 simp only [execOp, ho, resolve, invoke, builtin, Sem.run_bind, Sem.run_pure, Result.andThen_ok, List.map_toArray, List.map_cons, List.map_nil, h]
theorem q6n (hp : Nat → HS) (id id' : Nat) (o : HS) (hne : id ≠ id') : q0e (q0e hp [(id, .dead)]) [(id', o)] = q0e hp [(id, .dead), (id', o)] := by
 funext i
 simp only [q0e]
 by_cases e1 : i = id'
 ·rw [if_pos e1, if_neg (fun e => hne (e.symm.trans e1)), if_pos e1]
 ·rw [if_neg e1]
  by_cases e2 : i = id
  ·rw [if_pos e2, if_pos e2]
  ·rw [if_neg e2, if_neg e2, if_neg e1]
theorem Rel.kill (h : Rel C E bt s a w) {id : Nat} (hl : (s.hp id).isFree = false) : Rel C E bt ⟨s.sl, q0e s.hp [(id, .dead)]⟩ a w := by
 refine h.drop _ fun i => ?_
 simp only [q0e]
 by_cases e : i = id
 ·subst e; rw [if_pos rfl]; exact .inr (.inr ⟨hl, rfl⟩)
 ·rw [if_neg e]; exact .inl rfl
theorem qq4 {P : Program} {bk n cap sz : Nat} {cs : Array Value} {t : TypeId} (hb : w.heap[bk]? = some (.cells cs t (0, 0))) (hle : n * sz ≤ cs.size) :
 ∀ w', w'.heap = w.heap → (Builtin.firstCells sz n (.slice (some ⟨bk, 0, none⟩) n cap)).run P w' = .ok (cs.toList.take (n * sz)).toArray w' := by
 intro w' hh
 refine run_firstCells_some w' sz n ⟨bk, 0, none⟩ n cap _ (by simp; omega) (fun j v hj => ?_)
 rw [Addr.add_lit, qr3 hh, Nat.zero_add, qea hb]
 rw [List.getElem?_take] at hj
 split at hj
 ·simpa using hj
 ·cases hj
theorem qlt {l ys : List D} {sz : Nat} {cs : Array Value} {olds news rest : List Value} (hs : ∀ d ∈ l, d.cells.length = sz) (ho : olds.length = l.length * sz)
 (hn : news.length = ys.length * sz) (hys : ∀ d ∈ ys, d.cells.length = sz) (hcs : cs.toList = olds ++ news ++ rest) (h1 : ∀ (j : Nat) (v : Value) (d : D), olds[j]? = some v → (flat l)[j]? = some d → RD w X v d)
 (h2 : ∀ (j : Nat) (v : Value) (d : D), news[j]? = some v → (flat ys)[j]? = some d → RD w X v d) :
 ∀ (j : Nat) (v : Value) (d : D), cs[j]? = some v → (flat (l ++ ys))[j]? = some d → RD w X v d := by
 intro j v d hj hd
 have hl := q02 hs
 have hy := q02 hys
 rw [qe9] at hd
 have hj' : (olds ++ news ++ rest)[j]? = some v := by rw [← hcs]; simpa using hj
 rw [List.append_assoc] at hj'
 by_cases c1 : j < olds.length
 ·rw [List.getElem?_append_left c1] at hj'
  rw [List.getElem?_append_left (by omega)] at hd
  exact h1 j v d hj' hd
 ·rw [List.getElem?_append_right (by omega)] at hj' hd
  have c2 : j - olds.length < news.length := by
   have := (List.getElem?_eq_some_iff.1 hd).1
   omega
  rw [List.getElem?_append_left c2] at hj'
  rw [hl, ← ho] at hd
  exact h2 _ v d hj' hd
theorem quc (h : Rel C E bt s a w) {o : Oper} {ts tx : TypeId} {x y : Operand} (ho : o.op = .call ⟨.builtin .append, #[x, y], #[ts, tx]⟩) {xv yv : V} (hx : s.val x = some xv) (hy : s.val y = some yv) {r : Res}
 (hr : qd8 C s o.dst ts tx xv yv = some r) (hok : r.ok) : Out C E o s a w r.dl := by
 unfold qd8 at hr
 split at hr
 ·cases hr
 ·rename_i e he
  split at hr
  ·rename_i sz by_ zl hsz hby hsl hzt
   split at hr
   ·cases hr
   rename_i hzl
   have hzl : zl.length = sz + 1 := by omega
   split at hr
   ·cases hr
   ·rename_i ys rd hel
    obtain ⟨i, hi, his⟩ := qks hsz
    have his : i.size = sz + 1 := his
    have hib : i.bytes = by_ := by
     unfold qb1 at hby; rw [hi] at hby; simpa using hby
    obtain ⟨i2, zv, hi2, hzv, z1, _⟩ := qfw hzt
    rw [hi] at hi2; cases hi2
    obtain ⟨news, hsrc⟩ := qua h (q0s h hy) hel
    have ht := qfd he
    have hXv := q0s h hx
    have hys1 : ∀ d ∈ ys, d.cells.length = sz + 1 := fun d hd => (hsrc.fits d hd).1
    rw [← his] at hsrc
    -- growth: a new block
    have grown : ∀ (s1 : St), Rel C E bt s1 a w → (s1.hp (nm o.dst 0)).isFree = true → Xs E.X0 s1.hp bt = Xs E.X0 s1.hp bt → ∀ (l : List D) (olds : List Value) (base : Option Addr) (cap : Nat) (z : Bool),
     (∀ b, Xs E.X0 s1.hp bt b → Xs E.X0 s.hp bt b) →
     (∀ d ∈ l, d.fits (sz + 1)) → olds.length = l.length * (sz + 1) → (∀ (j : Nat) (v : Value) (d : D), olds[j]? = some v → (flat l)[j]? = some d → RD w (Xs E.X0 s.hp bt) v d) →
     (∀ w', w'.heap = w.heap → (Builtin.firstCells i.size l.length (.slice base l.length cap)).run C.P w' = .ok olds.toArray w') → cap < l.length + ys.length →
     (l.length + ys.length) * by_ ≤ 140737488355328 → l.length + ys.length ≤ 9223372036854775807 → a.eval x = .slice base l.length cap →
     ∃ v w' bt', (execOp a.eval o).run C.P w = .ok (.value v) w' ∧ Rel C E bt' (Delta.app C o.dst ⟨[(nm o.dst 0, .live (.row e (sz + 1) z (l ++ ys)))], some (.row (nm o.dst 0) (sz + 1) 0 (l.length + ys.length)), rd⟩ s1) (a.put o.dst v) w' := by
     intro s1 hr1 hfree _ l olds base cap z hX hfl hol holr hfc hcap hby' h63 hev
     have hrun := qub (P := C.P) (w := w) ht hsl hi hzv hfc hsrc hcap h63 (by rw [hib]; exact hby') o.type
     have hge := grownCap_ge w (l.length + ys.length) cap e
     have hnn : z = true → l ++ ys ≠ [] := by
      intro _ hnil
      have : (l ++ ys).length = 0 := by rw [hnil]; rfl
      rw [List.length_append] at this
      omega
     have hm := qn4 hr1 hfree (w' := w.drew) rfl rfl rfl rfl (t := e) (cs := olds.toArray ++ news.toArray ++ Builtin.zeroCells zv.cells (grownCap w (l.length + ys.length) cap e - (l.length + ys.length)))
      (l := l ++ ys) (sz := sz + 1) (cap := grownCap w (l.length + ys.length) cap e) (z := z) (by omega)
      (fun d hd => by rcases List.mem_append.1 hd with hd | hd; exact hfl d hd; rw [← his]; exact hsrc.fits d hd)
      hnn (by simp; exact hge)
      (by
        simp only [Array.size_append, List.size_toArray, qj5, z1, hzl, hol, hsrc.size, his]
        rw [← Nat.add_mul, ← Nat.add_mul]
        congr 1; omega)
      (qlt (rest := (Builtin.zeroCells zv.cells (grownCap w (l.length + ys.length) cap e - (l.length + ys.length))).toList) (fun d hd => (hfl d hd).1) hol (by rw [hsrc.size, his]) hys1 (by simp) (fun j v d hj hd => (holr j v d hj hd).mono hX) (fun j v d hj hd => (hsrc.rd j v d hj hd).mono hX)) rd
     rw [List.length_append] at hm
     exact ⟨_, _, _, qf3 ho (by rw [hev]; exact hrun), hm⟩
    -- nothing to append to nil
    split at hr
    ·simp only [Option.map_eq_some_iff] at hr
     obtain ⟨r0, hr0, rfl⟩ := hr
     obtain ⟨hfree, rfl⟩ := qck hr0
     have hbytes : ys.length * by_ ≤ 140737488355328 ∧ ys.length ≤ 9223372036854775807 := hok
     have hv0 : a.eval x = .slice none 0 0 := qj4 (q0z hXv)
     by_cases hnil : ys = []
     ·subst hnil
      have hrun := qlr (P := C.P) (w := w) (base := none) (n := 0) (cap := 0) ht hsl hi hsrc (by simp) rfl o.type
      have hm := h.make hfree (w' := w) (.row e (sz + 1) true []) none (fun M => Fr.refl M w) (fun bk e => by cases e) ⟨by omega, by simp, .inl ⟨by simp, rfl⟩⟩ o.dst (.slice none 0 0) (some (.row (nm o.dst 0) (sz + 1) 0 0)) rd (fun y hy => by
       cases hy
       exact .row0 _ _ qov (by simp))
      exact ⟨_, _, _, _, qf3 ho (by rw [hv0]; exact hrun), .inl rfl, hm⟩
     ·have hpos : 0 < ys.length := List.length_pos_iff.2 hnil
      obtain ⟨v, w', bt', g1, g2⟩ := grown s h hfree rfl [] [] none 0 true (fun _ hb => hb) (by simp) (by simp) (by simp) (fun w' _ => by simp [Builtin.firstCells]) (by simpa using hpos) (by simpa using hbytes.1) (by simpa using hbytes.2) hv0
      refine ⟨_, v, w', bt', g1, .inl rfl, ?_⟩
      simpa using g2
    ·rename_i id sz' off n
     split at hr
     ·cases hr
     ·rename_i t sz'' z l hlr
      have hlive := qeu hlr
      split at hr
      ·rename_i hc
       obtain ⟨rfl, rfl, rfl, rfl⟩ := hc
       have ho' := h.objs id _ (by rw [hlive]; rfl)
       obtain ⟨h0, hs, hrest⟩ := ho'
       have hs1 : ∀ d ∈ l, d.cells.length = sz + 1 := fun d hd => (hs d hd).1
       split at hr
       ·rename_i hn
        subst hn
        split at hr
        ·cases hr
        ·simp only [Option.map_eq_some_iff] at hr
         obtain ⟨r0, hr0, rfl⟩ := hr
         obtain ⟨hfree, rfl⟩ := qck hr0
         have hbytes : (l.length + ys.length) * by_ ≤ 140737488355328 ∧ l.length + ys.length ≤ 9223372036854775807 := hok
         have hne : id ≠ nm o.dst 0 := fun e => by rw [e] at hlive; rw [hlive] at hfree; cases hfree
         have hnf : (s.hp id).isFree = false := by rw [hlive]; rfl
         have hk := h.kill hnf
         have hkf : (q0e s.hp [(id, .dead)] (nm o.dst 0)).isFree = true := by simp only [q0e]; rw [if_neg (fun (e : nm o.dst 0 = id) => hne e.symm)]; exact hfree
         have hkX : ∀ b, Xs E.X0 (q0e s.hp [(id, .dead)]) bt b → Xs E.X0 s.hp bt b := by
          rintro b (hx | ⟨j, hj, he⟩)
          ·exact .inl hx
          ·refine .inr ⟨j, ?_, he⟩
           simp only [q0e] at hj
           split at hj
           ·cases hj
           ·exact hj
         by_cases hnil : ys = []
         ·subst hnil
          -- nothing is appended
          have hval : ∃ base cap, a.eval x = .slice base l.length cap ∧ l.length ≤ cap := by
           rcases (qdg hXv).2 with ⟨bk, cap, ad, hb, hv, _, hn, hk⟩ | ⟨hb, _, hn, hv⟩
           ·exact ⟨_, cap, hv, hn⟩
           ·exact ⟨none, 0, by rw [hn]; exact hv, by omega⟩
          obtain ⟨base, cap, hev, hcap⟩ := hval
          have hrun := qlr (P := C.P) (w := w) (base := base) (n := l.length) (cap := cap) ht hsl hi hsrc (by simpa using hcap) rfl o.type
          have had := qyg h (dst := o.dst) hlive hfree hXv rd
          have had' : Rel C E (fun i => if i = nm o.dst 0 then bt id else bt i) (Delta.app C o.dst ⟨[(id, .dead), (nm o.dst 0, .live (.row t (sz + 1) z (l ++ [])))], some (.row (nm o.dst 0) (sz + 1) 0 (l.length + 0)), rd⟩ s)
           (a.put o.dst (a.eval x)) w := by
           rw [List.append_nil]; exact had
          rw [hev] at had'
          exact ⟨_, _, _, _, qf3 ho (by rw [hev]; exact hrun), .inl rfl, had'⟩
         ·have hpos : 0 < ys.length := List.length_pos_iff.2 hnil
          have viaGrow : ∀ (olds : List Value) (base : Option Addr) (cap : Nat), olds.length = l.length * (sz + 1) →
           (∀ (j : Nat) (v : Value) (d : D), olds[j]? = some v → (flat l)[j]? = some d → RD w (Xs E.X0 s.hp bt) v d) →
           (∀ w', w'.heap = w.heap → (Builtin.firstCells i.size l.length (.slice base l.length cap)).run C.P w' = .ok olds.toArray w') → cap < l.length + ys.length → a.eval x = .slice base l.length cap →
           Out C E o s a w ⟨[(id, .dead), (nm o.dst 0, .live (.row t (sz + 1) z (l ++ ys)))], some (.row (nm o.dst 0) (sz + 1) 0 (l.length + ys.length)), rd⟩ := by
           intro olds base cap g1 g2 g3 g4 g5
           obtain ⟨v, w', bt', k1, k2⟩ := grown ⟨s.sl, q0e s.hp [(id, .dead)]⟩ hk hkf rfl l olds base cap z hkX hs g1 g2 g3 g4 hbytes.1 hbytes.2 g5
           refine ⟨_, v, w', bt', k1, .inl rfl, ?_⟩
           simp only [Delta.app] at k2 ⊢
           rw [q6n _ _ _ _ hne] at k2
           exact k2
          rcases (qdg hXv).2 with ⟨bk, cap, ad, hb, hev, had, hn, hkk⟩ | ⟨hb, _, hn, hev⟩
          rotate_left
          ·have hl0 : l = [] := List.eq_nil_of_length_eq_zero hn
           subst hl0
           exact viaGrow [] none 0 (by simp) (by simp) (fun w' _ => by simp [Builtin.firstCells]) (by simpa using hpos) hev
          ·rw [Nat.zero_mul] at had
           by_cases hc0 : cap = 0
           ·have hl0 : l = [] := List.eq_nil_of_length_eq_zero (by omega)
            subst hl0
            exact viaGrow [] (some ad) cap (by simp) (by simp) (fun w' _ => by simp [Builtin.firstCells, loadCells, loadCellsFrom]) (by omega) hev
           have had : ad = ⟨bk, 0, none⟩ := by
            rcases had with h | h
            ·exact h
            ·omega
           subst had
           rcases hrest with ⟨h3, h4⟩ | ⟨bk', cs, h3, h4, h5, h6, h7⟩
           ·rw [hb] at h3; cases h3
           ·rw [hb] at h3; cases h3
            obtain ⟨cs2, t2, q1, q2⟩ := hkk
            rw [h4] at q1; cases q1
            rw [Nat.zero_add] at q2
            have hfl := q02 hs1
            by_cases hroom : l.length + ys.length ≤ cap
            ·-- in place
             have hrun := qls (P := C.P) (w := w) ht hsl hi h4 hsrc hroom (by rw [his]; omega) o.type
             rw [his] at hrun hsrc
             have hmul : (l.length + ys.length) * (sz + 1) ≤ cap * (sz + 1) := Nat.mul_le_mul_right _ hroom
             have hadd : (l.length + ys.length) * (sz + 1) = l.length * (sz + 1) + ys.length * (sz + 1) := Nat.add_mul _ _ _
             have hle' : l.length * (sz + 1) + news.length ≤ cs.toList.length := by rw [hsrc.size]; simp; omega
             have hfr : Fr (fun b => bt id = some b) w (w.setRow bk (q03 cs.toList (l.length * (sz + 1)) news).toArray) := qge h4 hb _ (by simp [q04 hle'])
             have hext := hfr.ext.mono (fun b hbt => qb7 (X0 := E.X0) (hp := s.hp) (bt := bt) (id := id) (by rw [hlive]; rfl) hbt)
             have hnew : Nf (q0e s.hp [(id, .dead), (nm o.dst 0, .live (.row t (sz + 1) z (l ++ ys)))]) (nm o.dst 0) := by
              show (if nm o.dst 0 = id then HS.dead else if nm o.dst 0 = nm o.dst 0 then HS.live (.row t (sz + 1) z (l ++ ys)) else s.hp (nm o.dst 0)).isFree = false
              rw [if_neg (fun (e : nm o.dst 0 = id) => hne e.symm), if_pos rfl]; rfl
             have had := h.adopt hlive hfree (.row t (sz + 1) z (l ++ ys)) hfr o.dst (.slice (some ⟨bk, 0, none⟩) (l.length + ys.length) cap) (some (.row (nm o.dst 0) (sz + 1) 0 (l.length + ys.length))) rd
              ⟨by omega, fun d hd => by rcases List.mem_append.1 hd with hd | hd; exact hs d hd; exact hsrc.fits d hd,
                .inr ⟨bk, _, by simpa using hb, setRow_heap w bk cs _ t _ h4, fun hz hnil => h5 hz (List.append_eq_nil_iff.1 hnil).1, by
                  rw [qe9, List.length_append, hfl, q02 hys1]; simp [q04 hle']; omega,
                  qlt (rest := cs.toList.drop (l.length * (sz + 1) + news.length)) (olds := cs.toList.take (l.length * (sz + 1))) hs1 (by simp; omega) hsrc.size hys1 (by simp [q03])
                   (fun j v d hj hd => by
                     rw [List.getElem?_take] at hj
                     split at hj
                     ·exact (h7 j v d (by simpa using hj) hd).ext hext.same (fun _ _ hx => hx)
                     ·cases hj)
                   (fun j v d hj hd => (hsrc.rd j v d hj hd).ext hext.same (fun _ _ hx => hx))⟩⟩
              (fun y hy => by
                cases hy
                have := VR.row (w := w.setRow bk (q03 cs.toList (l.length * (sz + 1)) news).toArray) (X := Xs E.X0 s.hp bt) (bt := fun i => if i = nm o.dst 0 then bt id else bt i)
                 (nf := Nf (q0e s.hp [(id, .dead), (nm o.dst 0, .live (.row t (sz + 1) z (l ++ ys)))])) (nm o.dst 0) (sz + 1) 0 (l.length + ys.length) bk cap ⟨bk, 0, none⟩ (.inl (by simp)) hnew (by simpa using hb) hroom
                 ⟨_, t, setRow_heap w bk cs _ t _ h4, by simp [q04 hle']; omega⟩
                simpa using this)
             exact ⟨_, _, _, _, qf3 ho (by rw [hev]; exact hrun), .inl rfl, had⟩
            ·exact viaGrow (cs.toList.take (l.length * (sz + 1))) (some ⟨bk, 0, none⟩) cap (by simp; omega)
              (fun j v d hj hd => by
                rw [List.getElem?_take] at hj
                split at hj
                ·exact h7 j v d (by simpa using hj) hd
                ·cases hj)
              (by rw [his]; exact qq4 h4 (by omega)) (by omega) hev
       ·rename_i hn
        cases hr
        have hle : n + ys.length ≤ l.length := hok
        rcases (qdg hXv).2 with ⟨bk, cap, ad, hb, hev, had, hncap, hkk⟩ | ⟨hb, _, hn0, hev⟩
        rotate_left
        ·rcases hrest with ⟨h3, h4⟩ | ⟨bk', cs, h3, h4, h5, h6, h7⟩
         ·subst h4; simp at hle hn; omega
         ·rw [hb] at h3; cases h3
        ·rw [Nat.zero_mul] at had
         rcases hrest with ⟨h3, h4⟩ | ⟨bk', cs, h3, h4, h5, h6, h7⟩
         ·rw [hb] at h3; cases h3
         ·rw [hb] at h3; cases h3
          obtain ⟨cs2, t2, q1, q2⟩ := hkk
          rw [h4] at q1; cases q1
          rw [Nat.zero_add] at q2
          have hfl := q02 hs1
          have hcapl : l.length ≤ cap := by
           rcases Nat.lt_or_ge cap l.length with hlt | hge
           ·have : (cap + 1) * (sz + 1) ≤ l.length * (sz + 1) := Nat.mul_le_mul_right _ hlt
            rw [Nat.succ_mul] at this
            omega
           ·exact hge
          have had : ad = ⟨bk, 0, none⟩ := by
           rcases had with h | h
           ·exact h
           ·omega
          subst had
          have hrun := qls (P := C.P) (w := w) ht hsl hi h4 hsrc (n := n) (cap := cap) (by omega) (by rw [his]; omega) o.type
          rw [his] at hrun hsrc
          have hmul : (n + ys.length) * (sz + 1) ≤ l.length * (sz + 1) := Nat.mul_le_mul_right _ hle
          have hadd : (n + ys.length) * (sz + 1) = n * (sz + 1) + ys.length * (sz + 1) := Nat.add_mul _ _ _
          have hle' : n * (sz + 1) + news.length ≤ cs.toList.length := by rw [hsrc.size]; simp; omega
          have hfr : Fr (fun b => bt id = some b) w (w.setRow bk (q03 cs.toList (n * (sz + 1)) news).toArray) := qge h4 hb _ (by simp [q04 hle'])
          have hext := hfr.ext.mono (fun b hbt => qb7 (X0 := E.X0) (hp := s.hp) (bt := bt) (id := id) (by rw [hlive]; rfl) hbt)
          have hsl' : ∀ d ∈ q03 l n ys, d.fits (sz + 1) := by
           intro d hd
           simp only [q03, List.mem_append] at hd
           rcases hd with (hd | hd) | hd
           ·exact hs d (List.mem_of_mem_take hd)
           ·exact hsrc.fits d hd
           ·exact hs d (List.mem_of_mem_drop hd)
          have hflat : flat (q03 l n ys) = q03 (flat l) (n * (sz + 1)) (flat ys) := by
           simp only [q03, qe9]
           rw [qdd n hs1, qhw _ hs1, q02 hys1, ← Nat.add_mul]
          have hfly := q02 hys1
          refine ⟨_, _, _, _, qf3 ho (by rw [hev]; exact hrun), .inl rfl, h.write hlive _ hfr ?_ o.dst _ _ rd (fun y hy => ?_)⟩
          ·refine ⟨by omega, hsl', .inr ⟨bk, _, hb, setRow_heap w bk cs _ t _ h4, fun hz hnil => ?_, ?_, fun j v d hj hd => ?_⟩⟩
           ·have : (q03 l n ys).length = l.length := q04 (by omega)
            rw [hnil] at this
            exact h5 hz (List.eq_nil_of_length_eq_zero this.symm)
           ·rw [hflat, q04 (by omega)]
            simp [q04 hle']
            omega
           ·rw [List.getElem?_toArray, qch hle'] at hj
            rw [hflat, qch (by omega)] at hd
            have e : news.length = (flat ys).length := by rw [hsrc.size, hfly]
            rw [e] at hj
            by_cases c1 : j < n * (sz + 1)
            ·rw [if_pos c1] at hj hd
             exact (h7 j v d (by simpa using hj) hd).ext hext.same (fun _ _ hx => hx)
            ·rw [if_neg c1] at hj hd
             by_cases c2 : j < n * (sz + 1) + (flat ys).length
             ·rw [if_pos c2] at hj hd
              exact (hsrc.rd _ v d hj hd).ext hext.same (fun _ _ hx => hx)
             ·rw [if_neg c2] at hj hd
              exact (h7 j v d (by simpa using hj) hd).ext hext.same (fun _ _ hx => hx)
          ·cases hy
           have := VR.row (w := w.setRow bk (q03 cs.toList (n * (sz + 1)) news).toArray) (X := Xs E.X0 s.hp bt) (bt := bt)
            (nf := Nf s.hp) id (sz + 1) 0 (n + ys.length) bk cap ⟨bk, 0, none⟩ (.inl (by simp)) (qdg hXv).1 hb (by omega)
            ⟨_, t, setRow_heap w bk cs _ t _ h4, by simp [q04 hle']; omega⟩
           simpa using this
      ·cases hr
    ·cases hr
  ·cases hr
end
end Go.Ev
namespace Go.Ev
section
variable {C : Cfg} {E : Env} {bt : Nat → Option Nat} {s : St} {a : Act} {w : World} {X : Nat → Prop} {nf : Nat → Prop} {P : Program}
theorem qr4 {t : TypeId} {g : Bool} (h : aggT P t = some g) (w : World) : (isAgg t).run P w = .ok g w := by
 cases g
 ·exact qos h w
 ·exact qrz h w
theorem qkt {t : TypeId} {g : Bool} {n : Nat} (hg : aggT P t = some g) (hn : q0u P t = some n) (cs : Array Value) (off : Nat) {v : Value}
 (hv : (if g then some (Value.agg (cs.extract off (off + n))) else cs[off]?) = some v) : (part t cs off).run P w = .ok v w := by
 cases g with
 | true =>
   simp only [if_true, Option.some.injEq] at hv
   subst hv
   simp [part, qr4 hg, qeb hn]
 | false =>
   simp only [Bool.false_eq_true, if_false] at hv
   simp [part, qr4 hg, hv]
theorem qni : ∀ {ks : List K} {a b : List D} {ks' : List K} {a' b' : List D} {r : Bool}, a.length = ks.length → b.length = ks.length → qbu (ks ++ ks') (a ++ a') (b ++ b') = some r →
 ∃ r1 r2, qbu ks a b = some r1 ∧ qbu ks' a' b' = some r2 ∧ r = (r1 && r2)
 | [], [], [], ks', a', b', r, _, _, h => ⟨true, r, rfl, h, by simp⟩
 | k :: ks, x :: a, y :: b, ks', a', b', r, ha, hb, h => by
   simp only [List.cons_append, qbu] at h
   split at h
   ·rename_i p q hp hq
    cases h
    obtain ⟨r1, r2, e1, e2, e3⟩ := qni (by simpa using ha) (by simpa using hb) hq
    refine ⟨p && r1, r2, by simp [qbu, hp, e1], e2, by rw [e3, Bool.and_assoc]⟩
   ·cases h
 | [], _ :: _, _, _, _, _, _, h, _, _ => by simp at h
 | [], [], _ :: _, _, _, _, _, _, h, _ => by simp at h
 | _ :: _, [], _, _, _, _, _, h, _, _ => by simp at h
 | _ :: _, _ :: _, [], _, _, _, _, _, h, _ => by simp at h
theorem qjp : ∀ {ks : List K} {a b : List D} {r : Bool}, qbu ks a b = some r → a.length = ks.length ∧ b.length = ks.length
 | [], [], [], _, _ => ⟨rfl, rfl⟩
 | k :: ks, x :: a, y :: b, r, h => by
   simp only [qbu] at h
   split at h
   ·rename_i p q hp hq
    have := qjp hq
    simp [this.1, this.2]
   ·cases h
 | [], _ :: _, _, _, h => by simp [qbu] at h
 | [], [], _ :: _, _, h => by simp [qbu] at h
 | _ :: _, [], _, _, h => by simp [qbu] at h
 | _ :: _, _ :: _, [], _, h => by simp [qbu] at h
def q00r (P : Program) (w : World) (X : Nat → Prop) (n : Nat) : Prop := ∀ (t : TypeId) (ks : List K), eqK P n t = some ks → ∀ d, n ≤ d → ∀ (x y : Value) (p q : D) (r : Bool),
 RD w X x p → RD w X y q → qbu ks p.cells q.cells = some r → (aggT P t = some true → (∃ l, p = .agg l) ∧ ∃ l, q = .agg l) → (aggT P t = some false → p.one = true ∧ q.one = true) → (Op.equalIn d t x y).run P w = .ok r w
theorem RD.extract {cs : Array Value} {l : List D} (h : RD w X (.agg cs) (.agg l)) {off n : Nat} (hle : off + n ≤ l.length) : RD w X (.agg (cs.extract off (off + n))) (.agg ((l.drop off).take n)) := by
 cases h with
 | agg _ _ hn hc =>
   refine .agg _ _ (by simp; omega) fun j v d hj hd => ?_
   rw [Array.getElem?_extract] at hj
   rw [List.getElem?_take, List.getElem?_drop] at hd
   split at hj
   ·split at hd
    ·exact hc _ v d hj hd
    ·cases hd
   ·cases hj
theorem qr5 {n : Nat} (ih : q00r P w X n) {d : Nat} (hd : n ≤ d) {cs cs' : Array Value} {l l' : List D} (hx : RD w X (.agg cs) (.agg l)) (hy : RD w X (.agg cs') (.agg l')) :
 ∀ (fs : List Field) (at_ : Nat) (ks : List K) (r : Bool), at_ ≤ l.length → at_ ≤ l'.length → qj0 P (eqK P n) at_ fs = some ks → qbu ks (l.drop at_) (l'.drop at_) = some r → (Op.eqFields d cs cs' fs).run P w = .ok r w
 | [], at_, ks, r, _, _, hk, hc => by
   simp only [qj0, Option.some.injEq] at hk
   subst hk
   have := qjp hc
   rw [List.eq_nil_of_length_eq_zero this.1, List.eq_nil_of_length_eq_zero this.2] at hc
   simp only [qbu, Option.some.injEq] at hc
   subst hc
   simp [Op.eqFields]
 | f :: fs, at_, ks, r, hb1, hb2, hk, hc => by
   simp only [qj0] at hk
   split at hk
   ·cases hk
   ·rename_i hcond
    have hname : f.name ≠ "_" := fun e => hcond (.inl e)
    have hoff : f.offset = at_ := by
     by_cases e : f.offset = at_
     ·exact e
     ·exact absurd (.inr e) hcond
    split at hk
    ·rename_i ks1 m hks hm
     split at hk
     ·rename_i hlen
      simp only [Option.map_eq_some_iff] at hk
      obtain ⟨ks2, hk2, rfl⟩ := hk
      have hL := qjp hc
      simp only [List.length_drop, List.length_append] at hL
      have sp : ∀ (q : List D), at_ + m ≤ q.length → q.drop at_ = (q.drop at_).take m ++ q.drop (at_ + m) := fun q hq => by
       rw [← List.drop_drop, List.take_append_drop]
      rw [sp l (by omega), sp l' (by omega)] at hc
      obtain ⟨r1, r2, e1, e2, rfl⟩ := qni (by simp; omega) (by simp; omega) hc
      have rest := qr5 ih hd hx hy fs (at_ + m) ks2 r2 (by omega) (by omega) hk2 e2
      -- the field
      have hg : ∃ g, aggT P f.type = some g := by
       cases n with
       | zero => cases hks
       | succ n =>
         simp only [eqK] at hks
         unfold aggT
         cases hu : P.underlying f.type with
         | none => simp [hu] at hks
         | some td => exact ⟨_, rfl⟩
      obtain ⟨g, hg⟩ := hg
      have field : ∀ {cs : Array Value} {l : List D}, RD w X (.agg cs) (.agg l) → at_ + m ≤ l.length → ∃ v p, (part f.type cs f.offset).run P w = .ok v w ∧ RD w X v p ∧ (g = true → p = .agg ((l.drop at_).take m)) ∧ (g = false → some p = l[at_]?) := by
       intro cs l hcl hle
       rw [hoff]
       cases g with
       | true => exact ⟨_, _, qkt hg hm cs at_ (by simp), hcl.extract hle, fun _ => rfl, fun h => by cases h⟩
       | false =>
         have hm0 : 0 < m := by
          cases n with
          | zero => cases hks
          | succ n =>
            simp only [eqK] at hks
            unfold aggT at hg
            cases hu : P.underlying f.type with
            | none => simp [hu] at hks
            | some td => cases td <;> simp [hu] at hks hg <;> (subst hks; simp at hlen; omega)
         cases hcl with
         | agg _ _ hn hcc =>
           have hlt : at_ < cs.size := by omega
           have hlt' : at_ < l.length := by omega
           refine ⟨cs[at_], l[at_], qkt hg hm cs at_ (by simp [hlt]), hcc at_ _ _ (by simp [hlt]) (by simp [hlt']), fun h => (by cases h), fun _ => by simp [hlt']⟩
      obtain ⟨v1, p1, g1, g2, g3, g4⟩ := field hx (by omega)
      obtain ⟨v2, p2, k1, k2, k3, k4⟩ := field hy (by omega)
      have heq : (Op.equalIn d f.type v1 v2).run P w = .ok r1 w := by
       cases g with
       | true =>
         have e3 := g3 rfl
         have e4 := k3 rfl
         subst e3; subst e4
         exact ih f.type ks1 hks d hd v1 v2 _ _ r1 g2 k2 e1 (fun _ => ⟨⟨_, rfl⟩, ⟨_, rfl⟩⟩) (fun h => by rw [hg] at h; cases h)
       | false =>
         -- one cell
         have hm1 : m = 1 ∧ ks1.length = 1 := by
          cases n with
          | zero => cases hks
          | succ n =>
            simp only [eqK] at hks
            unfold aggT at hg
            cases hu : P.underlying f.type with
            | none => simp [hu] at hks
            | some td => cases td <;> simp [hu] at hks hg <;> (subst hks; simp at hlen; exact ⟨by omega, rfl⟩)
         obtain ⟨rfl, hk1⟩ := hm1
         have one : ∀ {l : List D} {c : D}, l[at_]? = some c → (l.drop at_).take 1 = [c] := by
          intro l c hc
          obtain ⟨hlt, rfl⟩ := List.getElem?_eq_some_iff.1 hc
          rw [List.drop_eq_getElem_cons hlt]; rfl
         have cells1 : ∀ {c c' : D} {k : K} {r : Bool}, qbu [k] [c] [c'] = some r → (c.cells = [c] ∧ c'.cells = [c']) ∧ c.one = true ∧ c'.one = true := by
          intro c c' k r h
          simp only [qbu] at h
          cases k <;> cases c <;> cases c' <;> simp [qhv] at h <;> exact ⟨⟨rfl, rfl⟩, rfl, rfl⟩
         have hboth : (p1.cells = (l.drop at_).take 1 ∧ p2.cells = (l'.drop at_).take 1) ∧ p1.one = true ∧ p2.one = true := by
          match ks1, hk1 with
          | [k], _ =>
            have hl1 : at_ < l.length := by omega
            have hl2 : at_ < l'.length := by omega
            have o1 := one (show l[at_]? = some l[at_] by simp [hl1])
            have o2 := one (show l'[at_]? = some l'[at_] by simp [hl2])
            have cc := e1
            rw [o1, o2] at cc
            obtain ⟨⟨q1, q2⟩, q3, q4⟩ := cells1 cc
            have w1 : p1 = l[at_] := by have := g4 rfl; simpa [hl1] using this
            have w2 : p2 = l'[at_] := by have := k4 rfl; simpa [hl2] using this
            rw [w1, w2, o1, o2]
            exact ⟨⟨q1, q2⟩, q3, q4⟩
         obtain ⟨hp1, hone⟩ := hboth
         exact ih f.type ks1 hks d hd v1 v2 p1 p2 r1 g2 k2 (by rw [hp1.1, hp1.2]; exact e1) (fun h => by rw [hg] at h; cases h) (fun _ => hone)
      simp only [Op.eqFields, if_pos hname, Sem.run_bind, g1, k1, Result.andThen_ok, heq]
      cases r1
      ·simp
      ·simpa using rest
     ·cases hk
    ·cases hk
theorem qud : ∀ n, q00r P w X n
 | 0 => fun t ks h => by cases h
 | n + 1 => fun t ks h d hd x y p q r hx hy hc hagg hone => by
   obtain ⟨d, rfl⟩ : ∃ e, d = e + 1 := ⟨d - 1, by omega⟩
   have one : ∀ {k : K}, p.one = true → q.one = true → qbu [k] p.cells q.cells = some r → qhv k p q = some r := by
    intro k h1 h2 hc
    have e1 : p.cells = [p] := by cases p <;> first | rfl | cases h1
    have e2 : q.cells = [q] := by cases q <;> first | rfl | cases h2
    rw [e1, e2] at hc
    simp only [qbu] at hc
    cases hcc : qhv k p q with
    | none => simp [hcc] at hc
    | some v => simpa [hcc] using hc
   simp only [eqK] at h
   cases hu : P.underlying t with
   | none => simp [hu] at h
   | some td =>
     cases td with
     | bool =>
       simp only [hu, Option.some.injEq] at h; subst h
       obtain ⟨h1, h2⟩ := hone (by simp [aggT, hu])
       have he := one h1 h2 hc
       cases p <;> cases q <;> simp [qhv] at he
       cases hx; cases hy
       rw [run_equalIn_bool' w d t _ _ hu, he]
     | int k =>
       simp only [hu, Option.some.injEq] at h; subst h
       obtain ⟨h1, h2⟩ := hone (by simp [aggT, hu])
       have he := one h1 h2 hc
       cases p <;> cases q <;> simp [qhv] at he
       cases hx; cases hy
       obtain ⟨rfl, he⟩ := he
       rw [run_equalIn_int w d t _ _ _ _ hu, he]
     | string =>
       simp only [hu, Option.some.injEq] at h; subst h
       obtain ⟨h1, h2⟩ := hone (by simp [aggT, hu])
       have he := one h1 h2 hc
       cases p <;> cases q <;> simp [qhv] at he
       cases hx; cases hy
       rw [run_equalIn_string w d t _ _ hu, ← he]; rfl
     | struct fs =>
       simp only [hu] at h
       obtain ⟨⟨l, rfl⟩, ⟨l', rfl⟩⟩ := hagg (by simp [aggT, hu])
       split at h
       ·cases h
       ·rename_i hst
        have hst : P.stoodInHeld t = false := by simpa using hst
        cases hx with
        | agg cs _ hn1 hc1 =>
          cases hy with
          | agg cs' _ hn2 hc2 =>
            have hf : P.fieldsOf t = fs := by unfold Program.fieldsOf; rw [hu]
            rw [run_equalIn_struct w d t cs cs' (by rw [hf]; exact hu) hst, hf]
            exact qr5 (qud n) (by omega) (.agg cs l hn1 hc1) (.agg cs' l' hn2 hc2) fs.toList 0 ks r (by omega) (by omega) h (by simpa [D.cells] using hc)
     | _ => simp [hu] at h
end
end Go.Ev
namespace Go.Ev
section
variable {C : Cfg} {E : Env} {bt : Nat → Option Nat} {s : St} {a : Act} {w : World} {X : Nat → Prop} {nf : Nat → Prop} {P : Program}
theorem qd1 {o : Oper} {op : BinOp} {t ty : TypeId} {x y : Operand} (ho : o.op = .binOp op t x y ty) {v : Value} (hg : (eqGuard op t x y (a.eval x) (a.eval y)).run P w = .ok () w)
 (h : (binOp op t (a.eval x) (a.eval y)).run P w = .ok v w) : (execOp a.eval o).run P w = .ok (.value v) w := by
 simp only [execOp, ho, Sem.run_bind, hg, Result.andThen_ok, h]; rfl
theorem qdt {op : BinOp} {t : TypeId} {x y : Operand} {u v : Value} (h : ∀ cs, u ≠ .agg cs) (h2 : u ≠ .nilIface) : (eqGuard op t x y u v).run P w = .ok () w := by
 cases u <;> first | exact absurd rfl (h _) | exact absurd rfl h2 | (cases op <;> rfl)
theorem que {op : BinOp} {k : IntKind} {t : TypeId} {p q : Int} {ok : Prop} {d : D} (h : qlm op k p q = some (ok, d)) (hok : ok) :
 ∃ v, (binOp op t (.int k p) (.int k q)).run P w = .ok v w ∧ RD w X v d := by
 cases op <;> simp only [qlm, Option.some.injEq, Prod.mk.injEq] at h <;> first | (cases h; done) | skip
 all_goals obtain ⟨rfl, rfl⟩ := h
 case quo => exact ⟨.int k (k.wrap (p.tdiv q)), by simp [binOp, Op.intDiv, hok], .i _ _⟩
 case rem => exact ⟨.int k (p.tmod q), by simp [binOp, Op.intDiv, hok], .i _ _⟩
 case and => exact ⟨.int k (iand k p q), by simp [binOp, Op.intBits, iand], .i _ _⟩
 case or => exact ⟨.int k (ior k p q), by simp [binOp, Op.intBits, ior], .i _ _⟩
 case xor => exact ⟨.int k (ixor k p q), by simp [binOp, Op.intBits, ixor], .i _ _⟩
 case add => exact ⟨.int k (k.wrap (p + q)), by simp [binOp, Op.intArith], .i _ _⟩
 case sub => exact ⟨.int k (k.wrap (p - q)), by simp [binOp, Op.intArith], .i _ _⟩
 case mul => exact ⟨.int k (k.wrap (p * q)), by simp [binOp, Op.intArith], .i _ _⟩
 case eql => exact ⟨.bool (p == q), by simp [binOp, Op.intCmp], .b _⟩
 case neq => exact ⟨.bool (p != q), by simp [binOp, Op.intCmp], .b _⟩
 case lss => exact ⟨.bool (decide (p < q)), by simp [binOp, Op.intCmp], .b _⟩
 case leq => exact ⟨.bool (decide (p ≤ q)), by simp [binOp, Op.intCmp], .b _⟩
 case gtr => exact ⟨.bool (decide (p > q)), by simp [binOp, Op.intCmp], .b _⟩
 case geq => exact ⟨.bool (decide (p ≥ q)), by simp [binOp, Op.intCmp], .b _⟩
theorem quf {op : BinOp} {k k' : IntKind} {t : TypeId} {p q : Int} {ok : Prop} {d : D} (h : qln op k p q = some (ok, d)) (hok : ok) :
 ∃ v, (binOp op t (.int k p) (.int k' q)).run P w = .ok v w ∧ RD w X v d := by
 cases op <;> simp only [qln, Option.some.injEq, Prod.mk.injEq] at h <;> first | (cases h; done) | skip
 all_goals obtain ⟨rfl, rfl⟩ := h
 all_goals have hn : ¬ q < 0 := by omega
 case shl => exact ⟨.int k (k.wrap (p * 2 ^ (min q.toNat k.bits))), by simp [binOp, Op.shift, hn], .i _ _⟩
 case shr => exact ⟨.int k (p.fdiv (2 ^ (min q.toNat k.bits))), by simp [binOp, Op.shift, hn], .i _ _⟩
theorem qug {op : BinOp} {t : TypeId} {p q : ByteArray} {ok : Prop} {d : D} (h : qlo op p q = some (ok, d)) (hok : ok) :
 ∃ v, (binOp op t (.string p) (.string q)).run P w = .ok v w ∧ RD w X v d := by
 cases op <;> simp only [qlo, Option.some.injEq, Prod.mk.injEq] at h <;> first | (cases h; done) | skip
 all_goals obtain ⟨rfl, rfl⟩ := h
 case add =>
  refine ⟨.string (p ++ q), ?_, .s _⟩
  have : ¬ (((p.size + q.size : Nat) : Int) > IntKind.i64.max) := by
   have h64 : IntKind.i64.max = 9223372036854775807 := by decide
   rw [h64]; omega
  simp only [binOp, Op.stringOp, if_neg this]; rfl
 case eql => exact ⟨.bool (seq p q), rfl, .b _⟩
 case neq => exact ⟨.bool (!seq p q), rfl, .b _⟩
 case lss => exact ⟨.bool (Op.bytesLess p.toList q.toList), rfl, .b _⟩
 case leq => exact ⟨.bool (Op.bytesLess p.toList q.toList || seq p q), rfl, .b _⟩
 case gtr => exact ⟨.bool (!(Op.bytesLess p.toList q.toList || seq p q)), rfl, .b _⟩
 case geq => exact ⟨.bool (!Op.bytesLess p.toList q.toList), rfl, .b _⟩
theorem quh {v : Value} {l : List D} {sz : Nat} (h : RD w X v (.sl sz l)) : (∃ ad c, v = .slice (some ad) l.length c) ∨ (v = .slice none 0 0 ∧ l = []) := by
 cases h with
 | sl ad cap _ _ u hc hsz hs ha hw hr => exact .inl ⟨ad, cap, rfl⟩
 | sl0 _ => exact .inr ⟨rfl, rfl⟩
theorem qfx {t : TypeId} (h : q08 P t = true) : ∃ e, P.underlying t = some (.slice e) := by
 unfold q08 at h
 split at h
 ·rename_i e hu; exact ⟨e, hu⟩
 ·cases h
theorem qui {t : TypeId} (h : qct P t = true) : ∃ e, P.underlying t = some (.pointer e) := by
 unfold qct at h
 split at h
 ·rename_i e hu; exact ⟨e, hu⟩
 ·cases h
theorem qlu {t e : TypeId} (hu : P.underlying t = some (.slice e)) (ad : Option Addr) (n c : Nat) : (Op.equal t (.slice ad n c) (.slice none 0 0)).run P w = .ok ad.isNone w := by
 unfold Op.equal Op.maxDepth
 rw [show (10000 : Nat) = 9999 + 1 from rfl, Op.equalIn]
 cases ad <;> simp [run_underlying hu]
theorem qoy {t e : TypeId} (hu : P.underlying t = some (.pointer e)) (ad : Option Addr) : (Op.equal t (.pointer ad) (.pointer none)).run P w = .ok ad.isNone w := by
 unfold Op.equal Op.maxDepth
 rw [show (10000 : Nat) = 9999 + 1 from rfl, Op.equalIn]
 cases ad <;> simp [run_underlying hu]
theorem qlv (h : Rel C E bt s a w) {v : Value} {x y : V} {rd : List Nat} (hv : VR w (Xs E.X0 s.hp bt) bt (Nf s.hp) v x) (hn : qgu s x = some (y, rd)) :
 ∃ ad n c, v = .slice ad n c ∧ VR w (Xs E.X0 s.hp bt) bt (Nf s.hp) (.bool ad.isNone) y ∧ ((∃ b, y = .d (.b b)) ∨ ∃ b, y = .ub b) := by
 cases x with
 | d z =>
   have hv := q0z hv
   cases z with
   | nil =>
     simp only [qgu, Option.some.injEq, Prod.mk.injEq] at hn
     obtain ⟨rfl, rfl⟩ := hn
     exact ⟨none, 0, 0, qj4 hv, .d _ _ (.b _), .inl ⟨_, rfl⟩⟩
   | sl sz l =>
     simp only [qgu, Option.some.injEq, Prod.mk.injEq] at hn
     obtain ⟨rfl, rfl⟩ := hn
     rcases quh hv with ⟨ad, c, rfl⟩ | ⟨rfl, rfl⟩
     ·exact ⟨some ad, _, c, rfl, .ub _ _ (fun h => by cases h), .inr ⟨_, rfl⟩⟩
     ·exact ⟨none, 0, 0, rfl, .ub _ _ (fun _ => rfl), .inr ⟨_, rfl⟩⟩
   | _ => cases hn
 | row id sz off n =>
   simp only [qgu] at hn
   cases hrow : qbk s id with
   | none => simp [hrow] at hn
   | some q =>
     obtain ⟨t, sz', z, l⟩ := q
     simp only [hrow] at hn
     split at hn
     ·rename_i hc
      obtain ⟨rfl, rfl, rfl⟩ := hc
      simp only [Option.some.injEq, Prod.mk.injEq] at hn
      obtain ⟨rfl, rfl⟩ := hn
      obtain ⟨_, _, hrest⟩ := h.objs id _ (qdq hrow)
      rcases (qdg hv).2 with ⟨bk, cap, ad, hb, rfl, _, hn', hk⟩ | ⟨hb, _, hn0, rfl⟩
      ·refine ⟨some _, _, cap, rfl, ?_, ?_⟩
       ·rcases hrest with ⟨h3, h4⟩ | ⟨bk', cs, h3, h4, h5, _⟩
        ·rw [hb] at h3; cases h3
        ·by_cases hz : z = true
         ·rw [if_pos hz]
          have hne := h5 hz
          have : l.isEmpty = false := by cases l <;> simp_all
          rw [this]; exact .d _ _ (.b _)
         ·rw [if_neg hz]; exact .ub _ _ (fun h => by cases h)
       ·by_cases hz : z = true
        ·rw [if_pos hz]; exact .inl ⟨_, rfl⟩
        ·rw [if_neg hz]; exact .inr ⟨_, rfl⟩
      ·have hl : l = [] := List.eq_nil_of_length_eq_zero hn0
       subst hl
       refine ⟨none, 0, 0, rfl, ?_, ?_⟩
       ·by_cases hz : z = true
        ·rw [if_pos hz]; exact .d _ _ (.b _)
        ·rw [if_neg hz]; exact .ub _ _ (fun _ => rfl)
       ·by_cases hz : z = true
        ·rw [if_pos hz]; exact .inl ⟨_, rfl⟩
        ·rw [if_neg hz]; exact .inr ⟨_, rfl⟩
     ·cases hn
 | _ => cases hn
theorem qlw {v : Value} {x y : V} {rd : List Nat} (hv : VR w X bt nf v x) (hn : qiu x = some (y, rd)) :
 ∃ ad, v = .pointer ad ∧ VR w X bt nf (.bool ad.isNone) y ∧ ∃ b, y = .d (.b b) := by
 cases x with
 | d z =>
   have hv := q0z hv
   cases z with
   | np =>
     simp only [qiu, Option.some.injEq, Prod.mk.injEq] at hn
     obtain ⟨rfl, rfl⟩ := hn
     cases hv
     exact ⟨none, rfl, .d _ _ (.b _), _, rfl⟩
   | cp l =>
     simp only [qiu, Option.some.injEq, Prod.mk.injEq] at hn
     obtain ⟨rfl, rfl⟩ := hn
     cases hv with
     | cp ad _ u ha hw hr => exact ⟨some ad, rfl, .d _ _ (.b _), _, rfl⟩
   | _ => cases hn
 | ptr id off =>
   simp only [qiu, Option.some.injEq, Prod.mk.injEq] at hn
   obtain ⟨rfl, rfl⟩ := hn
   obtain ⟨bk, _, _, rfl⟩ := qet hv
   exact ⟨some _, rfl, .d _ _ (.b _), _, rfl⟩
 | rp id sz j off =>
   simp only [qiu, Option.some.injEq, Prod.mk.injEq] at hn
   obtain ⟨rfl, rfl⟩ := hn
   obtain ⟨bk, _, _, rfl⟩ := qj2 hv
   exact ⟨some _, rfl, .d _ _ (.b _), _, rfl⟩
 | _ => cases hn
theorem q00s {b : Bool} {y : V} (hv : VR w X bt nf (.bool b) y) (hy : (∃ c, y = .d (.b c)) ∨ ∃ c, y = .ub c) : VR w X bt nf (.bool (!b)) y.neg := by
 rcases hy with ⟨c, rfl⟩ | ⟨c, rfl⟩
 ·have := q0z hv
  cases this
  exact .d _ _ (.b _)
 ·cases hv with
  | ub _ _ h => exact .nb _ _ (fun e => h (by simpa using e))
theorem q00t (h : Rel C E bt s a w) {o : Oper} {op : BinOp} {t ty : TypeId} {x y : Operand} (ho : o.op = .binOp op t x y ty) {xv yv : V} (hx : s.val x = some xv) (hy : s.val y = some yv) {r : Res}
 (hr : qf2 C s op t xv yv = some r) (hok : r.ok) : Out C E o s a w r.dl := by
 have vx := q0s h hx
 have vy := q0s h hy
 unfold qf2 at hr
 split at hr
 ·-- structs
  rename_i p q
  split at hr
  rotate_left
  ·cases hr
  rename_i hagg
  simp only [Option.bind_eq_some_iff] at hr
  obtain ⟨ks, hks, r1, hr1, hr⟩ := hr
  have rx := q0z vx
  have ry := q0z vy
  unfold eqKs at hks
  split at hks
  ·rename_i hgt
   have heq := qud (P := C.P) 8 t ks hks 10000 (by omega) _ _ _ _ r1 rx ry hr1 (fun _ => ⟨⟨_, rfl⟩, ⟨_, rfl⟩⟩) (fun hh => by
    rw [hagg] at hh; cases hh)
   generalize hvx : a.eval x = ux at *
   generalize hvy : a.eval y = uy at *
   cases rx with
   | agg cs _ _ _ =>
     cases ry with
     | agg cs' _ _ _ =>
       have hg : (eqGuard op t x y (.agg cs) (.agg cs')).run C.P w = .ok () w := run_eqGuard_agg w op t x y cs cs' hgt
       unfold qiv at hr
       split at hr
       ·cases hr
        refine Out.same h (qd1 (v := .bool r1) ho (by rw [hvx, hvy]; exact hg) (by rw [hvx, hvy, run_eql_struct, heq]; rfl)) (fun y hy => by cases hy; exact .d _ _ (.b _))
       ·cases hr
        refine Out.same h (qd1 (v := .bool (!r1)) ho (by rw [hvx, hvy]; exact hg) (by rw [hvx, hvy, run_neq_struct, heq]; rfl)) (fun y hy => by cases hy; exact .d _ _ (.b _))
       ·cases hr
  ·cases hks
 ·-- bools
  rename_i p q
  split at hr
  ·rename_i hks
   have rx := q0z vx
   have ry := q0z vy
   have hu : C.P.underlying t = some .bool := by
    unfold qb6 at hks
    split at hks
    ·assumption
    ·cases hks
   have heq : (Op.equal t (.bool p) (.bool q)).run C.P w = .ok (p == q) w := run_equalIn_bool' w 9999 t p q hu
   generalize hvx : a.eval x = ux at *
   generalize hvy : a.eval y = uy at *
   cases rx; cases ry
   have hg : (eqGuard op t x y (.bool p) (.bool q)).run C.P w = .ok () w := qdt (fun _ e => by cases e) (fun e => by cases e)
   unfold qiv at hr
   split at hr
   ·cases hr
    exact Out.same h (qd1 (v := .bool (p == q)) ho (by rw [hvx, hvy]; exact hg) (by rw [hvx, hvy]; simp [binOp, heq])) (fun y hy => by cases hy; exact .d _ _ (.b _))
   ·cases hr
    exact Out.same h (qd1 (v := .bool (!(p == q))) ho (by rw [hvx, hvy]; exact hg) (by rw [hvx, hvy]; simp [binOp, heq])) (fun y hy => by cases hy; exact .d _ _ (.b _))
   ·cases hr
  ·cases hr
 ·-- ints
  rename_i k p k' q
  simp only [Option.bind_eq_some_iff] at hr
  obtain ⟨⟨ok, d⟩, hb, hr⟩ := hr
  simp only [qb2, Option.some.injEq] at hr
  subst hr
  simp only [binD] at hb
  split at hb
  ·have rx := q0z vx
   have ry := q0z vy
   generalize hvx : a.eval x = ux at *
   generalize hvy : a.eval y = uy at *
   cases rx; cases ry
   obtain ⟨v, hv, hrd⟩ := quf (P := C.P) (w := w) (X := Xs E.X0 s.hp bt) (t := t) (k' := k') hb hok
   exact Out.same h (qd1 ho (by rw [hvx]; exact qdt (fun _ e => by cases e) (fun e => by cases e)) (by rw [hvx, hvy]; exact hv)) (fun y hy => by cases hy; exact .d _ _ hrd)
  split at hb
  ·rename_i hk
   subst hk
   have rx := q0z vx
   have ry := q0z vy
   generalize hvx : a.eval x = ux at *
   generalize hvy : a.eval y = uy at *
   cases rx; cases ry
   obtain ⟨v, hv, hrd⟩ := que (P := C.P) (w := w) (X := Xs E.X0 s.hp bt) (t := t) hb hok
   exact Out.same h (qd1 ho (by rw [hvx]; exact qdt (fun _ e => by cases e) (fun e => by cases e)) (by rw [hvx, hvy]; exact hv)) (fun y hy => by cases hy; exact .d _ _ hrd)
  ·cases hb
 ·-- strings
  rename_i p q
  simp only [Option.bind_eq_some_iff] at hr
  obtain ⟨⟨ok, d⟩, hb, hr⟩ := hr
  simp only [qb2, Option.some.injEq] at hr
  subst hr
  have rx := q0z vx
  have ry := q0z vy
  generalize hvx : a.eval x = ux at *
  generalize hvy : a.eval y = uy at *
  cases rx; cases ry
  obtain ⟨v, hv, hrd⟩ := qug (P := C.P) (w := w) (X := Xs E.X0 s.hp bt) (t := t) hb hok
  exact Out.same h (qd1 ho (by rw [hvx]; exact qdt (fun _ e => by cases e) (fun e => by cases e)) (by rw [hvx, hvy]; exact hv)) (fun y hy => by cases hy; exact .d _ _ hrd)
 ·-- slices against nil
  split at hr
  ·rename_i hsl
   obtain ⟨e, hu⟩ := qfx hsl
   have hy0 := qj4 (q0z vy)
   split at hr
   ·rename_i v rd hn
    cases hr
    obtain ⟨ad, n, c, hv, hvr, hsh⟩ := qlv h vx hn
    exact Out.same h (qd1 (v := .bool ad.isNone) ho (by rw [hv]; exact qdt (fun _ e => by cases e) (fun e => by cases e)) (by rw [hv, hy0]; simp [binOp, qlu hu])) (fun y hy => by cases hy; exact hvr)
   ·rename_i v rd hn
    cases hr
    obtain ⟨ad, n, c, hv, hvr, hsh⟩ := qlv h vx hn
    exact Out.same h (qd1 (v := .bool (!ad.isNone)) ho (by rw [hv]; exact qdt (fun _ e => by cases e) (fun e => by cases e)) (by rw [hv, hy0]; simp [binOp, qlu hu])) (fun y hy => by cases hy; exact q00s hvr hsh)
   ·cases hr
  ·cases hr
 ·-- pointers against nil
  split at hr
  ·rename_i hsl
   obtain ⟨e, hu⟩ := qui hsl
   have hy0 : a.eval y = .pointer none := by have := q0z vy; generalize a.eval y = u at this; cases this; rfl
   split at hr
   ·rename_i v rd hn
    cases hr
    obtain ⟨ad, hv, hvr, hsh⟩ := qlw vx hn
    exact Out.same h (qd1 (v := .bool ad.isNone) ho (by rw [hv]; exact qdt (fun _ e => by cases e) (fun e => by cases e)) (by rw [hv, hy0]; simp [binOp, qoy hu])) (fun y hy => by cases hy; exact hvr)
   ·rename_i v rd hn
    cases hr
    obtain ⟨ad, hv, hvr, hsh⟩ := qlw vx hn
    exact Out.same h (qd1 (v := .bool (!ad.isNone)) ho (by rw [hv]; exact qdt (fun _ e => by cases e) (fun e => by cases e)) (by rw [hv, hy0]; simp [binOp, qoy hu])) (fun y hy => by cases hy; exact q00s hvr (.inl hsh))
   ·cases hr
  ·cases hr
 ·cases hr
end
end Go.Ev
