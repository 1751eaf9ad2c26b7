/- Tools and contracts under the laws of this seat: DevEvU, DevEvV, DevEvW, DevEvX, DevEvY, DevEvZ, DevEvZb. -/
import Derived.Test.YtblpebplbdoneaaGreatE01
set_option linter.unusedVariables false
set_option linter.unusedSimpArgs false
namespace Go.Ev
def aget {α : Type} : List (Nat × α) → Nat → Option α
 | [], _ => none
 | (j, x) :: r, i => if i = j then some x else aget r i
def mkS (sl : List (Nat × V)) (hp : List (Nat × HS)) : St := ⟨aget sl, fun i => (aget hp i).getD .free⟩
theorem qjy {α : Type} {l : List (Nat × α)} {i : Nat} {x : α} (h : aget l i = some x) : (i, x) ∈ l := by
 induction l with
 | nil => cases h
 | cons p r ih =>
   obtain ⟨j, y⟩ := p
   simp only [aget] at h
   split at h
   ·rename_i e; cases h; simp [e]
   ·simp [ih h]
theorem qyk {α : Type} {l : List (Nat × α)} {i : Nat} (h : i ∈ l.map (·.1)) : ∃ x, aget l i = some x := by
 induction l with
 | nil => cases h
 | cons p r ih =>
   obtain ⟨j, y⟩ := p
   simp only [aget]
   split
   ·exact ⟨y, rfl⟩
   ·rename_i e
    simp only [List.map_cons, List.mem_cons] at h
    exact ih (h.resolve_left e)
def qmq : Nat → List O → List (Nat × V)
 | _, [] => []
 | j, o :: r => (j, (inO (16 * j) o).1) :: qmq (j + 1) r
def qhr : Nat → List O → List (Nat × HS)
 | _, [] => []
 | j, o :: r => (inO (16 * j) o).2.1 ++ qhr (j + 1) r
def qkr (args : List O) : St := mkS (qmq 0 args) (qhr 0 args)
def qs9 (o : O) : Bool := o.ok && decide ((inO 0 o).2.2 ≤ 16)
theorem qt4 : ∀ {args : List O} {j i : Nat} {v : V}, aget (qmq j args) i = some v → ∃ o, j ≤ i ∧ args[i - j]? = some o ∧ v = (inO (16 * i) o).1
 | [], j, i, v, h => by cases h
 | o :: r, j, i, v, h => by
   simp only [qmq, aget] at h
   split at h
   ·rename_i e; subst e; cases h; exact ⟨o, by omega, by simp, rfl⟩
   ·rename_i e
    obtain ⟨o', h1, h2, h3⟩ := qt4 h
    exact ⟨o', by omega, by rw [show i - j = (i - (j + 1)) + 1 by omega]; simpa using h2, h3⟩
theorem qpn : ∀ {args : List O} {j : Nat} {p : Nat × HS}, p ∈ qhr j args → ∃ i o, j ≤ i ∧ args[i - j]? = some o ∧ p ∈ (inO (16 * i) o).2.1
 | [], j, p, h => by cases h
 | o :: r, j, p, h => by
   rcases List.mem_append.1 h with h | h
   ·exact ⟨j, o, by omega, by simp, h⟩
   ·obtain ⟨i, o', h1, h2, h3⟩ := qpn h
    exact ⟨i, o', by omega, by rw [show i - j = (i - (j + 1)) + 1 by omega]; simpa using h2, h3⟩
theorem qvt : ∀ {args : List O} {j i : Nat} {o : O} {p : Nat × HS}, args[i]? = some o → p ∈ (inO (16 * (j + i)) o).2.1 → p ∈ qhr j args
 | [], j, i, o, p, h, _ => by simp at h
 | o' :: r, j, 0, o, p, h, hp => by simp at h; subst h; exact List.mem_append_left _ (by simpa using hp)
 | o' :: r, j, i + 1, o, p, h, hp => List.mem_append_right _ (qvt (j := j + 1) (i := i) (by simpa using h) (by rwa [show j + 1 + i = j + (i + 1) by omega]))
theorem qbl9 {w : World} {X : Nat → Prop} {v : Value} {o : O} {os : List (Option Nat)} (h : RO w X v o os) (ho : o.ok = true) (b : Nat) : (inO b o).2.2 = os.length := by
 have := (qp0 (bt := fun i => (os[i - b]?).join) (nf := fun _ => True) (b := b) h ho (fun k q hk => by simp [hk]) (fun _ _ => trivial)).cnt
 omega
theorem qvu : ∀ {oss : List (List (Option Nat))} {i k i' k' b : Nat} {q q' : List (Option Nat)}, qm0 oss.flatten → oss[i]? = some q → q[k]? = some (some b) → oss[i']? = some q' → q'[k']? = some (some b) → i = i' ∧ k = k'
 | [], i, k, i', k', b, q, q', _, h, _, _, _ => by simp at h
 | p :: oss, i, k, i', k', b, q, q', ha, h1, h2, h3, h4 => by
   have hin : ∀ {i k : Nat} {q : List (Option Nat)}, oss[i]? = some q → q[k]? = some (some b) → ∃ m, oss.flatten[m]? = some (some b) := fun hi hk => by
    obtain ⟨m, hm, e⟩ := List.getElem_of_mem (List.mem_flatten.2 ⟨_, List.mem_of_getElem? hi, List.mem_of_getElem? hk⟩)
    exact ⟨m, by rw [List.getElem?_eq_getElem hm, e]⟩
   have sub : qm0 oss.flatten := fun x y c hx hy => by
    have := ha (p.length + x) (p.length + y) c (by rw [List.flatten_cons, List.getElem?_append_right (by omega)]; simpa using hx) (by rw [List.flatten_cons, List.getElem?_append_right (by omega)]; simpa using hy)
    omega
   have clash : ∀ {k m : Nat}, p[k]? = some (some b) → oss.flatten[m]? = some (some b) → False := fun {k m} hk hm => by
    have hlt := (List.getElem?_eq_some_iff.1 hk).1
    have := ha k (p.length + m) b (by rw [List.flatten_cons, List.getElem?_append_left hlt]; exact hk) (by rw [List.flatten_cons, List.getElem?_append_right (by omega)]; simpa using hm)
    omega
   match i, i' with
   | 0, 0 =>
     simp at h1 h3; subst h1; subst h3
     have l1 := (List.getElem?_eq_some_iff.1 h2).1
     have l2 := (List.getElem?_eq_some_iff.1 h4).1
     exact ⟨rfl, ha k k' b (by rw [List.flatten_cons, List.getElem?_append_left l1]; exact h2) (by rw [List.flatten_cons, List.getElem?_append_left l2]; exact h4)⟩
   | 0, i' + 1 =>
     simp at h1 h3; subst h1
     obtain ⟨m, hm⟩ := hin h3 h4
     exact (clash h2 hm).elim
   | i + 1, 0 =>
     simp at h1 h3; subst h3
     obtain ⟨m, hm⟩ := hin h1 h2
     exact (clash h4 hm).elim
   | i + 1, i' + 1 =>
     simp at h1 h3
     obtain ⟨e1, e2⟩ := qvu sub h1 h2 h3 h4
     exact ⟨by omega, e2⟩
section
variable {C : Cfg}
def qjg : Nat → List O → List Nat
 | _, [] => []
 | j, o :: r => match o with
   | .bx _ _ => 16 * j :: qjg (j + 1) r
   | _ => qjg (j + 1) r
theorem qo1 : ∀ (args : List O) (vs : List Value) (j : Nat), vs.length = args.length → (qjg j args).length = (qe6 args vs).length ∧
 ∀ (m p : Nat) (q : Value), (qjg j args)[m]? = some p → (qe6 args vs)[m]? = some q → ∃ i t l, args[i]? = some (.bx t l) ∧ vs[i]? = some q ∧ p = 16 * (j + i)
 | [], vs, j, _ => by cases vs <;> simp [qjg, qe6]
 | o :: args, v :: vs, j, h => by
   obtain ⟨h1, h2⟩ := qo1 args vs (j + 1) (by simpa using h)
   by_cases ho : ∃ t l, o = .bx t l
   ·obtain ⟨t, l, rfl⟩ := ho
    refine ⟨by simp [qjg, qe6, h1], fun m p q hp hq => ?_⟩
    cases m with
    | zero => simp [qjg, qe6] at hp hq; exact ⟨0, t, l, rfl, by simp [hq], by omega⟩
    | succ m =>
      simp [qjg, qe6] at hp hq
      obtain ⟨i, t', l', q1, q2, q3⟩ := h2 m p q hp hq
      exact ⟨i + 1, t', l', by simpa using q1, by simpa using q2, by omega⟩
   ·have e1 : qjg j (o :: args) = qjg (j + 1) args := by cases o <;> first | rfl | exact absurd ⟨_, _, rfl⟩ ho
    have e2 : qe6 (o :: args) (v :: vs) = qe6 args vs := by cases o <;> first | rfl | exact absurd ⟨_, _, rfl⟩ ho
    rw [e1, e2]
    refine ⟨h1, fun m p q hp hq => ?_⟩
    obtain ⟨i, t', l', q1, q2, q3⟩ := h2 m p q hp hq
    exact ⟨i + 1, t', l', by simpa using q1, by simpa using q2, by omega⟩
theorem qyl {args : List O} {w : World} {vs : Array Value} {X : Nat → Prop} {os : List (Option Nat)} (hX : ∀ b, X b → b < w.heap.size) (hap : qm0 os) (hBX : ∀ b, Blk os b → ¬ X b)
 (har : AR w (fun b => X b ∨ Blk os b) vs args os) (hok : args.all qs9 = true) (hpins : C.pins = qjg 0 args) {n : Nat} (hn : args.length ≤ n) (hN : n = C.N) :
 ∃ pin bt, Rel C ⟨X, Blk os, w, hX, pin⟩ bt (qkr args) { tmps := vs ++ Array.replicate (n - vs.size) undef, defers := [] } w ∧
   ∀ (m p : Nat) (q : Value), C.pins[m]? = some p → (qe6 args vs.toList)[m]? = some q → ∃ bk, pin p = some bk ∧ q = .pointer (some ⟨bk, 0, none⟩) := by
 obtain ⟨hsz, oss, hl, rfl, hro⟩ := har
 have hvn : vs.size = args.length := hsz
 rw [List.all_eq_true] at hok
 let bt : Nat → Option Nat := fun i => ((oss[i / 16]?).bind (·[i % 16]?)).join
 -- each argument's rows
 have hq' : ∀ {i : Nat} {o : O}, args[i]? = some o → ∃ q v, oss[i]? = some q ∧ vs[i]? = some v ∧ RO w (fun b => X b ∨ Blk oss.flatten b) v o q ∧ o.ok = true ∧ q.length ≤ 16 ∧ ∀ b, (inO b o).2.2 = q.length := by
  intro i o hi
  have hlt := (List.getElem?_eq_some_iff.1 hi).1
  have h1 : oss[i]? = some (oss[i]'(by omega)) := by simp
  have h2 : vs[i]? = some (vs[i]'(by omega)) := by simp
  have ho := hok o (List.mem_of_getElem? hi)
  simp only [qs9, Bool.and_eq_true, decide_eq_true_eq] at ho
  have h3 := hro i _ o _ h2 hi h1
  have hc := fun b => qbl9 h3 ho.1 b
  exact ⟨_, _, h1, h2, h3, ho.1, by rw [← hc 0]; exact ho.2, hc⟩
 have hbt : ∀ {i k : Nat} {q : List (Option Nat)} {x : Option Nat}, oss[i]? = some q → q.length ≤ 16 → q[k]? = some x → bt (16 * i + k) = x := by
  intro i k q x h1 h2 h3
  have := (List.getElem?_eq_some_iff.1 h3).1
  show ((oss[(16 * i + k) / 16]?).bind (·[(16 * i + k) % 16]?)).join = x
  rw [show (16 * i + k) / 16 = i by omega, show (16 * i + k) % 16 = k by omega, h1]
  simp [h3]
 have hlive : ∀ {i : Nat} {h : HS}, (i, h) ∈ qhr 0 args → ∃ o, h = .live o := by
  intro i h hm
  obtain ⟨j, o, _, ho, hp⟩ := qpn hm
  obtain ⟨q, v, e1, _, e3, e4, e5, _⟩ := hq' (by simpa using ho)
  obtain ⟨k, ob, _, e, _⟩ := (qp0 (bt := fun i => (q[i - 16 * j]?).join) (nf := fun _ => True) (b := 16 * j) e3 e4 (fun k q hk => by simp [hk]) (fun _ _ => trivial)).rows _ hp
  exact ⟨_, by injection e⟩
 have hnf : ∀ {i o : Nat}, True → ∀ (h : HS), (i, h) ∈ qhr 0 args → Nf (qkr args).hp i := by
  intro i o _ h hm
  obtain ⟨x, hx⟩ := qyk (List.mem_map.2 ⟨(i, h), hm, rfl⟩ : i ∈ (qhr 0 args).map (·.1))
  obtain ⟨ob, rfl⟩ := hlive (qjy hx)
  show ((aget (qhr 0 args) i).getD .free).isFree = false
  rw [hx]; rfl
 have hin : ∀ {i : Nat} {o : O} {q : List (Option Nat)} {v : Value}, args[i]? = some o → oss[i]? = some q → vs[i]? = some v → RO w (fun b => X b ∨ Blk oss.flatten b) v o q → o.ok = true → q.length ≤ 16 →
  InOk w (fun b => X b ∨ Blk oss.flatten b) bt (Nf (qkr args).hp) (16 * i) 0 v q (inO (16 * i) o).1 (inO (16 * i) o).2.1 (inO (16 * i) o).2.2 := by
  intro i o q v h0 h1 h2 h3 h4 h5
  refine qp0 h3 h4 (fun k x hk => hbt h1 h5 hk) (fun k hk => ?_)
  have := (qp0 (bt := fun j => (q[j - 16 * i]?).join) (nf := fun _ => True) (b := 16 * i) h3 h4 (fun k q hk => by simp [hk]) (fun _ _ => trivial)).all k hk
  obtain ⟨p, hp, e⟩ := this
  obtain ⟨i', h'⟩ := p
  simp only at e
  subst e
  refine hnf (o := 0) trivial h' (qvt (j := 0) h0 (by simpa using hp))
 have hpos : ∀ {i b : Nat}, bt i = some b → ∃ q, oss[i / 16]? = some q ∧ q[i % 16]? = some (some b) := by
  intro i b h
  have h : ((oss[i / 16]?).bind (·[i % 16]?)).join = some b := h
  cases h1 : oss[i / 16]? with
  | none => rw [h1] at h; cases h
  | some q =>
    rw [h1] at h
    simp only [Option.bind_some] at h
    cases h2 : q[i % 16]? with
    | none => rw [h2] at h; cases h
    | some x => rw [h2] at h; simp only [Option.join_some] at h; subst h; exact ⟨q, rfl, h2⟩
 have hblk : ∀ {i b : Nat}, bt i = some b → Blk oss.flatten b := fun h => by
  obtain ⟨q, h1, h2⟩ := hpos h
  exact List.mem_flatten.2 ⟨q, List.mem_of_getElem? h1, List.mem_of_getElem? h2⟩
 have hXs : ∀ b, Xs X (qkr args).hp bt b → X b ∨ Blk oss.flatten b := fun b hb => by
  rcases hb with hb | ⟨i, _, hi⟩
  ·exact .inl hb
  ·exact .inr (hblk hi)
 have hpin : ∀ (m p : Nat) (q : Value), C.pins[m]? = some p → (qe6 args vs.toList)[m]? = some q → ∃ bk, bt p = some bk ∧ q = .pointer (some ⟨bk, 0, none⟩) ∧ Nf (qkr args).hp p := fun m p q hp hq => by
  rw [hpins] at hp
  obtain ⟨i, t, l, q1, q2, q3⟩ := (qo1 args vs.toList 0 (by simpa using hvn)).2 m p q hp hq
  obtain ⟨os', v, h1, h2, h3, h4, h5, _⟩ := hq' q1
  rw [show vs.toList[i]? = vs[i]? from by simp] at q2
  rw [h2] at q2; cases q2
  have hin2 := hin q1 h1 h2 h3 h4 h5
  cases h3 with
  | bx _ bk cs _ oss' hb hn hm hh =>
    refine ⟨bk, ?_, rfl, ?_⟩
    ·rw [q3, Nat.zero_add]
     exact hbt (k := 0) h1 h5 rfl
    ·have := hin2.val
     rw [show (inO (16 * i) (.bx t l)).1 = .ptr (16 * i + 0) 0 from rfl] at this
     obtain ⟨_, _, hnf', _⟩ := qjd this
     rw [q3, Nat.zero_add]
     exact hnf'
 refine ⟨fun p => if p ∈ C.pins then bt p else none, bt, ⟨rfl, by simp; omega, ?_, ?_, ?_, ?_, ?_, Fr.refl _ _, ?_⟩, fun m p q hp hq => ?_⟩
 rotate_left 5
 ·intro p b hp
  simp only at hp
  split at hp
  ·rename_i hm
   refine ⟨hm, hp, ?_⟩
   obtain ⟨m, hlt, rfl⟩ := List.getElem_of_mem hm
   have hl := (qo1 args vs.toList 0 (by simpa using hvn)).1
   rw [← hpins] at hl
   obtain ⟨bk, _, _, hh⟩ := hpin m _ ((qe6 args vs.toList)[m]'(by omega)) (List.getElem?_eq_getElem hlt) (by simp)
   exact hh
  ·cases hp
 ·obtain ⟨bk, h1, h2, _⟩ := hpin m p q hp hq
  exact ⟨bk, (if_pos (List.mem_of_getElem? hp)).trans h1, h2⟩
 ·intro i v hv
  obtain ⟨o, _, ho, rfl⟩ := qt4 hv
  have ho : args[i]? = some o := by simpa using ho
  obtain ⟨q, u, h1, h2, h3, h4, h5, _⟩ := hq' ho
  have hlt := (Array.getElem?_eq_some_iff.1 h2).1
  have hu : (vs ++ Array.replicate (n - vs.size) undef).getD i undef = u := by
   simp only [Array.getD_eq_getD_getElem?]
   rw [Array.getElem?_append_left hlt, h2]; rfl
  show VR w _ bt _ ((vs ++ Array.replicate (n - vs.size) undef).getD i undef) _
  rw [hu]
  exact (hin ho h1 h2 h3 h4 h5).val.ext (Ext.refl _ w) (fun b _ hb => hXs b hb) (fun _ _ => rfl) (fun _ h => h)
 ·intro i ob hob
  have : ∃ h, aget (qhr 0 args) i = some h ∧ h.obj? = some ob := by
   have hob : ((aget (qhr 0 args) i).getD .free).obj? = some ob := hob
   cases hg : aget (qhr 0 args) i with
   | none => rw [hg] at hob; cases hob
   | some h => rw [hg] at hob; exact ⟨h, rfl, hob⟩
  obtain ⟨h, hg, hh⟩ := this
  obtain ⟨j, o, _, ho, hp⟩ := qpn (qjy hg)
  have ho : args[j]? = some o := by simpa using ho
  obtain ⟨q, u, h1, h2, h3, h4, h5, _⟩ := hq' ho
  obtain ⟨k, ob', q1, q2, q3⟩ := (hin ho h1 h2 h3 h4 h5).rows _ hp
  simp only [Prod.mk.injEq] at q2
  obtain ⟨rfl, rfl⟩ := q2
  cases hh
  exact q3.ext (Ext.refl _ w) (fun b _ hb => hXs b hb) (fun _ _ => rfl) (fun _ h => h) (by simpa using hnf (o := 0) trivial _ (qjy hg)) (fun _ _ => rfl)
 ·intro i j bk _ _ hi hj
  obtain ⟨q, h1, h2⟩ := hpos hi
  obtain ⟨q', h3, h4⟩ := hpos hj
  have := qvu hap h1 h2 h3 h4
  omega
 ·intro i bk _ hi
  exact ⟨.inr (hblk hi), hBX _ (hblk hi)⟩
 ·intro i bk _ hi
  exact hBX _ (hblk hi)
end
end Go.Ev
namespace Go.Ev
mutual
def dle : D → D → Prop
 | .nil, .sl _ l => l = []
 | .nil, d => d = .nil
 | .agg l, .agg m => dles l m
 | .agg _, _ => False
 | .sl z l, .sl z' m => z = z' ∧ dles l m
 | .sl _ _, _ => False
 | .cp l, .cp m => dles l m
 | .cp _, _ => False
 | .fn f l, .fn g m => f = g ∧ dles l m
 | .fn _ _, _ => False
 | .mp a b, .mp c d => dles a c ∧ dles b d
 | .mp _ _, _ => False
 | .b x, d => d = .b x
 | .i k x, d => d = .i k x
 | .s x, d => d = .s x
 | .np, d => d = .np
def dles : List D → List D → Prop
 | [], [] => True
 | x :: l, y :: m => dle x y ∧ dles l m
 | _, _ => False
end
mutual
theorem q09 : ∀ d, dle d d
 | .nil => by simp [dle]
 | .agg l => by simp only [dle]; exact q0k l
 | .sl z l => by simp only [dle]; exact ⟨trivial, q0k l⟩
 | .cp l => by simp only [dle]; exact q0k l
 | .fn f l => by simp only [dle]; exact ⟨trivial, q0k l⟩
 | .mp a b => by simp only [dle]; exact ⟨q0k a, q0k b⟩
 | .b x => by simp [dle]
 | .i k x => by simp [dle]
 | .s x => by simp [dle]
 | .np => by simp [dle]
theorem q0k : ∀ l, dles l l
 | [] => by simp [dles]
 | x :: l => by simp only [dles]; exact ⟨q09 x, q0k l⟩
end
theorem qfm : ∀ {l m : List D}, dles l m → l.length = m.length ∧ ∀ (j : Nat) (x y : D), l[j]? = some x → m[j]? = some y → dle x y
 | [], [], _ => ⟨rfl, fun j x y h => by simp at h⟩
 | x :: l, y :: m, h => by
   simp only [dles] at h
   obtain ⟨h1, h2⟩ := qfm h.2
   refine ⟨by simp [h1], fun j a b ha hb => ?_⟩
   cases j with
   | zero => simp at ha hb; subst ha; subst hb; exact h.1
   | succ j => simp at ha hb; exact h2 j a b ha hb
 | [], _ :: _, h => by simp [dles] at h
 | _ :: _, [], h => by simp [dles] at h
theorem qym {x y : D} (h : dle x y) : dles x.cells y.cells := by
 cases x with
 | agg l =>
   cases y with
   | agg m => simpa only [dle, D.cells] using h
   | _ => simp [dle] at h
 | nil =>
   cases y with
   | sl z m => simp only [dle] at h; subst h; simp [D.cells, dles, dle]
   | nil => simp [D.cells, dles, dle]
   | _ => simp [dle] at h
 | sl z l =>
   cases y with
   | sl z m => simp only [D.cells, dles, and_true]; exact h
   | _ => simp [dle] at h
 | cp l =>
   cases y with
   | cp m => simp only [D.cells, dles, and_true]; exact h
   | _ => simp [dle] at h
 | fn f l =>
   cases y with
   | fn g m => simp only [D.cells, dles, and_true]; exact h
   | _ => simp [dle] at h
 | mp a b =>
   cases y with
   | mp a' b' => simp only [D.cells, dles, and_true]; exact h
   | _ => simp [dle] at h
 | b x => simp only [dle] at h; subst h; exact q0k _
 | i k x => simp only [dle] at h; subst h; exact q0k _
 | s x => simp only [dle] at h; subst h; exact q0k _
 | np => simp only [dle] at h; subst h; exact q0k _
theorem qt5 : ∀ {a b c d : List D}, dles a b → dles c d → dles (a ++ c) (b ++ d)
 | [], [], c, d, _, h => h
 | x :: a, y :: b, c, d, h, k => by
   simp only [dles] at h
   simp only [List.cons_append, dles]
   exact ⟨h.1, qt5 h.2 k⟩
 | [], _ :: _, _, _, h, _ => by simp [dles] at h
 | _ :: _, [], _, _, h, _ => by simp [dles] at h
theorem qo2 : ∀ {l m : List D}, dles l m → dles (flat l) (flat m)
 | [], [], _ => by simp [flat, dles]
 | x :: l, y :: m, h => by
   simp only [dles] at h
   rw [qg4, qg4]
   exact qt5 (qym h.1) (qo2 h.2)
 | [], _ :: _, h => by simp [dles] at h
 | _ :: _, [], h => by simp [dles] at h
theorem qbma {x y : D} (h : dle x y) (h1 : x.one = true) : y.one = true := by
 cases x with
 | agg l => cases h1
 | nil =>
   cases y with
   | agg l => simp [dle] at h
   | _ => rfl
 | sl z l =>
   cases y with
   | sl z m => rfl
   | _ => simp [dle] at h
 | cp l =>
   cases y with
   | cp m => rfl
   | _ => simp [dle] at h
 | fn f l =>
   cases y with
   | fn g m => rfl
   | _ => simp [dle] at h
 | mp a b =>
   cases y with
   | mp a' b' => rfl
   | _ => simp [dle] at h
 | b x => simp only [dle] at h; subst h; rfl
 | i k x => simp only [dle] at h; subst h; rfl
 | s x => simp only [dle] at h; subst h; rfl
 | np => simp only [dle] at h; subst h; rfl
theorem qum {x y : D} {sz : Nat} (h : dle x y) (hf : x.fits sz) : y.fits sz := by
 obtain ⟨h1, h2⟩ := hf
 obtain ⟨e, hp⟩ := qfm (qym h)
 refine ⟨by omega, fun c hc => ?_⟩
 obtain ⟨j, hj, rfl⟩ := List.getElem_of_mem hc
 have hx : x.cells[j]? = some (x.cells[j]'(by omega)) := by simp
 exact qbma (hp j _ _ hx (by simp)) (h2 _ (List.getElem_mem _))
theorem RD.le {w : World} {X : Nat → Prop} {v : Value} {d : D} (h : RD w X v d) : ∀ {d' : D}, dle d d' → RD w X v d' := by
 induction h with
 | b x => intro d' hd; simp only [dle] at hd; subst hd; exact .b x
 | i k n => intro d' hd; simp only [dle] at hd; subst hd; exact .i k n
 | s x => intro d' hd; simp only [dle] at hd; subst hd; exact .s x
 | np => intro d' hd; simp only [dle] at hd; subst hd; exact .np
 | agg cs l hn _ ih =>
   intro d' hd
   cases d' with
   | agg m =>
     simp only [dle] at hd
     obtain ⟨e, hp⟩ := qfm hd
     refine .agg cs m (by omega) fun j v d hj hm => ?_
     have hl : j < l.length := by have := (List.getElem?_eq_some_iff.1 hm).1; omega
     exact ih j v l[j] hj (by simp [hl]) (hp j _ _ (by simp [hl]) hm)
   | _ => simp [dle] at hd
 | nil =>
   intro d' hd
   cases d' with
   | nil => exact .nil
   | sl z m => simp only [dle] at hd; subst hd; exact .sl0 z
   | _ => simp [dle] at hd
 | sl0 sz =>
   intro d' hd
   cases d' with
   | sl z m =>
     simp only [dle] at hd
     obtain ⟨rfl, hd⟩ := hd
     cases m with
     | nil => exact .sl0 _
     | cons => simp [dles] at hd
   | _ => simp [dle] at hd
 | sl a cap sz l u hc hsz hs ha hw _ ih =>
   intro d' hd
   cases d' with
   | sl z m =>
     simp only [dle] at hd
     obtain ⟨rfl, hd⟩ := hd
     obtain ⟨e, hp⟩ := qfm hd
     obtain ⟨e2, hp2⟩ := qfm (qo2 hd)
     rw [e]
     have back : ∀ {j : Nat} {d : D}, (Ev.flat m)[j]? = some d → ∃ d0, (Ev.flat l)[j]? = some d0 := fun {j d} hj => by
      have := (List.getElem?_eq_some_iff.1 hj).1
      exact ⟨(Ev.flat l)[j]'(by omega), by simp⟩
     refine .sl a cap _ m u (by omega) hsz (fun d hd' => ?_) (fun hl => ha (fun h0 => hl ?_)) (fun j d hj => ?_) (fun j d hj => ?_)
     ·obtain ⟨j, hj, rfl⟩ := List.getElem_of_mem hd'
      exact qum (hp j (l[j]'(by omega)) _ (by simp) (by simp)) (hs _ (List.getElem_mem _))
     ·subst h0; exact List.eq_nil_of_length_eq_zero (by simpa using e.symm)
     ·obtain ⟨d0, h0⟩ := back hj; exact hw j d0 h0
     ·obtain ⟨d0, h0⟩ := back hj; exact ih j d0 h0 (hp2 j d0 d h0 hj)
   | _ => simp [dle] at hd
 | cp a l u ha hw _ ih =>
   intro d' hd
   cases d' with
   | cp m =>
     simp only [dle] at hd
     obtain ⟨e, hp⟩ := qfm hd
     have back : ∀ {j : Nat} {d : D}, m[j]? = some d → ∃ d0, l[j]? = some d0 := fun {j d} hj => by
      have := (List.getElem?_eq_some_iff.1 hj).1
      exact ⟨l[j]'(by omega), by simp⟩
     refine .cp a m u ⟨ha.1, fun hm => ha.2 (fun h0 => hm ?_)⟩ (fun j d hj => ?_) (fun j d hj => ?_)
     ·subst h0; exact List.eq_nil_of_length_eq_zero (by simpa using e.symm)
     ·obtain ⟨d0, h0⟩ := back hj; exact hw j d0 h0
     ·obtain ⟨d0, h0⟩ := back hj; exact ih j d0 h0 (hp j d0 d h0 hj)
   | _ => simp [dle] at hd
 | fn f cs l hn _ ih =>
   intro d' hd
   cases d' with
   | fn g m =>
     simp only [dle] at hd
     obtain ⟨rfl, hd⟩ := hd
     obtain ⟨e, hp⟩ := qfm hd
     refine .fn f cs m (by omega) fun j v d hj hm => ?_
     have hl : j < l.length := by have := (List.getElem?_eq_some_iff.1 hm).1; omega
     exact ih j v l[j] hj (by simp [hl]) (hp j _ _ (by simp [hl]) hm)
   | _ => simp [dle] at hd
 | mp bk es clock ks vs hX hb hs hk hv _ _ ih1 ih2 =>
   intro d' hd
   cases d' with
   | mp ks' vs' =>
     simp only [dle] at hd
     obtain ⟨e1, p1⟩ := qfm hd.1
     obtain ⟨e2, p2⟩ := qfm hd.2
     refine .mp bk es clock ks' vs' hX hb hs (by omega) (by omega) (fun j e d hj hm => ?_) (fun j e d hj hm => ?_)
     ·have hl : j < ks.length := by have := (List.getElem?_eq_some_iff.1 hm).1; omega
      exact ih1 j e ks[j] hj (by simp [hl]) (p1 j _ _ (by simp [hl]) hm)
     ·have hl : j < vs.length := by have := (List.getElem?_eq_some_iff.1 hm).1; omega
      exact ih2 j e vs[j] hj (by simp [hl]) (p2 j _ _ (by simp [hl]) hm)
   | _ => simp [dle] at hd
 | mp0 =>
   intro d' hd
   cases d' with
   | mp ks' vs' =>
     simp only [dle] at hd
     obtain ⟨e1, _⟩ := qfm hd.1
     obtain ⟨e2, _⟩ := qfm hd.2
     have a1 : ks' = [] := List.eq_nil_of_length_eq_zero (by simpa using e1.symm)
     have a2 : vs' = [] := List.eq_nil_of_length_eq_zero (by simpa using e2.symm)
     subst a1; subst a2
     exact .mp0
   | _ => simp [dle] at hd
mutual
def ole : O → O → Prop
 | .d x, .d y => dle x y
 | .own t z l, .own t' z' m => t = t' ∧ z = z' ∧ dles l m
 | .agg l, .agg m => oles l m
 | .tup l, .tup m => oles l m
 | .bx t l, .bx t' m => t = t' ∧ oles l m
 | _, _ => False
def oles : List O → List O → Prop
 | [], [] => True
 | x :: l, y :: m => ole x y ∧ oles l m
 | _, _ => False
end
mutual
theorem q0l : ∀ d, ole d d
 | .d x => by simp only [ole]; exact q09 x
 | .own t z l => by simp only [ole]; exact ⟨trivial, trivial, q0k l⟩
 | .agg l => by simp only [ole]; exact qo3 l
 | .tup l => by simp only [ole]; exact qo3 l
 | .bx t l => by simp only [ole]; exact ⟨trivial, qo3 l⟩
theorem qo3 : ∀ l, oles l l
 | [] => by simp [oles]
 | x :: l => by simp only [oles]; exact ⟨q0l x, qo3 l⟩
end
theorem qnd : ∀ {l m : List O}, oles l m → l.length = m.length ∧ ∀ (j : Nat) (x y : O), l[j]? = some x → m[j]? = some y → ole x y
 | [], [], _ => ⟨rfl, fun j x y h => by simp at h⟩
 | x :: l, y :: m, h => by
   simp only [oles] at h
   obtain ⟨h1, h2⟩ := qnd h.2
   refine ⟨by simp [h1], fun j a b ha hb => ?_⟩
   cases j with
   | zero => simp at ha hb; subst ha; subst hb; exact h.1
   | succ j => simp at ha hb; exact h2 j a b ha hb
 | [], _ :: _, h => by simp [oles] at h
 | _ :: _, [], h => by simp [oles] at h
theorem RO.le {w : World} {X : Nat → Prop} {v : Value} {o : O} {os : List (Option Nat)} (h : RO w X v o os) : ∀ {o' : O}, ole o o' → RO w X v o' os := by
 induction h with
 | d v x h =>
   intro o' ho
   cases o' with
   | d y => simp only [ole] at ho; exact .d v y (h.le ho)
   | _ => simp [ole] at ho
 | nil t sz h0 =>
   intro o' ho
   cases o' with
   | own t' z' m =>
     simp only [ole] at ho
     obtain ⟨rfl, rfl, ho⟩ := ho
     cases m with
     | nil => exact .nil _ _ h0
     | cons => simp [dles] at ho
   | _ => simp [ole] at ho
 | own t sz bk cap ad cs l had hcap hcs hb h0 hs hc =>
   intro o' ho
   cases o' with
   | own t' z' m =>
     simp only [ole] at ho
     obtain ⟨rfl, rfl, ho⟩ := ho
     obtain ⟨e, hp⟩ := qfm ho
     obtain ⟨e2, hp2⟩ := qfm (qo2 ho)
     rw [e]
     refine .own _ _ bk cap ad cs m had (by omega) hcs hb h0 (fun d hd' => ?_) (fun j v x hj hx => ?_)
     ·obtain ⟨j, hj, rfl⟩ := List.getElem_of_mem hd'
      exact qum (hp j (l[j]'(by omega)) _ (by simp) (by simp)) (hs _ (List.getElem_mem _))
     ·have := (List.getElem?_eq_some_iff.1 hx).1
      have h0 : (Ev.flat l)[j]? = some ((Ev.flat l)[j]'(by omega)) := by simp
      exact (hc j v _ hj h0).le (hp2 j _ x h0 hx)
   | _ => simp [ole] at ho
 | agg cs l oss hn hm _ ih =>
   intro o' ho
   cases o' with
   | agg m =>
     simp only [ole] at ho
     obtain ⟨e, hp⟩ := qnd ho
     refine .agg cs m oss (by omega) (by omega) fun j v o os hj hx ho => ?_
     have hl : j < l.length := by have := (List.getElem?_eq_some_iff.1 hx).1; omega
     exact ih j v l[j] os hj (by simp [hl]) ho (hp j _ _ (by simp [hl]) hx)
   | _ => simp [ole] at ho
 | tup cs l oss hn hm _ ih =>
   intro o' ho
   cases o' with
   | tup m =>
     simp only [ole] at ho
     obtain ⟨e, hp⟩ := qnd ho
     refine .tup cs m oss (by omega) (by omega) fun j v o os hj hx ho => ?_
     have hl : j < l.length := by have := (List.getElem?_eq_some_iff.1 hx).1; omega
     exact ih j v l[j] os hj (by simp [hl]) ho (hp j _ _ (by simp [hl]) hx)
   | _ => simp [ole] at ho
 | bx t bk cs l oss hb hn hm _ ih =>
   intro o' ho
   cases o' with
   | bx t' m =>
     simp only [ole] at ho
     obtain ⟨rfl, ho⟩ := ho
     obtain ⟨e, hp⟩ := qnd ho
     refine .bx _ bk cs m oss hb (by omega) (by omega) fun j v o os hj hx ho => ?_
     have hl : j < l.length := by have := (List.getElem?_eq_some_iff.1 hx).1; omega
     exact ih j v l[j] os hj (by simp [hl]) ho (hp j _ _ (by simp [hl]) hx)
   | _ => simp [ole] at ho
theorem qyn : ∀ {args args' : List O} {vs : List Value}, oles args args' → qe6 args' vs = qe6 args vs
 | [], [], vs, _ => rfl
 | x :: l, y :: m, [], _ => by cases x <;> cases y <;> rfl
 | x :: l, y :: m, v :: vs, h => by
   simp only [oles] at h
   have ih := qyn (vs := vs) h.2
   cases x <;> cases y <;> first | (simp only [ole] at h; exact h.1.elim) | (simp only [qe6]; rw [ih]) | (simp only [ole, false_and] at h)
 | [], _ :: _, _, h => by simp [oles] at h
 | _ :: _, [], _, h => by simp [oles] at h
theorem Sem.le {P : Program} {f : FuncId} {args args' : List O} {r r' : O} (h : Sem P f args' r') (ha : oles args args') (hr : ole r' r) : Sem P f args r := by
 intro w vs X os hX hap hBX har
 obtain ⟨e, hp⟩ := qnd ha
 obtain ⟨hsz, oss, hl, ho, hro⟩ := har
 refine Calls.mono (h w vs X os hX hap hBX ⟨by omega, oss, by omega, ho, fun j v o q hj hx hq => ?_⟩) fun en w' he => ?_
 ·have hl : j < args.length := by have := (List.getElem?_eq_some_iff.1 hx).1; omega
  exact (hro j v args[j] q hj (by simp [hl]) hq).le (hp j _ _ (by simp [hl]) hx)
 ·obtain ⟨v, u, os', h1, h0, h2, h3⟩ := he
  unfold Ret at h0
  rw [qyn ha] at h0
  exact ⟨v, u, os', h1, h0, h2.le hr, h3⟩
end Go.Ev
namespace Go.Ev
def vd1 (ρ : Nat → Option Nat) (nf : Nat → Prop) (x : D) : V → Prop
 | .d y => dle x y
 | .row b _ off n => x = .nil ∧ ρ b = none ∧ nf b ∧ off = 0 ∧ n = 0
 | _ => False
def vds (ρ : Nat → Option Nat) (nf : Nat → Prop) : List D → List V → Prop
 | [], [] => True
 | x :: l, y :: m => vd1 ρ nf x y ∧ vds ρ nf l m
 | _, _ => False
mutual
def vs (ρ : Nat → Option Nat) (nf : Nat → Prop) : V → V → Prop
 | .d x, .d y => dle x y
 | .d x, .row b _ off n => x = .nil ∧ ρ b = none ∧ nf b ∧ off = 0 ∧ n = 0
 | .d (.agg l), .agg m => vds ρ nf l m
 | .d (.fn f l), .fn g m => f = g ∧ vds ρ nf l m
 | .d _, _ => False
 | .agg l, .agg m => vss ρ nf l m
 | .agg _, _ => False
 | .ptr a o, y => ∃ b, y = .ptr b o ∧ ρ b = some a ∧ nf b
 | .row a z off n, y => ∃ b, y = .row b z off n ∧ ρ b = some a ∧ nf b
 | .rp a z j off, y => ∃ b, y = .rp b z j off ∧ ρ b = some a ∧ nf b
 | .fn f l, .fn g m => f = g ∧ vss ρ nf l m
 | .fn _ _, _ => False
 | .tup l, .tup m => vss ρ nf l m
 | .tup _, _ => False
 | .opt g x, .opt g' y => g = g' ∧ vs ρ nf x y
 | .opt _ _, _ => False
 | .ub x, y => y = .ub x
 | .nb x, y => y = .nb x
 | .mref a, y => ∃ b, y = .mref b ∧ ρ b = some a ∧ nf b
def vss (ρ : Nat → Option Nat) (nf : Nat → Prop) : List V → List V → Prop
 | [], [] => True
 | x :: l, y :: m => vs ρ nf x y ∧ vss ρ nf l m
 | _, _ => False
end
theorem qmr {ρ : Nat → Option Nat} {nf : Nat → Prop} : ∀ {l m : List V}, vss ρ nf l m → l.length = m.length ∧ ∀ (j : Nat) (x y : V), l[j]? = some x → m[j]? = some y → vs ρ nf x y
 | [], [], _ => ⟨rfl, fun j x y h => by simp at h⟩
 | x :: l, y :: m, h => by
   simp only [vss] at h
   obtain ⟨h1, h2⟩ := qmr h.2
   refine ⟨by simp [h1], fun j a b ha hb => ?_⟩
   cases j with
   | zero => simp at ha hb; subst ha; subst hb; exact h.1
   | succ j => simp at ha hb; exact h2 j a b ha hb
 | [], _ :: _, h => by simp [vss] at h
 | _ :: _, [], h => by simp [vss] at h
theorem qun {ρ : Nat → Option Nat} {nf : Nat → Prop} : ∀ {l : List D} {m : List V}, vds ρ nf l m → l.length = m.length ∧ ∀ (j : Nat) (x : D) (y : V), l[j]? = some x → m[j]? = some y → vd1 ρ nf x y
 | [], [], _ => ⟨rfl, fun j x y h => by simp at h⟩
 | x :: l, y :: m, h => by
   simp only [vds] at h
   obtain ⟨h1, h2⟩ := qun h.2
   refine ⟨by simp [h1], fun j a b ha hb => ?_⟩
   cases j with
   | zero => simp at ha hb; subst ha; subst hb; exact h.1
   | succ j => simp at ha hb; exact h2 j a b ha hb
 | [], _ :: _, h => by simp [vds] at h
 | _ :: _, [], h => by simp [vds] at h
section
variable {w : World} {X X' : Nat → Prop} {bt : Nat → Option Nat} {nf nf' : Nat → Prop} {ρ : Nat → Option Nat}
theorem qta (hX : ∀ b, X' b → X b) {v : Value} {x : D} {y : V} (h : RD w X v x) (hv : vd1 ρ nf' x y) : VR w X' (fun i => (ρ i).bind bt) nf' v y := by
 cases y with
 | d y => exact .d _ _ ((h.mono hX).le hv)
 | row b z off n =>
   simp only [vd1] at hv
   obtain ⟨rfl, h1, h2, rfl, rfl⟩ := hv
   cases h
   exact .row0 b z h2 (by simp [h1])
 | _ => simp [vd1] at hv
theorem VR.ren (hX : ∀ b, X' b → X b) {v : Value} {x : V} (h : VR w X bt nf v x) : ∀ {y : V}, vs ρ nf' x y → VR w X' (fun i => (ρ i).bind bt) nf' v y := by
 induction h with
 | d v x h =>
   intro y hv
   cases y with
   | d y => exact qta hX h (by simpa only [vs, vd1] using hv)
   | row b z off n => exact qta hX h (by simpa only [vs, vd1] using hv)
   | agg m =>
     cases x with
     | agg l =>
       simp only [vs] at hv
       obtain ⟨e, hp⟩ := qun hv
       cases h with
       | agg cs _ hn hh =>
         refine .agg cs m (by omega) fun j u y hj hy => ?_
         have hl : j < l.length := by have := (List.getElem?_eq_some_iff.1 hy).1; omega
         exact qta hX (hh j u l[j] hj (by simp [hl])) (hp j l[j] y (by simp [hl]) hy)
     | _ => simp [vs] at hv
   | fn g m =>
     cases x with
     | fn f l =>
       simp only [vs] at hv
       obtain ⟨rfl, hv⟩ := hv
       obtain ⟨e, hp⟩ := qun hv
       cases h with
       | fn _ cs _ hn hh =>
         refine .fn f cs m (by omega) fun j u y hj hy => ?_
         have hl : j < l.length := by have := (List.getElem?_eq_some_iff.1 hy).1; omega
         exact qta hX (hh j u l[j] hj (by simp [hl])) (hp j l[j] y (by simp [hl]) hy)
     | _ => simp [vs] at hv
   | _ => cases x <;> simp [vs] at hv
 | agg cs l hn _ ih =>
   intro y hv
   cases y with
   | agg m =>
     simp only [vs] at hv
     obtain ⟨e, hp⟩ := qmr hv
     refine .agg cs m (by omega) fun j u y hj hy => ?_
     have hl : j < l.length := by have := (List.getElem?_eq_some_iff.1 hy).1; omega
     exact ih j u l[j] hj (by simp [hl]) (hp j l[j] y (by simp [hl]) hy)
   | _ => simp [vs] at hv
 | ptr id off bk hf hb =>
   intro y hv
   simp only [vs] at hv
   obtain ⟨b, rfl, h1, h2⟩ := hv
   exact .ptr b off bk h2 (by simp [h1, hb])
 | row id sz off n bk cap ad had hf hb hn hk =>
   intro y hv
   simp only [vs] at hv
   obtain ⟨b, rfl, h1, h2⟩ := hv
   exact .row b sz off n bk cap ad had h2 (by simp [h1, hb]) hn hk
 | row0 id sz hf hb =>
   intro y hv
   simp only [vs] at hv
   obtain ⟨b, rfl, h1, h2⟩ := hv
   exact .row0 b sz h2 (by simp [h1, hb])
 | rp id sz j off bk hf hb =>
   intro y hv
   simp only [vs] at hv
   obtain ⟨b, rfl, h1, h2⟩ := hv
   exact .rp b sz j off bk h2 (by simp [h1, hb])
 | fn f cs l hn _ ih =>
   intro y hv
   cases y with
   | fn g m =>
     simp only [vs] at hv
     obtain ⟨rfl, hv⟩ := hv
     obtain ⟨e, hp⟩ := qmr hv
     refine .fn f cs m (by omega) fun j u y hj hy => ?_
     have hl : j < l.length := by have := (List.getElem?_eq_some_iff.1 hy).1; omega
     exact ih j u l[j] hj (by simp [hl]) (hp j l[j] y (by simp [hl]) hy)
   | _ => simp [vs] at hv
 | tup cs l hn _ ih =>
   intro y hv
   cases y with
   | tup m =>
     simp only [vs] at hv
     obtain ⟨e, hp⟩ := qmr hv
     refine .tup cs m (by omega) fun j u y hj hy => ?_
     have hl : j < l.length := by have := (List.getElem?_eq_some_iff.1 hy).1; omega
     exact ih j u l[j] hj (by simp [hl]) (hp j l[j] y (by simp [hl]) hy)
   | _ => simp [vs] at hv
 | opt v g x _ hb ih =>
   intro y hv
   cases y with
   | opt g' y =>
     simp only [vs] at hv
     obtain ⟨rfl, hv⟩ := hv
     exact .opt v _ y (fun hg => ih hg hv) hb
   | _ => simp [vs] at hv
 | mref id bk hf hb =>
   intro y hv
   simp only [vs] at hv
   obtain ⟨b, rfl, h1, h2⟩ := hv
   exact .mref b bk h2 (by simp [h1, hb])
 | ub b x h => intro y hv; simp only [vs] at hv; subst hv; exact .ub b x h
 | nb b x h => intro y hv; simp only [vs] at hv; subst hv; exact .nb b x h
end
def os (ρ : Nat → Option Nat) (nf : Nat → Prop) : Obj' → Obj' → Prop
 | .box t c, .box t' c' => t = t' ∧ vss ρ nf c c'
 | .row t z b l, .row t' z' b' l' => t = t' ∧ z = z' ∧ (b' = true → b = true ∨ l ≠ []) ∧ dles l l'
 | .mp t k v, .mp t' k' v' => t = t' ∧ dles k k' ∧ vss ρ nf v v'
 | _, _ => False
theorem OR.ren {w : World} {X X' : Nat → Prop} {bt : Nat → Option Nat} {nf nf' : Nat → Prop} {ρ : Nat → Option Nat} (hX : ∀ b, X' b → X b) {a b : Nat} {o o' : Obj'} (h : OR w X bt nf a o) (ho : os ρ nf' o o') (hb : ρ b = some a) :
 OR w X' (fun i => (ρ i).bind bt) nf' b o' := by
 cases o with
 | mp t ks vs =>
   cases o' with
   | mp t' ks' vs' =>
     simp only [os] at ho
     obtain ⟨rfl, ho1, ho2⟩ := ho
     obtain ⟨e1, p1⟩ := qfm ho1
     obtain ⟨e2, p2⟩ := qmr ho2
     obtain ⟨bk, es, clock, h1, h2, h0, h3, h4, h5, h6⟩ := h
     refine ⟨bk, es, clock, by simp [hb, h1], h2, h0, by omega, by omega, fun j e d hj hd => ?_, fun j e x hj hx => ?_⟩
     ·have hl : j < ks.length := by have := (List.getElem?_eq_some_iff.1 hd).1; omega
      exact ((h5 j e ks[j] hj (by simp [hl])).mono hX).le (p1 j ks[j] d (by simp [hl]) hd)
     ·have hl : j < vs.length := by have := (List.getElem?_eq_some_iff.1 hx).1; omega
      exact (h6 j e vs[j] hj (by simp [hl])).ren hX (p2 j vs[j] x (by simp [hl]) hx)
   | _ => simp [os] at ho
 | box t c =>
   cases o' with
   | mp => simp [os] at ho
   | box t' c' =>
     simp only [os] at ho
     obtain ⟨rfl, ho⟩ := ho
     obtain ⟨e, hp⟩ := qmr ho
     obtain ⟨bk, cs, h1, h2, h3, h4⟩ := h
     refine ⟨bk, cs, by simp [hb, h1], h2, by omega, fun j v x hj hx => ?_⟩
     have hl : j < c.length := by have := (List.getElem?_eq_some_iff.1 hx).1; omega
     exact (h4 j v c[j] hj (by simp [hl])).ren hX (hp j c[j] x (by simp [hl]) hx)
   | row => simp [os] at ho
 | row t z zb l =>
   cases o' with
   | box => simp [os] at ho
   | mp => simp [os] at ho
   | row t' z' zb' l' =>
     simp only [os] at ho
     obtain ⟨rfl, rfl, hz, ho⟩ := ho
     obtain ⟨e, hp⟩ := qfm ho
     obtain ⟨e2, hp2⟩ := qfm (qo2 ho)
     have nil : l = [] → l' = [] := fun h => List.eq_nil_of_length_eq_zero (by rw [← e, h]; rfl)
     have nil' : l' = [] → l = [] := fun h => List.eq_nil_of_length_eq_zero (by rw [e, h]; rfl)
     obtain ⟨h0, h1, h2⟩ := h
     refine ⟨h0, fun d hd => ?_, ?_⟩
     ·obtain ⟨j, hj, rfl⟩ := List.getElem_of_mem hd
      exact qum (hp j (l[j]'(by omega)) _ (by simp) (by simp)) (h1 _ (List.getElem_mem _))
     ·rcases h2 with ⟨h3, h4⟩ | ⟨bk, cs, h3, h4, h5, h6, h7⟩
      ·exact .inl ⟨by simp [hb, h3], nil h4⟩
      ·refine .inr ⟨bk, cs, by simp [hb, h3], h4, fun hz' => ?_, by omega, fun j v x hj hx => ?_⟩
       ·rcases hz hz' with h | h
        ·exact fun hn => h5 h (nil' hn)
        ·exact fun hn => h (nil' hn)
       ·have := (List.getElem?_eq_some_iff.1 hx).1
        have hl : (flat l)[j]? = some ((flat l)[j]'(by omega)) := by simp
        exact ((h7 j v _ hj hl).mono hX).le (hp2 j _ x hl hx)
structure SubBy (ρ : Nat → Option Nat) (s s' : St) : Prop where
 slots : ∀ i y, s'.sl i = some y → ∃ x, s.sl i = some x ∧ vs ρ (Nf s'.hp) x y
 objs : ∀ i o', (s'.hp i).obj? = some o' → (∃ a o, ρ i = some a ∧ (s.hp a).obj? = some o ∧ os ρ (Nf s'.hp) o o' ∧ ((s'.hp i).isLive = true → (s.hp a).isLive = true)) ∨ (ρ i = none ∧ ∃ t sz z, o' = .row t sz z [] ∧ 0 < sz)
 inj : ∀ i j a, ρ i = some a → ρ j = some a → i = j
theorem SubBy.sub {C : Cfg} {ρ : Nat → Option Nat} {s s' : St} (h : SubBy ρ s s') (hpin : ∀ p ∈ C.pins, ρ p = some p ∧ Nf s'.hp p) : Sub C s s' := by
 intro E bt a w hr
 have live : ∀ i bk, (s'.hp i).isLive = true → (ρ i).bind bt = some bk → ∃ a, ρ i = some a ∧ (s.hp a).isLive = true ∧ bt a = some bk := by
  intro i bk hl hb
  obtain ⟨o', ho'⟩ := Option.isSome_iff_exists.1 (qgs hl)
  rcases h.objs i o' ho' with ⟨a, o, h1, h2, h3, h4⟩ | ⟨h1, _⟩
  ·exact ⟨a, h1, h4 hl, by simpa [h1] using hb⟩
  ·rw [h1] at hb; cases hb
 have obj : ∀ i bk, (s'.hp i).obj?.isSome = true → (ρ i).bind bt = some bk → ∃ a, ρ i = some a ∧ (s.hp a).obj?.isSome = true ∧ bt a = some bk := by
  intro i bk hl hb
  obtain ⟨o', ho'⟩ := Option.isSome_iff_exists.1 hl
  rcases h.objs i o' ho' with ⟨a, o, h1, h2, h3, h4⟩ | ⟨h1, _⟩
  ·exact ⟨a, h1, by rw [h2]; rfl, by simpa [h1] using hb⟩
  ·rw [h1] at hb; cases hb
 have hX : ∀ b, Xs E.X0 s'.hp (fun i => (ρ i).bind bt) b → Xs E.X0 s.hp bt b := by
  intro b hb
  rcases hb with hb | ⟨i, hi, hb⟩
  ·exact .inl hb
  ·obtain ⟨a, _, h2, h3⟩ := live i b hi hb
   exact qf6 h2 h3
 refine ⟨fun i => (ρ i).bind bt, hr.df, hr.sz, ?_, ?_, ?_, ?_, ?_, hr.fr, fun p b hp => let ⟨h1, h2, _⟩ := hr.pin p b hp; ⟨h1, by rw [(hpin p h1).1]; exact h2, (hpin p h1).2⟩⟩
 ·intro i y hy
  obtain ⟨x, hx, hv⟩ := h.slots i y hy
  exact (hr.slots i x hx).ren hX hv
 ·intro i o' ho'
  rcases h.objs i o' ho' with ⟨a, o, h1, h2, h3, h4⟩ | ⟨h1, t, sz, z, rfl, h2⟩
  ·exact (hr.objs a o h2).ren hX h3 h1
  ·exact ⟨h2, by simp, .inl ⟨by simp [h1], rfl⟩⟩
 ·intro i j bk hi hj hbi hbj
  obtain ⟨a, a1, a2, a3⟩ := live i bk hi hbi
  obtain ⟨b, b1, b2, b3⟩ := obj j bk hj hbj
  have := hr.inj a b bk a2 b2 a3 b3
  subst this
  exact h.inj i j a a1 b1
 ·intro i bk hi hb
  obtain ⟨a, a1, a2, a3⟩ := live i bk hi hb
  exact hr.own a bk a2 a3
 ·intro i bk hi hb
  obtain ⟨a, a1, a2, a3⟩ := obj i bk hi hb
  exact hr.nx a bk a2 a3
def qki (ρ : Nat → Option Nat) (nf : Nat → Prop) (sl : List (Nat × V)) : List (Nat × V) → Prop
 | [] => True
 | (i, y) :: r => (match aget sl i with | some x => vs ρ nf x y | none => False) ∧ qki ρ nf sl r
def qvv (ρ : Nat → Option Nat) (nf : Nat → Prop) (hp : List (Nat × HS)) (i : Nat) (h : HS) : Prop :=
 match h.obj? with
 | none => True
 | some o' => match ρ i with
   | some a => (match aget hp a with
     | some g => (match g.obj? with | some o => os ρ nf o o' | none => False) ∧ (h.isLive = true → g.isLive = true)
     | none => False)
   | none => match o' with | .row _ sz _ l => l = [] ∧ 0 < sz | _ => False
def qtb (ρ : Nat → Option Nat) (nf : Nat → Prop) (hp : List (Nat × HS)) : List (Nat × HS) → Prop
 | [] => True
 | (i, h) :: r => qvv ρ nf hp i h ∧ qtb ρ nf hp r
def nfL (hp : List (Nat × HS)) (i : Nat) : Prop := match aget hp i with | some h => h.isFree = false | none => False
theorem qr9 {ρ : Nat → Option Nat} {nf : Nat → Prop} {sl : List (Nat × V)} : ∀ {l : List (Nat × V)} {i : Nat} {y : V}, qki ρ nf sl l → (i, y) ∈ l → ∃ x, aget sl i = some x ∧ vs ρ nf x y
 | [], _, _, _, h => by cases h
 | (j, z) :: r, i, y, h, hm => by
   simp only [qki] at h
   rcases List.mem_cons.1 hm with e | hm
   ·cases e
    have h := h.1
    split at h
    ·rename_i x hx; exact ⟨x, hx, h⟩
    ·exact h.elim
   ·exact qr9 h.2 hm
theorem qyo {ρ : Nat → Option Nat} {nf : Nat → Prop} {hp : List (Nat × HS)} : ∀ {l : List (Nat × HS)} {i : Nat} {h : HS}, qtb ρ nf hp l → (i, h) ∈ l → qvv ρ nf hp i h
 | [], _, _, _, h => by cases h
 | (j, z) :: r, i, y, h, hm => by
   simp only [qtb] at h
   rcases List.mem_cons.1 hm with e | hm
   ·cases e; exact h.1
   ·exact qyo h.2 hm
theorem qbqw {C : Cfg} (ρ : List (Nat × Nat)) {sl sl' : List (Nat × V)} {hp hp' : List (Nat × HS)} (h1 : qki (aget ρ) (nfL hp') sl sl') (h2 : qtb (aget ρ) (nfL hp') hp hp') (h3 : (ρ.map (·.2)).Nodup) (h4 : ∀ p ∈ C.pins, aget ρ p = some p ∧ nfL hp' p) :
 Sub C (mkS sl hp) (mkS sl' hp') := by
 have enf : Nf (mkS sl' hp').hp = nfL hp' := by
  funext i
  simp only [Nf, mkS, nfL]
  cases aget hp' i with
  | none => simp [HS.isFree]
  | some h => simp
 refine SubBy.sub (ρ := aget ρ) ⟨fun i y hy => ?_, fun i o' ho' => ?_, fun i j a hi hj => ?_⟩ (by rw [enf]; exact h4)
 ·rw [enf]; exact qr9 h1 (qjy hy)
 ·rw [enf]
  have : ∃ h, aget hp' i = some h ∧ h.obj? = some o' ∧ (mkS sl' hp').hp i = h := by
   simp only [mkS] at ho' ⊢
   cases hg : aget hp' i with
   | none => rw [hg] at ho'; cases ho'
   | some h => rw [hg] at ho'; exact ⟨h, rfl, ho', rfl⟩
  obtain ⟨h, hg, ho, e⟩ := this
  have hs := qyo h2 (qjy hg)
  unfold qvv at hs
  rw [ho] at hs
  simp only at hs
  cases hρ : aget ρ i with
  | some a =>
    rw [hρ] at hs
    simp only at hs
    cases hga : aget hp a with
    | none => rw [hga] at hs; exact hs.elim
    | some g =>
      rw [hga] at hs
      simp only at hs
      obtain ⟨k1, k2⟩ := hs
      cases hgo : g.obj? with
      | none => rw [hgo] at k1; exact k1.elim
      | some o =>
        rw [hgo] at k1
        exact .inl ⟨a, o, rfl, by simp [mkS, hga, hgo], k1, by rw [e]; simpa [mkS, hga] using k2⟩
  | none =>
    rw [hρ] at hs
    simp only at hs
    cases o' with
    | box => exact hs.elim
    | mp => exact hs.elim
    | row t sz z l => obtain ⟨rfl, h0⟩ := hs; exact .inr ⟨rfl, t, sz, z, rfl, h0⟩
 ·have m1 := qjy hi
  have m2 := qjy hj
  clear h1 h2 h4 enf hi hj
  induction ρ with
  | nil => cases m1
  | cons p r ih =>
    obtain ⟨k, b⟩ := p
    simp only [List.map_cons, List.nodup_cons, List.mem_map, not_exists, not_and] at h3
    rcases List.mem_cons.1 m1 with e1 | k1 <;> rcases List.mem_cons.1 m2 with e2 | k2
    ·cases e1; cases e2; rfl
    ·cases e1; exact (h3.1 (j, a) k2 rfl).elim
    ·cases e2; exact (h3.1 (i, a) k1 rfl).elim
    ·exact ih h3.2 k1 k2
end Go.Ev
namespace Go.Ev
def resV (C : Cfg) (s : St) : ResultVar → Option V
 | .tmp t => s.sl t
 | .cell a t => match aggT C.P t, qb4 C.P t, s.sl a with
   | some g, some n, some (.ptr id off) => (qib s id).bind fun c => ldV g n c off
   | _, _, _ => none
def qtc (C : Cfg) (s : St) : List ResultVar → Option (List V)
 | [] => some []
 | x :: r => match resV C s x, qtc C s r with
   | some v, some vs => some (v :: vs)
   | _, _ => none
def qz2 (C : Cfg) (s : St) (mv : Nat → List (Nat × TypeId × Nat)) (rs : List ResultVar) : Option (O × List Nat × List (Option Nat)) :=
 match qtc C s rs with
 | none => none
 | some vs => match C.pins with
   | [] => match vs with
     | [v] => argO s (mv 0) v
     | vs => (qg7 s mv 0 vs).map fun (os, rd, tk) => (.tup os, rd, tk)
   | ps => (qg7 s mv 0 (vs ++ ps.map fun p => .ptr p 0)).map fun (os, rd, tk) => (.tup os, rd, tk)
def qmf (C : Cfg) (mv : Nat → List (Nat × TypeId × Nat)) (rs : List ResultVar) (r : O) (s : St) : Prop :=
 match qz2 C s mv rs with
 | none => False
 | some (o, rd, tk) => (tk.filterMap id).Nodup ∧ ((tk.filterMap id).any fun i => rd.contains i) = false ∧ ole o r
def qtd (C : Cfg) (mv : Nat → List (Nat × TypeId × Nat)) (rs : List ResultVar) (r : O) (e : Exit) (s : St) : Prop :=
 match e with
 | .normal | .ret => qmf C mv rs r s
 | _ => False
section
variable {C : Cfg} {E : Env} {bt : Nat → Option Nat} {s : St} {a : Act} {w : World}
theorem qbex (h : Rel C E bt s a w) {x : ResultVar} {v : V} (hv : resV C s x = some v) :
 ∃ u, ((match x with | .tmp t => pure (a.tmps.getD t undef) | .cell ad t => do loadVar t (← asAddr (a.tmps.getD ad undef))) : Go.Sem Value).run C.P w = .ok u w ∧ VR w (Xs E.X0 s.hp bt) bt (Nf s.hp) u v := by
 cases x with
 | tmp t => exact ⟨_, by simp, h.slots t v hv⟩
 | cell ad t =>
   simp only [resV] at hv
   split at hv
   ·rename_i g n id off hg hn hs
    simp only [Option.bind_eq_some_iff] at hv
    obtain ⟨c, hc, hv⟩ := hv
    obtain ⟨bk, hb, _, he⟩ := qjd (h.slots ad _ hs)
    obtain ⟨t', hob⟩ := qnt hc
    obtain ⟨bk', cs, h1, h2, h3, h4⟩ := h.objs id _ hob
    rw [hb] at h1; cases h1
    obtain ⟨r, hr, hvr⟩ := qns (X := Xs E.X0 s.hp bt) (bt := bt) (nf := Nf s.hp) hg hn bk off c off (fun j => cs.getD (off + j) undef) hv (fun j x hx => by
     have hlt := (List.getElem?_eq_some_iff.1 hx).1
     have hcs : cs[off + j]? = some (cs.getD (off + j) undef) := by
      have : off + j < cs.size := by omega
      simp [Array.getD, this]
     exact ⟨by rw [qhg h2]; exact hcs, h4 _ _ _ hcs hx⟩)
    refine ⟨r, ?_, hvr⟩
    simp only [he, asAddr, Go.Sem.run_bind, Go.Sem.run_pure, Result.andThen_ok]
    exact hr
   ·cases hv
theorem qyp (h : Rel C E bt s a w) (f : ResultVar → Go.Sem Value) (hf : ∀ x, f x = (match x with | .tmp t => pure (a.tmps.getD t undef) | .cell ad t => do loadVar t (← asAddr (a.tmps.getD ad undef)))) :
 ∀ {l : List ResultVar} {vs : List V}, qtc C s l = some vs →
 ∃ us : List Value, (l.mapM f).run C.P w = .ok us w ∧ us.length = vs.length ∧ ∀ (j : Nat) (u : Value) (v : V), us[j]? = some u → vs[j]? = some v → VR w (Xs E.X0 s.hp bt) bt (Nf s.hp) u v
 | [], vs, hv => by
   cases hv
   exact ⟨[], by simp, rfl, fun j u v hj => by simp at hj⟩
 | x :: l, vs, hv => by
   simp only [qtc] at hv
   split at hv
   ·rename_i v vs' h1 h2
    cases hv
    obtain ⟨u, hu1, hu2⟩ := qbex h h1
    obtain ⟨us, g1, g2, g3⟩ := qyp h f hf h2
    refine ⟨u :: us, ?_, by simp [g2], fun j a b ha hb => ?_⟩
    ·rw [List.mapM_cons]
     rw [← hf] at hu1
     simp [hu1, g1]
    ·cases j with
     | zero => simp at ha hb; subst ha; subst hb; exact hu2
     | succ j => simp at ha hb; exact g3 j a b ha hb
   ·cases hv
theorem qbmb (h : Rel C E bt s a w) {mv : Nat → List (Nat × TypeId × Nat)} {fn : Func} {r : O} (hx : qmf C mv fn.results.toList r s) (ps : List Value) (hpl : ps.length = C.pins.length)
 (hpp : ∀ (m p : Nat) (q : Value), C.pins[m]? = some p → ps[m]? = some q → ∃ bk, E.pin p = some bk ∧ q = .pointer (some ⟨bk, 0, none⟩)) :
 ∃ v u os', (results fn a.tmps).run C.P w = .ok v w ∧ (match ps with
   | [] => u = v
   | ps => ∃ us : List Value, u = .tuple (us ++ ps).toArray ∧ v = match us with | [x] => x | us => .tuple us.toArray) ∧ RO w (fun b => E.X0 b ∨ Blk os' b) u r os' ∧ qm0 os' ∧ (∀ b, Blk os' b → ¬ E.X0 b ∧ (E.Mv b ∨ E.w0.heap.size ≤ b)) := by
 unfold qmf at hx
 split at hx
 ·exact hx.elim
 rename_i o rd tk hex
 obtain ⟨hnd, hany, hle⟩ := hx
 unfold qz2 at hex
 -- facts of the rows that go out
 have facts : (∀ i, some i ∈ tk → (s.hp i).isLive = true) → (∀ i ∈ rd, (s.hp i).obj?.isSome = true) →
  qvi bt rd (fun b => E.X0 b ∨ Blk (tk.map (·.bind bt)) b) ∧ (∀ b, (E.X0 b ∨ Blk (tk.map (·.bind bt)) b) → Xs E.X0 s.hp bt b) ∧ qm0 (tk.map (·.bind bt)) ∧
  (∀ b, Blk (tk.map (·.bind bt)) b → ¬ E.X0 b ∧ (E.Mv b ∨ E.w0.heap.size ≤ b)) := by
  intro htk hrd
  have hblk : ∀ {b}, Blk (tk.map (·.bind bt)) b → ∃ i, some i ∈ tk ∧ bt i = some b := fun {b} hb => by
   unfold Blk at hb
   simp only [List.mem_map] at hb
   obtain ⟨x, hx, e⟩ := hb
   cases x with
   | none => cases e
   | some i => exact ⟨i, hx, e⟩
  refine ⟨fun b hb i hi he => ?_, fun b hb => ?_, fun i j b hi hj => ?_, fun b hb => ?_⟩
  ·rcases hb with hb | hb
   ·exact h.nx i b (hrd i hi) he hb
   ·obtain ⟨k, hk, hkb⟩ := hblk hb
    have := h.inj k i b (htk k hk) (hrd i hi) hkb he
    subst this
    have : ((tk.filterMap id).any fun i => rd.contains i) = true := by
     rw [List.any_eq_true]
     exact ⟨k, by simp [List.mem_filterMap, hk], by simpa using hi⟩
    rw [hany] at this; cases this
  ·rcases hb with hb | hb
   ·exact .inl hb
   ·obtain ⟨k, hk, hkb⟩ := hblk hb
    exact qf6 (htk k hk) hkb
  ·simp only [List.getElem?_map, Option.map_eq_some_iff] at hi hj
   obtain ⟨x, hx, e1⟩ := hi
   obtain ⟨y, hy, e2⟩ := hj
   cases x with
   | none => cases e1
   | some p =>
     cases y with
     | none => cases e2
     | some q =>
       have := h.inj p q b (htk p (List.mem_of_getElem? hx)) (qgs (htk q (List.mem_of_getElem? hy))) e1 e2
       subst this
       exact qkh hnd hx hy
  ·obtain ⟨k, hk, hkb⟩ := hblk hb
   obtain ⟨o1, o2⟩ := h.own k b (htk k hk) hkb
   exact ⟨o2, o1.symm⟩
 have hres : ∀ {vs}, qtc C s fn.results.toList = some vs → ∃ us : List Value, (results fn a.tmps).run C.P w = .ok (if h : us.toArray.size = 1 then us.toArray[0] else .tuple us.toArray) w ∧ us.length = vs.length ∧
  ∀ (j : Nat) (u : Value) (v : V), us[j]? = some u → vs[j]? = some v → VR w (Xs E.X0 s.hp bt) bt (Nf s.hp) u v := by
  intro vs hvs
  obtain ⟨us, g1, g2, g3⟩ := qyp h (fun x => match x with | .tmp t => pure (a.tmps.getD t undef) | .cell ad t => do loadVar t (← asAddr (a.tmps.getD ad undef))) (fun x => rfl) hvs
  refine ⟨us, ?_, g2, g3⟩
  unfold results
  rw [← Array.toArray_toList (xs := fn.results), List.mapM_toArray]
  simp only [Go.Sem.run_bind, Go.Sem.run_map, Go.Sem.run_pure]
  exact (congrArg (fun z => Result.andThen (Result.andThen z _) _) g1).trans rfl
 split at hex
 ·cases hex
 rename_i vs0 hvs
 split at hex
 ·rename_i hpins
  have hps : ps = [] := List.eq_nil_of_length_eq_zero (by rw [hpl, hpins]; rfl)
  subst hps
  split at hex
  ·rename_i v
   obtain ⟨us, g1, g2, g3⟩ := hres hvs
   match us, g2 with
   | [u], _ =>
     have hv := g3 0 u v rfl rfl
     have ids : (∀ i, some i ∈ tk → (s.hp i).isLive = true) ∧ (∀ i ∈ rd, (s.hp i).obj?.isSome = true) := by
      obtain ⟨_, k2, k3⟩ := qxc h (X' := fun _ => False) (fun _ hf => hf.elim) hv hex (fun _ hf => hf.elim)
      exact ⟨k2, k3⟩
     obtain ⟨f1, f2, f3, f4⟩ := facts ids.1 ids.2
     obtain ⟨k1, _, _⟩ := qxc h f2 hv hex f1
     exact ⟨u, u, _, by simpa using g1, rfl, k1.le hle, f3, f4⟩
  ·rename_i vs hne
   obtain ⟨us, g1, g2, g3⟩ := hres hvs
   simp only [Option.map_eq_some_iff] at hex
   obtain ⟨⟨os, rd', tk'⟩, ha, e⟩ := hex
   simp only [Prod.mk.injEq] at e
   obtain ⟨rfl, rfl, rfl⟩ := e
   have ids := qr0 ha
   obtain ⟨f1, f2, f3, f4⟩ := facts ids.1 ids.2
   obtain ⟨k1, oss, k2, k3, k4⟩ := qqf h mv f2 vs0 0 us os _ _ ha g2 g3 f1
   have hlen : ¬ us.toArray.size = 1 := by
    intro hl
    have hl : vs0.length = 1 := by rw [← g2]; simpa using hl
    match vs0, hl with
    | [v], _ => exact hne v rfl
   rw [dif_neg hlen] at g1
   refine ⟨_, _, _, g1, rfl, ?_, f3, f4⟩
   have ht := RO.tup us.toArray os oss (by simp [k1, g2]) (by omega) fun j v o q hj hx hq => k4 j v o q (by simpa using hj) hx hq
   rw [← k3] at ht
   exact RO.le ht hle
 ·rename_i pns hne
  obtain ⟨us, g1, g2, g3⟩ := hres hvs
  simp only [Option.map_eq_some_iff] at hex
  obtain ⟨⟨os, rd', tk'⟩, ha, e⟩ := hex
  simp only [Prod.mk.injEq] at e
  obtain ⟨rfl, rfl, rfl⟩ := e
  have ids := qr0 ha
  obtain ⟨f1, f2, f3, f4⟩ := facts ids.1 ids.2
  have hne' : ps ≠ [] := fun e => by
   subst e
   exact hne (List.eq_nil_of_length_eq_zero hpl.symm)
  obtain ⟨k1, oss, k2, k3, k4⟩ := qqf h mv f2 (vs0 ++ C.pins.map fun p => V.ptr p 0) 0 (us ++ ps) os _ _ ha (by simp [g2, hpl]) (fun k v x hk hx => by
   by_cases hl : k < us.length
   ·rw [List.getElem?_append_left hl] at hk
    rw [List.getElem?_append_left (by omega)] at hx
    exact g3 k v x hk hx
   ·rw [List.getElem?_append_right (by omega)] at hk
    rw [List.getElem?_append_right (by omega), List.getElem?_map, Option.map_eq_some_iff] at hx
    obtain ⟨p, hp, rfl⟩ := hx
    rw [← g2] at hp
    obtain ⟨bk, q1, q2⟩ := hpp _ p v hp hk
    obtain ⟨_, q3, q4⟩ := h.pin p bk q1
    subst q2
    exact .ptr p 0 bk q4 q3) f1
  refine ⟨_, .tuple (us ++ ps).toArray, _, g1, ?_, ?_, f3, f4⟩
  ·cases ps with
   | nil => exact absurd rfl hne'
   | cons p ps =>
     refine ⟨us, rfl, ?_⟩
     match us with
     | [] => rfl
     | [x] => rfl
     | _ :: _ :: _ => simp
  ·have ht := RO.tup (us ++ ps).toArray os oss (by simp [k1, g2, hpl]) (by omega) fun j v o q hj hx hq => k4 j v o q (by simpa using hj) hx hq
   rw [← k3] at ht
   exact RO.le ht hle
theorem qbax {f : FuncId} {fn : Func} {c : Code} {args : List O} {r : O} (mv : Nat → List (Nat × TypeId × Nat)) (hf : C.P.funcs[f]? = some fn) (hb : fn.body = some c) (hN : fn.ntmps = C.N) (hn : args.length ≤ fn.ntmps) (hok : args.all qs9 = true) (hpins : C.pins = qjg 0 args)
 (h : AW C c (qkr args) (qtd C mv fn.results.toList r)) : Sem C.P f args r := by
 intro w vs X os hX hap hBX har
 obtain ⟨pin, bt, hrel, hpp⟩ := qyl (C := C) hX hap hBX har hok hpins hn hN
 have hpl : (qe6 args vs.toList).length = C.pins.length := by rw [hpins]; exact (qo1 args vs.toList 0 (by simpa using har.n)).1.symm
 refine calls_of_wp hf hb (Go.wp_mono (h _ bt _ w hrel) fun e a' w' ⟨s', bt', hq, hr⟩ => ?_)
 have fin : qmf C mv fn.results.toList r s' → a'.defers = [] ∧ ∃ v, (results fn a'.tmps).run C.P w' = .ok v w' ∧ (fun e w' => ∃ v u os', e = Ending.returned v ∧ Ret args vs.toList v u ∧ RO w' (fun b => X b ∨ Blk os' b) u r os' ∧ qm0 os' ∧ (∀ b, Blk os' b → ¬ X b ∧ (Blk os b ∨ w.heap.size ≤ b)) ∧ Fr (Blk os) w w') (.returned v) w' := fun hx => by
  obtain ⟨v, u, os', g1, g0, g2, g3, g4⟩ := qbmb hr hx (qe6 args vs.toList) hpl hpp
  exact ⟨hr.df, v, g1, v, u, os', rfl, g0, g2, g3, g4, hr.fr⟩
 cases e with
 | normal => exact fin hq
 | ret => exact fin hq
 | _ => exact hq.elim
end
end Go.Ev
namespace Go.Ev
def adel {α : Type} (i : Nat) : List (Nat × α) → List (Nat × α)
 | [] => []
 | (j, y) :: r => if i = j then adel i r else (j, y) :: adel i r
theorem qne {α : Type} (i k : Nat) : ∀ l : List (Nat × α), aget (adel i l) k = if k = i then none else aget l k
 | [] => by simp [adel, aget]
 | (j, y) :: r => by
   simp only [adel]
   by_cases e : i = j
   ·subst e
    rw [if_pos rfl, qne i k r]
    by_cases e2 : k = i <;> simp [aget, e2]
   ·rw [if_neg e]
    simp only [aget]
    rw [qne i k r]
    by_cases e2 : k = j
    ·subst e2; simp; intro h; exact absurd h.symm e
    ·simp [e2]
def putL (N : Nat) (sl : List (Nat × V)) (dst : Option Tmp) (v : Option V) : List (Nat × V) := match dst with
 | none => sl
 | some d => match v with
   | some x => if d < N then (d, x) :: sl else adel d sl
   | none => adel d sl
theorem qbay {C : Cfg} {dst : Option Tmp} {d : List (Nat × HS)} {v : Option V} {rd : List Nat} {sl : List (Nat × V)} {hp : List (Nat × HS)} :
 Delta.app C dst ⟨d, v, rd⟩ (mkS sl hp) = mkS (putL C.N sl dst v) (d ++ hp) := by
 unfold Delta.app mkS
 congr 1
 ·funext i
  cases dst with
  | none => rfl
  | some d =>
    simp only [qg6, putL]
    cases v with
    | none =>
      simp only [ite_self, qne]
    | some x =>
      simp only
      by_cases e : i = d
      ·subst e
       by_cases hl : i < C.N
       ·simp [hl, aget]
       ·simp [hl, qne]
      ·by_cases hl : d < C.N
       ·simp [hl, aget, e]
       ·simp [hl, qne, e]
 ·funext i
  induction d with
  | nil => rfl
  | cons p r ih =>
    obtain ⟨j, o⟩ := p
    simp only [qbc, List.cons_append, aget]
    split
    ·rfl
    ·exact ih
def qfd (p : Prop) : Option Res → Option Res
 | none => none
 | some r => some ⟨p ∧ r.ok, r.dl⟩
theorem q6q {p : Prop} : qfd p none = none := rfl
theorem q6r {p ok : Prop} {d : Delta} : qfd p (some ⟨ok, d⟩) = some ⟨p ∧ ok, d⟩ := rfl
def qdz (g : Bool) (sl : List (Nat × V)) : List Operand → Option (Prop × List (Nat × V))
 | [] => some (True, [])
 | .tmp t :: r => match aget sl t with
   | none => none
   | some (.opt g' v) => (match v with
     | .opt _ _ => none
     | v => match qdz g sl r with
       | none => none
       | some (p, m) => some ((g = true → g' = true) ∧ p, (t, v) :: m))
   | some v => match qdz g sl r with
     | none => none
     | some (p, m) => some (p, (t, v) :: m)
 | _ :: r => qdz g sl r
def eU (C : Cfg) (q : Bool) (g : Bool) (o : Oper) (sl : List (Nat × V)) (hp : List (Nat × HS)) : Option Res :=
 match qbai o with
 | true => aop C q o (mkS sl hp)
 | false => match qdz g sl o.op.operands.toList with
   | none => none
   | some (p, m) => qfd p (aop C q o (mkS m hp))
def qp1 (q g : Bool) : Option Res → Option Res
 | none => match q with | true => none | false => qht g none
 | r => qht g r
def e1 (C : Cfg) (q : Bool) (ops : Array Oper) (o : Oper) (sl : List (Nat × V)) (hp : List (Nat × HS)) : Option Res :=
 match o.guard with
 | none => eU C q true o sl hp
 | some (j, want) => match qml want ((qgk ops j).bind (aget sl)) with
   | some g => qp1 q g (eU C q g o sl hp)
   | none => none
def erun (C : Cfg) (ops : Array Oper) (K : St → Prop) : List Oper → List (Nat × V) → List (Nat × HS) → Prop
 | [], sl, hp => K (mkS sl hp)
 | o :: l, sl, hp => match e1 C false ops o sl hp with
   | none => False
   | some r => r.ok ∧ erun C ops K l (putL C.N sl o.dst r.dl.v) (r.dl.hp ++ hp)
theorem qbaz {C : Cfg} {q : Bool} {o : Oper} {s s' : St} {r : Res} (h : aop C q o s = some r) (ho : qif s s' o.op.operands.toList) (hs : s'.hp = s.hp) : aop C q o s' = some r := by
 cases q with
 | true => exact qqj h ho fun id _ => by rw [hs]
 | false =>
   by_cases hc : ∃ c x, o.op = .call c ∧ c.callee = .value x
   ·obtain ⟨⟨callee, args, ts⟩, x, e, e2⟩ := hc
    simp only at e2
    subst e2
    have hv : s'.val x = s.val x := qmp fun t et => ho t (by simp [e, Op.operands, Call.operands, et])
    have hva : vals s' args.toList = vals s args.toList := qna fun t ht => ho t (by
     simp [e, Op.operands, Call.operands] at ht ⊢
     simp [ht])
    have hcall : ∀ f vs, qf5 C false s' o.dst f vs = qf5 C false s o.dst f vs := fun f vs => by
     have ha : ∀ vs, qg7 s' (C.mv f) 0 vs = qg7 s (C.mv f) 0 vs := fun vs => by
      cases h1 : qg7 s (C.mv f) 0 vs with
      | some x => exact qnv (os := x.1) (rd := x.2.1) (tk := x.2.2) h1 (fun id _ => by rw [hs]) (fun id _ => by rw [hs])
      | none =>
        cases h2 : qg7 s' (C.mv f) 0 vs with
        | none => rfl
        | some x =>
          have := qnv (s := s') (s' := s) (os := x.1) (rd := x.2.1) (tk := x.2.2) h2 (fun id _ => by rw [hs]) (fun id _ => by rw [hs])
          rw [h1] at this; cases this
     have hl : ∀ id, qgz s' id = qgz s id := fun id => by unfold qgz; rw [hs]
     unfold qf5 qir qha
     simp only [ha, hl, hs, qe5]
    unfold aop at h ⊢
    rw [e] at h ⊢
    simp only [hva, hv, hcall] at h ⊢
    exact h
   ·have e : ∀ s, aop C false o s = aop C true o s := fun s => by
     unfold aop
     split <;> rfl
    rw [e] at h ⊢
    exact qqj h ho fun id _ => by rw [hs]
def V.isOpt : V → Bool
 | .opt _ _ => true
 | _ => false
def UV (sl : List (Nat × V)) (t : Nat) (v : V) : Prop := v.isOpt = false ∧ (aget sl t = some v ∨ ∃ g, aget sl t = some (.opt g v))
theorem UV.one {sl : List (Nat × V)} {t : Nat} {v u : V} (h : UV sl t v) (k : UV sl t u) : u = v := by
 obtain ⟨h0, h1⟩ := h
 obtain ⟨k0, k1⟩ := k
 rcases h1 with h1 | ⟨g, h1⟩ <;> rcases k1 with k1 | ⟨g', k1⟩ <;> rw [h1] at k1 <;> cases k1
 ·rfl
 ·cases h0
 ·cases k0
 ·rfl
theorem qh8 {g : Bool} {t : Nat} {v : V} (hv : v.isOpt = false) : ∀ {l : List Operand} {s : St}, s.sl t = some v → (qfj g s l).2.sl t = some v
 | [], s, h => h
 | .tmp k :: r, s, h => by
   unfold qfj
   split
   ·rename_i g' u hs
    refine qh8 hv (l := r) ?_
    have : t ≠ k := fun e => by subst e; rw [h] at hs; cases hs; cases hv
    simpa [this] using h
   ·exact qh8 hv h
 | .const _ :: r, s, h => qh8 hv (l := r) h
 | .global _ :: r, s, h => qh8 hv (l := r) h
 | .func _ :: r, s, h => qh8 hv (l := r) h
theorem qms {g : Bool} : ∀ {l : List Operand} {sl : List (Nat × V)} {p : Prop} {m : List (Nat × V)}, qdz g sl l = some (p, m) →
 (∀ t, .tmp t ∈ l → t ∈ m.map (·.1)) ∧ (∀ q ∈ m, UV sl q.1 q.2) ∧ ∀ {s : St}, (∀ t, s.sl t = aget sl t ∨ ∃ v, UV sl t v ∧ s.sl t = some v) →
   (p → (qfj g s l).1) ∧ ∀ t, .tmp t ∈ l → ∃ v, UV sl t v ∧ (qfj g s l).2.sl t = some v
 | [], sl, p, m, h => by
   cases h
   exact ⟨by simp, by simp, fun _ => ⟨fun _ => trivial, by simp⟩⟩
 | .tmp k :: r, sl, p, m, h => by
   unfold qdz at h
   split at h
   ·cases h
   ·rename_i g' v hk
    split at h
    ·cases h
    ·rename_i hno
     split at h
     ·cases h
     ·rename_i p' m' hr
      cases h
      have hv : v.isOpt = false := by
       cases v <;> first | rfl | exact absurd rfl (hno _ _)
      have uv : UV sl k v := ⟨hv, .inr ⟨g', hk⟩⟩
      obtain ⟨i1, i2, i3⟩ := qms hr
      refine ⟨fun t ht => ?_, fun q hq => ?_, fun {s} hs => ?_⟩
      ·rcases List.mem_cons.1 ht with e | ht
       ·cases e; simp
       ·simp [i1 t ht]
      ·rcases List.mem_cons.1 hq with rfl | hq
       ·exact uv
       ·exact i2 q hq
      ·unfold qfj
       split
       ·rename_i g2 v2 hs2
        have e : g2 = g' ∧ v2 = v := by
         rcases hs k with e | ⟨u, hu, e⟩
         ·rw [hk, hs2] at e; cases e; exact ⟨rfl, rfl⟩
         ·rw [hs2] at e; cases e; cases hu.1
        obtain ⟨rfl, rfl⟩ := e
        obtain ⟨j1, j2⟩ := i3 (s := ⟨fun i => if i = k then some v2 else s.sl i, s.hp⟩) (fun t => by
         by_cases e : t = k
         ·subst e; exact .inr ⟨v2, uv, by simp⟩
         ·simpa [e] using hs t)
        refine ⟨fun hp => ⟨hp.1, j1 hp.2⟩, fun t ht => ?_⟩
        rcases List.mem_cons.1 ht with e | ht
        ·cases e
         exact ⟨v2, uv, qh8 hv (by simp)⟩
        ·exact j2 t ht
       ·rename_i hns
        have e : s.sl k = some v := by
         rcases hs k with e | ⟨u, hu, e⟩
         ·rw [hk] at e; exact absurd e (hns _ _)
         ·rw [e, UV.one uv hu]
        obtain ⟨j1, j2⟩ := i3 hs
        refine ⟨fun hp => j1 hp.2, fun t ht => ?_⟩
        rcases List.mem_cons.1 ht with e' | ht
        ·cases e'
         exact ⟨v, uv, qh8 hv e⟩
        ·exact j2 t ht
   ·rename_i v hno hk
    split at h
    ·cases h
    ·rename_i p' m' hr
     cases h
     have hv : v.isOpt = false := by
      cases v <;> first | rfl | exact absurd rfl (hno _ _)
     have uv : UV sl k v := ⟨hv, .inl hk⟩
     obtain ⟨i1, i2, i3⟩ := qms hr
     refine ⟨fun t ht => ?_, fun q hq => ?_, fun {s} hs => ?_⟩
     ·rcases List.mem_cons.1 ht with e | ht
      ·cases e; simp
      ·simp [i1 t ht]
     ·rcases List.mem_cons.1 hq with rfl | hq
      ·exact uv
      ·exact i2 q hq
     ·have e : s.sl k = some v := by
       rcases hs k with e | ⟨u, hu, e⟩
       ·rw [e, hk]
       ·rw [e, UV.one uv hu]
      unfold qfj
      split
      ·rename_i g2 v2 hs2
       rw [e] at hs2; cases hs2; cases hv
      ·obtain ⟨j1, j2⟩ := i3 hs
       refine ⟨j1, fun t ht => ?_⟩
       rcases List.mem_cons.1 ht with e' | ht
       ·cases e'
        exact ⟨v, uv, qh8 hv e⟩
       ·exact j2 t ht
 | .const _ :: r, sl, p, m, h => by
   obtain ⟨i1, i2, i3⟩ := qms (l := r) h
   exact ⟨fun t ht => i1 t (by simpa using ht), i2, fun {s} hs => ⟨(i3 hs).1, fun t ht => (i3 hs).2 t (by simpa using ht)⟩⟩
 | .global _ :: r, sl, p, m, h => by
   obtain ⟨i1, i2, i3⟩ := qms (l := r) h
   exact ⟨fun t ht => i1 t (by simpa using ht), i2, fun {s} hs => ⟨(i3 hs).1, fun t ht => (i3 hs).2 t (by simpa using ht)⟩⟩
 | .func _ :: r, sl, p, m, h => by
   obtain ⟨i1, i2, i3⟩ := qms (l := r) h
   exact ⟨fun t ht => i1 t (by simpa using ht), i2, fun {s} hs => ⟨(i3 hs).1, fun t ht => (i3 hs).2 t (by simpa using ht)⟩⟩
theorem q5m {C : Cfg} {q g : Bool} {o : Oper} {sl : List (Nat × V)} {hp : List (Nat × HS)} {r : Res} (h : eU C q g o sl hp = some r) :
 ∃ r', aopU C q g o (mkS sl hp) = some r' ∧ (r.ok → r'.ok) ∧ r'.dl = r.dl := by
 unfold eU at h
 unfold aopU
 split at h
 ·rename_i hpk
  rw [if_pos hpk]
  exact ⟨r, h, id, rfl⟩
 ·rename_i hpk
  rw [if_neg (by simp [hpk])]
  split at h
  ·cases h
  ·rename_i p m hl
   cases ha : aop C q o (mkS m hp) with
   | none => rw [ha] at h; cases h
   | some r0 =>
     rw [ha] at h
     simp only [qfd, Option.some.injEq] at h
     subst h
     obtain ⟨i1, i2, i3⟩ := qms hl
     obtain ⟨j1, j2⟩ := i3 (s := mkS sl hp) (fun t => .inl rfl)
     obtain ⟨_, u2, _⟩ := qi7 (C := C) (E := ⟨fun _ => False, fun _ => False, default, fun _ h => h.elim, fun _ => none⟩) g o.op.operands.toList (mkS sl hp)
     have := qbaz ha (s' := (qfj g (mkS sl hp) o.op.operands.toList).2) (fun t ht => by
      obtain ⟨v, hv, e⟩ := j2 t ht
      obtain ⟨u, hu⟩ := qyk (i1 t ht)
      rw [e]
      show some v = aget m t
      rw [hu]
      exact congrArg some (UV.one (i2 (t, u) (qjy hu)) hv)) (by rw [u2]; rfl)
     rw [this]
     exact ⟨_, rfl, fun hh => ⟨j1 hh.1, hh.2⟩, rfl⟩
theorem q5n {C : Cfg} {ops : Array Oper} {o : Oper} {q : Bool} {sl : List (Nat × V)} {hp : List (Nat × HS)} {r : Res} (h : e1 C q ops o sl hp = some r) :
 ∃ r', aop1 C q ops o (mkS sl hp) = some r' ∧ (r.ok → r'.ok) ∧ (r'.dl = r.dl ∨ (q = false ∧ r.dl = ⟨[], none, []⟩ ∧ ∃ v rd, r'.dl = ⟨[], some (.opt false v), rd⟩)) := by
 unfold e1 at h
 unfold aop1
 split at h
 ·rename_i hg
  simp only [hg]
  obtain ⟨r', h1, h2, h3⟩ := q5m h
  exact ⟨r', h1, h2, .inl h3⟩
 ·rename_i j want hg
  simp only [hg]
  split at h
  ·rename_i g hx
   have hx' : qml want ((qgk ops j).bind (mkS sl hp).sl) = some g := hx
   simp only [hx']
   cases he : eU C q g o sl hp with
   | some r0 =>
     obtain ⟨r', h1, h2, h3⟩ := q5m he
     rw [he] at h
     rw [h1]
     simp only [qp1] at h
     obtain ⟨ok, dl⟩ := r0
     obtain ⟨ok', dl'⟩ := r'
     simp only at h2 h3
     subst h3
     unfold qht at h ⊢
     split at h
     ·rename_i a b rd e
      cases e
      cases h
      exact ⟨_, rfl, fun hh hg => h2 (hh hg), .inl rfl⟩
     ·rename_i hne
      have hne' : ∀ (ok : Prop) (v : V) (rd : List Nat), dl' ≠ ⟨[], some v, rd⟩ := fun ok v rd e => by
       subst e; exact hne _ _ _ rfl
      split
      ·rename_i a b rd e
       cases e
       exact absurd rfl (hne' True _ _)
      ·cases g
       ·cases h; exact ⟨_, rfl, id, .inl rfl⟩
       ·cases h; exact ⟨_, rfl, h2, .inl rfl⟩
   | none =>
     rw [he] at h
     cases q with
     | true => cases h
     | false =>
     cases g with
     | true => simp [qp1, qht] at h
     | false =>
       simp only [qp1, qht, Option.some.injEq] at h
       subst h
       unfold qht
       split
       ·exact ⟨_, rfl, fun _ e => (by cases e), .inr ⟨rfl, rfl, _, _, rfl⟩⟩
       ·exact ⟨_, rfl, id, .inl rfl⟩
  ·cases h
theorem qte {C : Cfg} {E : Env} (hC : COk C) {ops : Array Oper} {K : St → Prop} {Q : Exit → Act → World → Prop} (hQ : ∀ s', K s' → ∀ bt' a' w', Rel C E bt' s' a' w' → Q .normal a' w') :
 ∀ (l : List Oper) {sl : List (Nat × V)} {hp : List (Nat × HS)} {bt : Nat → Option Nat} {a : Act} {w : World}, Rel C E bt (mkS sl hp) a w → erun C ops K l sl hp → wpList C.P ops Q l a w
 | [], sl, hp, bt, a, w, h, hr => hQ _ hr bt a w h
 | o :: l, sl, hp, bt, a, w, h, hr => by
   unfold erun at hr
   split at hr
   ·exact hr.elim
   ·rename_i r he
    obtain ⟨r', h1, h2, h3⟩ := q5n he
    unfold wpList
    refine qxf hC.t hC.e h h1 (h2 hr.1) _ Q fun bt' a' w' hh => ?_
    have hh2 : Rel C E bt' (r.dl.app C o.dst (mkS sl hp)) a' w' := by
     rcases h3 with h3 | ⟨_, h3, v, rd, h4⟩
     ·rw [← h3]; exact hh
     ·rw [h4] at hh
      rw [h3]
      exact hh.wk (Wk.none _ rfl)
    obtain ⟨ok, ⟨d, v, rd⟩⟩ := r
    rw [qbay] at hh2
    exact qte hC hQ l hh2 hr.2
theorem AW.run {C : Cfg} {sl : List (Nat × V)} {hp : List (Nat × HS)} {Q : Exit → St → Prop} (hC : COk C) {id : Nat} {l : List Oper} (h : erun C l.toArray (Q .normal) l sl hp) : AW C (.region id l.toArray false) (mkS sl hp) Q :=
 fun E _ _ _ hr => wp_region_list (by
  have := qte (E := E) hC (Q := fun e a' w' => ∃ s' bt', Q e s' ∧ Rel C E bt' s' a' w') (fun s' hs bt' a' w' hh => ⟨s', bt', hs, hh⟩) l hr h
  simpa using this)
def qo4 (C : Cfg) (ops : Array Oper) : List Oper → List (Nat × V) → List (Nat × HS) → List (List Nat × List Nat) → Prop → Option (List (List Nat × List Nat) × Prop × List (Nat × V) × List (Nat × HS))
 | [], sl, hp, acc, p => some (acc.reverse, p, sl, hp)
 | o :: l, sl, hp, acc, p => match e1 C true ops o sl hp with
   | none => none
   | some r => qo4 C ops l (putL C.N sl o.dst r.dl.v) (r.dl.hp ++ hp) ((r.dl.rd, r.dl.hp.map (·.1)) :: acc) (p ∧ r.ok)
theorem q6s (r : Res) (rs : List Res) : qo0 (r :: rs) = (r.dl.rd, r.dl.hp.map (·.1)) :: qo0 rs := rfl
theorem qyq {C : Cfg} {ops : Array Oper} : ∀ {l : List Oper} {sl sl' : List (Nat × V)} {hp hp' : List (Nat × HS)} {acc f : List (List Nat × List Nat)} {p p' : Prop}, qo4 C ops l sl hp acc p = some (f, p', sl', hp') →
 (p' → p) ∧ ∃ qs, f = acc.reverse ++ qo0 qs ∧ drun C ops l (mkS sl hp) = some (qs, mkS sl' hp') ∧ (p' → oks qs)
 | [], sl, sl', hp, hp', acc, f, p, p', h => by
   cases h
   exact ⟨id, [], by simp [qo0], rfl, fun _ => trivial⟩
 | o :: l, sl, sl', hp, hp', acc, f, p, p', h => by
   unfold qo4 at h
   split at h
   ·cases h
   ·rename_i r he
    obtain ⟨r', h1, h2, h3⟩ := q5n he
    obtain ⟨e0, qs, e, k1, k2⟩ := qyq h
    rcases h3 with h3 | ⟨h3, _⟩
    ·refine ⟨fun hp => (e0 hp).1, r' :: qs, by rw [q6s, h3, e]; simp, ?_, fun ho => ⟨h2 (e0 ho).2, k2 ho⟩⟩
     unfold drun
     rw [h1]
     simp only
     obtain ⟨ok, ⟨d, v, rd⟩⟩ := r
     rw [h3, qbay, k1]
    ·cases h3
def qqk (C : Cfg) (K : St → Prop) (ops : Array Oper) (l : List Oper) (sl : List (Nat × V)) (hp : List (Nat × HS)) : Prop :=
 match qo4 C ops l sl hp [] True with
 | none => False
 | some (f, p, sl', hp') => qnc (qs8 ops) f = true ∧ p ∧ K (mkS sl' hp')
theorem AW.drawL {C : Cfg} {sl : List (Nat × V)} {hp : List (Nat × HS)} {Q : Exit → St → Prop} (hC : COk C) {id : Nat} {l : List Oper} (hs : qr7 l.toArray = true) (h : qqk C (Q .normal) l.toArray l sl hp) :
 AW C (.region id l.toArray true) (mkS sl hp) Q := by
 unfold qqk at h
 split at h
 ·exact h.elim
 ·rename_i f p sl' hp' he
  obtain ⟨e0, qs, e, k1, k2⟩ := qyq he
  simp only [List.reverse_nil, List.nil_append] at e
  subst e
  refine AW.draw hC (p := oks qs) (s' := mkS sl' hp') ?_ (k2 h.2.1) h.2.2
  unfold qz1
  rw [hs]
  simp only [k1]
  rw [h.1]
end Go.Ev
namespace Go.Ev
section
variable {C : Cfg} {q g : Bool} {dst : Option Tmp} {ty : TypeId} {pos : String} {aft : Array Edge} {gd : Option (Nat × Bool)} {ops : Array Oper} {sl m : List (Nat × V)} {hp : List (Nat × HS)}
 {x y z c : Operand} {t t2 t3 : TypeId} {n i f : Nat} {r : List Operand} {K : St → Prop} {l : List Oper}
theorem qbey : erun C ops K [] sl hp = K (mkS sl hp) := rfl
theorem qba0 {o : Oper} : erun C ops K (o :: l) sl hp = (match e1 C false ops o sl hp with
 | none => False
 | some r => r.ok ∧ erun C ops K l (putL C.N sl o.dst r.dl.v) (r.dl.hp ++ hp)) := rfl
theorem qba1 {acc : List (List Nat × List Nat)} {p : Prop} : qo4 C ops [] sl hp acc p = some (acc.reverse, p, sl, hp) := rfl
theorem q6t {o : Oper} {acc : List (List Nat × List Nat)} {p : Prop} : qo4 C ops (o :: l) sl hp acc p = (match e1 C true ops o sl hp with
 | none => none
 | some r => qo4 C ops l (putL C.N sl o.dst r.dl.v) (r.dl.hp ++ hp) ((r.dl.rd, r.dl.hp.map (·.1)) :: acc) (p ∧ r.ok)) := rfl
theorem qbez {l2 : List Oper} : qqk C K ops l2 sl hp = (match qo4 C ops l2 sl hp [] True with
 | none => False
 | some (f, p, sl', hp') => qnc (qs8 ops) f = true ∧ p ∧ K (mkS sl' hp')) := rfl
theorem e1_n {op : Op} : e1 C q ops ⟨dst, op, ty, pos, aft, none⟩ sl hp = eU C q true ⟨dst, op, ty, pos, aft, none⟩ sl hp := rfl
theorem e1_g {op : Op} {j : Nat} {want : Bool} : e1 C q ops ⟨dst, op, ty, pos, aft, some (j, want)⟩ sl hp = (match qml want ((qgk ops j).bind (aget sl)) with
 | some g => qp1 q g (eU C q g ⟨dst, op, ty, pos, aft, some (j, want)⟩ sl hp)
 | none => none) := rfl
theorem q00t {j : Nat} : qgk l.toArray j = (l[j]?).bind (·.dst) := by simp [qgk]
theorem qba2 : qdz g sl [] = some (True, []) := rfl
theorem q4j {v : Value} : qdz g sl (.const v :: r) = qdz g sl r := rfl
theorem q6u {v : FuncId} : qdz g sl (.func v :: r) = qdz g sl r := rfl
theorem qba3 {k : Nat} : qdz g sl (.tmp k :: r) = (match aget sl k with
 | none => none
 | some (.opt g' v) => (match v with
   | .opt _ _ => none
   | v => match qdz g sl r with
     | none => none
     | some (p, m) => some ((g = true → g' = true) ∧ p, (k, v) :: m))
 | some v => match qdz g sl r with
   | none => none
   | some (p, m) => some (p, (k, v) :: m)) := rfl
theorem qbmc {k : Nat} : (mkS sl hp).val (.tmp k) = aget sl k := rfl
theorem qba4 {c : Value} : (mkS sl hp).val (.const c) = (cval c).map .d := rfl
theorem qbe0 {f : FuncId} : (mkS sl hp).val (.func f) = some (.d (.fn f [])) := rfl
theorem qba5 : qib (mkS sl hp) i = (match aget hp i with | some (.live (.box _ c)) => some c | some (.fz (.box _ c)) => some c | _ => none) := by
 unfold qib mkS
 simp only
 cases aget hp i with
 | none => rfl
 | some h => cases h <;> (try rfl) <;> rename_i o <;> cases o <;> rfl
theorem qba6 : qgj (mkS sl hp) i = (match aget hp i with | some (.live (.row t z b l)) => some (t, z, b, l) | some (.fz (.row t z b l)) => some (t, z, b, l) | _ => none) := by
 unfold qgj mkS
 simp only
 cases aget hp i with
 | none => rfl
 | some h => cases h <;> (try rfl) <;> rename_i o <;> cases o <;> rfl
theorem q6v : qgz (mkS sl hp) i = (match aget hp i with | some (.live (.row t z b l)) => some (t, z, b, l) | _ => none) := by
 unfold qgz mkS
 simp only
 cases aget hp i with
 | none => rfl
 | some h => cases h <;> (try rfl) <;> rename_i o <;> cases o <;> rfl
theorem qbvz : (mkS sl hp).hp i = (match aget hp i with | some h => h | none => .free) := by
 unfold mkS
 simp only
 cases aget hp i <;> rfl
theorem qba7 : eU C q g ⟨dst, .move x, ty, pos, aft, none⟩ sl hp = ((mkS sl hp).val x).bind qef := rfl
theorem q4k : eU C q g ⟨dst, .assign x, ty, pos, aft, none⟩ sl hp = ((mkS sl hp).val x).bind qef := rfl
theorem qbmd {gd : Nat × Bool} : eU C q g ⟨dst, .move x, ty, pos, aft, some gd⟩ sl hp = (match qdz g sl [x] with | none => none | some (p, m) => qfd p (((mkS m hp).val x).bind qef)) := rfl
theorem qba8 {gd : Nat × Bool} : eU C q g ⟨dst, .assign x, ty, pos, aft, some gd⟩ sl hp = (match qdz g sl [x] with | none => none | some (p, m) => qfd p (((mkS m hp).val x).bind qef)) := rfl
theorem qbme : eU C q g ⟨dst, .pick c x y, ty, pos, aft, gd⟩ sl hp = (match ((mkS sl hp).val c).bind optB with
 | none => none
 | some (g0, b) => match ((mkS sl hp).val x).bind optB, ((mkS sl hp).val y).bind optB with
   | some (g1, p), some (g2, q) => qhf (g0 = true ∧ (b = true → g1 = true) ∧ (b = false → g2 = true)) (.d (.b (bif b then p else q)))
   | va, vb => match b with
     | true => va.bind fun p => qhf (g0 = true ∧ p.1 = true) (.d (.b p.2))
     | false => vb.bind fun p => qhf (g0 = true ∧ p.1 = true) (.d (.b p.2))) := rfl
theorem qbe1 : eU C q g ⟨dst, .alloc t, ty, pos, aft, gd⟩ sl hp = (match qc3 C.P t with
 | some z => qfd True (newObj (mkS [] hp) dst True (.box t (z.map .d)) (.ptr (nm dst 0) 0))
 | none => none) := by
 show qfd True (match qc3 C.P t with | some z => newObj (mkS [] hp) dst True (.box t (z.map .d)) (.ptr (nm dst 0) 0) | none => none) = _
 cases qc3 C.P t <;> rfl
theorem qbqx : eU C q g ⟨dst, .box t x, ty, pos, aft, gd⟩ sl hp = (match qdz g sl [x] with | none => none | some (p, m) => qfd p (match (mkS m hp).val x with
 | some v => v.cells.bind fun c => newObj (mkS m hp) dst True (.box t c) (.ptr (nm dst 0) 0)
 | none => none)) := rfl
theorem qbmf : eU C q g ⟨dst, .load t x, ty, pos, aft, gd⟩ sl hp = (match qdz g sl [x] with | none => none | some (p, m) => qfd p (match aggT C.P t, qb4 C.P t, (mkS m hp).val x with
 | some g, some n, some p => loadAt (zD C.P) (mkS m hp) g n p
 | _, _, _ => none)) := rfl
theorem qbe2 : eU C q g ⟨dst, .store t x y, ty, pos, aft, gd⟩ sl hp = (match qdz g sl [x, y] with | none => none | some (p, m) => qfd p (match qb4 C.P t, (mkS m hp).val x, (mkS m hp).val y with
 | some n, some p, some v => storeAt (zD C.P) (mkS m hp) n p v
 | _, _, _ => none)) := rfl
theorem q4l : eU C q g ⟨dst, .nilCheck x, ty, pos, aft, gd⟩ sl hp = (match qdz g sl [x] with | none => none | some (p, m) => qfd p (match (mkS m hp).val x with
 | some v => match v with
   | .ptr _ _ | .rp _ _ _ _ | .d (.cp _) => qef v
   | _ => none
 | none => none)) := rfl
theorem qbe3 {op : BinOp} : eU C q g ⟨dst, .binOp op t x y t2, ty, pos, aft, gd⟩ sl hp = (match qdz g sl [x, y] with | none => none | some (p, m) => qfd p (match (mkS m hp).val x, (mkS m hp).val y with
 | some a, some b => qm7 C (mkS m hp) op t a b
 | _, _ => none)) := rfl
theorem qbmg {op : UnOp} : eU C q g ⟨dst, .unOp op t x, ty, pos, aft, gd⟩ sl hp = (match qdz g sl [x] with | none => none | some (p, m) => qfd p (match (mkS m hp).val x with
 | some (.d a) => (unD op a).bind fun d => qef (.d d)
 | some (.ub a) => if op = .not then qef (.nb a) else none
 | some (.nb a) => if op = .not then qef (.ub a) else none
 | _ => none)) := rfl
theorem q00u : eU C q g ⟨dst, .fieldAddr t x f, ty, pos, aft, gd⟩ sl hp = (match qdz g sl [x] with | none => none | some (p, m) => qfd p (match offT C.P t f, (mkS m hp).val x with
 | some (off, _), some (.ptr id o) => qef (.ptr id (o + off))
 | some (off, _), some (.rp id sz j o) => qef (.rp id sz j (o + off))
 | some (off, _), some (.d (.cp l)) => qef (.d (.cp (l.drop off)))
 | _, _ => none)) := rfl
theorem qbe4 : eU C q g ⟨dst, .field t x f, ty, pos, aft, gd⟩ sl hp = (match qdz g sl [x] with | none => none | some (p, m) => qfd p (match offT C.P t f, (qcd C.P t f).bind (aggT C.P), (mkS m hp).val x with
 | some (off, n), some g, some (.d (.agg l)) => (ldD g n l off).bind qef
 | some (off, n), some g, some (.agg l) => (ldV g n l off).bind qef
 | _, _, _ => none)) := rfl
theorem q00v : eU C q g ⟨dst, .indexAddr t x y, ty, pos, aft, gd⟩ sl hp = (match qdz g sl [x, y] with | none => none | some (p, m) => qfd p (match qgr C.P t, (mkS m hp).val x, (mkS m hp).val y with
 | some e, some (.d (.sl sz l)), some (.d (.i _ i)) => if qb4 C.P e = some sz then qhf (0 ≤ i ∧ i < (l.length : Int)) (.d (.cp (l.getD i.toNat (zD C.P e)).cells)) else none
 | some e, some (.row id sz off n), some (.d (.i _ i)) => if qb4 C.P e = some sz then qhf (0 ≤ i ∧ i < (n : Int)) (.rp id sz (off + i.toNat) 0) else none
 | _, _, _ => none)) := rfl
theorem qbe5 : eU C q g ⟨dst, .index t x y, ty, pos, aft, gd⟩ sl hp = (match qdz g sl [x, y] with | none => none | some (p, m) => qfd p (match C.P.underlying t, (mkS m hp).val x, (mkS m hp).val y with
 | some .string, some (.d (.s b)), some (.d (.i _ i)) => qhf (0 ≤ i ∧ i < (b.size : Int)) (.d (.i .u8 (b.data.toList.getD i.toNat 0).toNat))
 | _, _, _ => none)) := rfl
theorem qbe6 {parts : Array (Nat × Operand)} : eU C q g ⟨dst, .build t parts, ty, pos, aft, gd⟩ sl hp = (match qdz g sl (parts.toList.map (·.2)) with | none => none | some (p, m) => qfd p (match qc3 C.P t, qfv C.P t with
 | some z, some pl => (qko (mkS m hp) pl (z.map .d) parts.toList).bind fun c => qef (mkAgg c)
 | _, _ => none)) := rfl
theorem qzy {parts : Array (Nat × Operand)} : eU C q g ⟨dst, .buildSlice t n parts, ty, pos, aft, gd⟩ sl hp = (match qdz g sl (parts.toList.map (·.2)) with | none => none | some (p, m) => qfd p (match qgr C.P t with
 | some e => match qb4 C.P e, qc3 C.P e, vals (mkS m hp) (parts.toList.map (·.2)) with
   | some (sz + 1), some z, some vs => match toDs (toD3 (mkS m hp)) vs with
     | some (ds, []) => if parts.toList.map (·.1) = List.range n ∧ n * (sz + 1) ≤ 16777216 ∧ z.length = sz + 1 then
        newObj (mkS m hp) dst (∀ d ∈ ds, d.fits (sz + 1)) (.row e (sz + 1) false ds) (.row (nm dst 0) (sz + 1) 0 n) else none
     | _ => none
   | _, _, _ => none
 | none => none)) := rfl
theorem qbe7 {lo hi mx : Option Operand} : eU C q g ⟨dst, .slice t x lo hi mx, ty, pos, aft, gd⟩ sl hp = (match qdz g sl ([x] ++ lo.toList ++ hi.toList ++ mx.toList) with | none => none | some (p, m) => qfd p (match C.P.underlying t, (mkS m hp).val x with
 | some .string, some (.d (.s b)) => qkk (mkS m hp) b lo hi mx
 | some (.slice e), some v => match qb4 C.P e with
   | some n => qls (mkS m hp) n v lo hi mx
   | none => none
 | _, _ => none)) := by
 cases lo <;> cases hi <;> cases mx <;> rfl
theorem q6w {t1 t2 : TypeId} : eU C q g ⟨dst, .convert t1 t2 x, ty, pos, aft, gd⟩ sl hp = (match qdz g sl [x] with | none => none | some (p, m) => qfd p (match (mkS m hp).val x with
 | some v => qlx C (mkS m hp) t1 t2 v
 | none => none)) := rfl
theorem q00w : eU C q g ⟨dst, .makeSlice t x y, ty, pos, aft, gd⟩ sl hp = (match qdz g sl [x, y] with | none => none | some (p, m) => qfd p (match (mkS m hp).val x, (mkS m hp).val y with
 | some n, some c => qly C (mkS m hp) dst t n c
 | _, _ => none)) := rfl
theorem q6x : eU C q g ⟨dst, .makeMap t none, ty, pos, aft, gd⟩ sl hp = qfd True (newObj (mkS [] hp) dst True (.mp t [] []) (.mref (nm dst 0))) := rfl
theorem qba9 {cm : Bool} : eU C q g ⟨dst, .lookup t x y cm, ty, pos, aft, gd⟩ sl hp = (match qdz g sl [x, y] with | none => none | some (p, m) => qfd p (match (mkS m hp).val x, (mkS m hp).val y with
 | some a, some b => qjr C (mkS m hp) t a b cm
 | _, _ => none)) := rfl
theorem q00x : eU C q g ⟨dst, .mapUpdate t x y z, ty, pos, aft, gd⟩ sl hp = (match qdz g sl [x, y, z] with | none => none | some (p, m) => qfd p (match (mkS m hp).val x, (mkS m hp).val y, (mkS m hp).val z with
 | some a, some b, some c => qhm C (mkS m hp) t a b c
 | _, _, _ => none)) := rfl
theorem qbe8 : qnr (mkS sl hp) i = (match aget hp i with | some (.live (.mp _ ks vs)) => some (ks, vs) | some (.fz (.mp _ ks vs)) => some (ks, vs) | _ => none) := by
 unfold qnr mkS
 simp only
 cases aget hp i with
 | none => rfl
 | some h => cases h <;> (try rfl) <;> rename_i o <;> cases o <;> rfl
theorem q6y : eU C q g ⟨dst, .extract x i, ty, pos, aft, gd⟩ sl hp = (match qdz g sl [x] with | none => none | some (p, m) => qfd p (match (mkS m hp).val x with
 | some (.tup l) => (l[i]?).bind qef
 | _ => none)) := rfl
theorem q4m {fn : FuncId} {caps : Array Operand} : eU C q g ⟨dst, .makeFunc (.func fn) #[] caps, ty, pos, aft, gd⟩ sl hp = (match qdz g sl caps.toList with | none => none | some (p, m) => qfd p (match vals (mkS m hp) caps.toList with
 | some vs => qef (match vs.mapM V.asD with | some ds => .d (.fn fn ds) | none => .fn fn vs)
 | none => none)) := by
 have : (#[] ++ caps : Array Operand).toList = caps.toList := by simp
 show (match qdz g sl (#[] ++ caps : Array Operand).toList with | none => none | some (p, m) => _) = _
 rw [this]
 rfl
theorem q6z {b : Builtin} {args : Array Operand} {ts : Array TypeId} : eU C q g ⟨dst, .call ⟨.builtin b, args, ts⟩, ty, pos, aft, gd⟩ sl hp = (match qdz g sl args.toList with | none => none | some (p, m) => qfd p (match vals (mkS m hp) args.toList with
 | none => none
 | some vs => qkn C (mkS m hp) dst b ts.toList vs)) := by
 have : (Op.call ⟨.builtin b, args, ts⟩).operands.toList = args.toList := by simp [Op.operands, Call.operands]
 show (match qdz g sl (Op.call ⟨.builtin b, args, ts⟩).operands.toList with | none => none | some (p, m) => _) = _
 rw [this]
 rfl
theorem qbmh {fn : FuncId} {args : Array Operand} {ts : Array TypeId} : eU C q g ⟨dst, .call ⟨.value (.func fn), args, ts⟩, ty, pos, aft, gd⟩ sl hp = (match qdz g sl args.toList with | none => none | some (p, m) => qfd p (match vals (mkS m hp) args.toList with
 | none => none
 | some vs => qf5 C q (mkS m hp) dst fn vs)) := by
 have : qdz g sl (Op.call ⟨.value (.func fn), args, ts⟩).operands.toList = qdz g sl args.toList := by
  simp [Op.operands, Call.operands, qdz]
 show (match qdz g sl (Op.call ⟨.value (.func fn), args, ts⟩).operands.toList with | none => none | some (p, m) => qfd p (match vals (mkS m hp) args.toList with
  | none => none
  | some vs => qf5 C q (mkS m hp) dst fn (vs ++ ([] : List D).map V.d))) = _
 rw [this]
 simp
theorem qbe9 {k : Nat} {args : Array Operand} {ts : Array TypeId} : eU C q g ⟨dst, .call ⟨.value (.tmp k), args, ts⟩, ty, pos, aft, gd⟩ sl hp = (match qdz g sl (.tmp k :: args.toList) with | none => none | some (p, m) => qfd p (match vals (mkS m hp) args.toList with
 | none => none
 | some vs => match aget m k with
    | some (.d (.fn f ds)) => qf5 C q (mkS m hp) dst f (vs ++ ds.map .d)
    | some (.fn f caps) => qf5 C q (mkS m hp) dst f (vs ++ caps)
    | _ => none)) := by
 have : qdz g sl (Op.call ⟨.value (.tmp k), args, ts⟩).operands.toList = qdz g sl (.tmp k :: args.toList) := by
  simp [Op.operands, Call.operands]
 show (match qdz g sl (Op.call ⟨.value (.tmp k), args, ts⟩).operands.toList with | none => none | some (p, m) => _) = _
 rw [this]
 rfl
theorem q00y {n : St → Prop} {Q : Exit → St → Prop} {s : St} : qnx n Q .normal s = n s := rfl
theorem qbba {n : St → Prop} {Q : Exit → St → Prop} {s : St} : qnx n Q .ret s = Q .ret s := rfl
theorem q60 {n : St → Prop} {Q : Exit → St → Prop} {s : St} {i : Nat} : qnx n Q (.exit i) s = Q (.exit i) s := rfl
theorem qvw {i : Nat} {Q : Exit → St → Prop} {s : St} : qjx i Q .normal s = Q .normal s := rfl
theorem q00z {i : Nat} {Q : Exit → St → Prop} {s : St} : qjx i Q .ret s = Q .ret s := rfl
theorem qno {i j : Nat} {Q : Exit → St → Prop} {s : St} : qjx i Q (.exit j) s = (if j = i then Q .normal s else Q (.exit j) s) := rfl
theorem q000 {mv : Nat → List (Nat × TypeId × Nat)} {rs : List ResultVar} {r : O} {s : St} : qtd C mv rs r .normal s = qmf C mv rs r s := rfl
theorem qbbb {mv : Nat → List (Nat × TypeId × Nat)} {rs : List ResultVar} {r : O} {s : St} : qtd C mv rs r .ret s = qmf C mv rs r s := rfl
theorem qbfa {mv : Nat → List (Nat × TypeId × Nat)} {rs : List ResultVar} {r : O} {s : St} : qmf C mv rs r s = (match qz2 C s mv rs with
 | none => False
 | some (o, rd, tk) => (tk.filterMap id).Nodup ∧ ((tk.filterMap id).any fun i => rd.contains i) = false ∧ ole o r) := rfl
theorem qoi (d : D) : dle d d = True := eq_true (q09 d)
theorem qnf (l : List D) : dles l l = True := eq_true (q0k l)
theorem qbfb (d : O) : ole d d = True := eq_true (q0l d)
theorem qbfc {k : Nat} : resV C (mkS sl hp) (.tmp k) = aget sl k := rfl
theorem qbbc {k t : Nat} : resV C (mkS sl hp) (.cell k t) = (match aggT C.P t, qb4 C.P t, aget sl k with
 | some g, some n, some (.ptr id off) => (qib (mkS sl hp) id).bind fun c => ldV g n c off
 | _, _, _ => none) := rfl
end
end Go.Ev
namespace Go.Ev
def addT (T : FuncId → List O → Option (Prop × O)) (f : FuncId) (e : List O → Option (Prop × O)) : FuncId → List O → Option (Prop × O) := fun g args => if g = f then e args else T g args
structure TabOk (P : Program) (T : FuncId → List O → Option (Prop × O)) : Prop where
 t : ∀ f args p r, T f args = some (p, r) → p → Sem P f args r
 e : ∀ f args r, T f args = some r → qld P f
theorem TabOk.nil (P : Program) : TabOk P (fun _ _ => none) := ⟨fun _ _ _ _ h => (by cases h), fun _ _ _ h => (by cases h)⟩
theorem Tad {P : Program} {T : FuncId → List O → Option (Prop × O)} (h : TabOk P T) {f : FuncId} {e : List O → Option (Prop × O)} (he : qld P f) (hs : ∀ args p r, e args = some (p, r) → p → Sem P f args r) : TabOk P (addT T f e) := by
 refine ⟨fun g args p r hg hp => ?_, fun g args r hg => ?_⟩
 ·unfold addT at hg
  split at hg
  ·rename_i e'; subst e'; exact hs args p r hg hp
  ·exact h.t g args p r hg hp
 ·unfold addT at hg
  split at hg
  ·rename_i e'; subst e'; exact he
  ·exact h.e g args r hg
theorem q0t {C : Cfg} (h : TabOk C.P C.T) (hm : C.P.follows .mixedOrders = true) (ht : C.ti = fun _ => none := by rfl) : COk C := ⟨⟨h.t, fun f sz g e => by rw [ht] at e; cases e⟩, ⟨h.e, fun f x e => by rw [ht] at e; cases e⟩, hm⟩
def qvx : Code → Option Nat
 | .region n _ _ => some n
 | .seq x _ => qvx x
 | .block _ c => qvx c
 | .loop c => qvx c
 | _ => none
structure LoopNext (n : Nat) (C : Cfg) {ι : Type} (I : ι → St) (J : ι → Prop) (μ : ι → Nat) (i : ι) (s : St) : Prop where
 h : ∃ j, J j ∧ μ j < μ i ∧ Sub C s (I j)
theorem Wnx (n : Nat) {C : Cfg} {ι : Type} {I : ι → St} {J : ι → Prop} {μ : ι → Nat} {i : ι} {s : St} (j : ι) (h1 : J j) (h2 : μ j < μ i) (h3 : Sub C s (I j)) : LoopNext n C I J μ i s := ⟨⟨j, h1, h2, h3⟩⟩
theorem Wlp {C : Cfg} {s : St} {Q : Exit → St → Prop} {ι : Type} (n : Nat) {c : Code} (_ : qvx c = some n) (I : ι → St) (J : ι → Prop) (μ : ι → Nat) (i0 : ι) (hj : J i0) (h0 : Sub C s (I i0))
 (round : ∀ i, J i → AW C c (I i) (qnx (LoopNext n C I J μ i) Q)) : AW C (.loop c) s Q := AW.loop I J μ i0 hj h0 fun i hi => (round i hi).mono fun e s h => by
 cases e with
 | normal => exact LoopNext.h h
 | _ => exact h
def qbfd : Code → Option Nat
 | .region n _ _ => some n
 | _ => none
structure AWh (C : Cfg) (c : Code) (s : St) (Q : Exit → St → Prop) : Prop where
 h : AW C c s Q
theorem Wat {C : Cfg} {s : St} {Q : Exit → St → Prop} (n : Nat) {c : Code} (_ : qbfd c = some n) (h : AWh C c s Q) : AW C c s Q := h.h
mutual
def rhoV : V → V → List (Nat × Nat)
 | .ptr a _, .ptr b _ => [(b, a)]
 | .row a _ _ _, .row b _ _ _ => [(b, a)]
 | .rp a _ _ _, .rp b _ _ _ => [(b, a)]
 | .mref a, .mref b => [(b, a)]
 | .agg l, .agg m => qlm l m
 | .tup l, .tup m => qlm l m
 | .fn _ l, .fn _ m => qlm l m
 | .opt _ x, .opt _ y => rhoV x y
 | _, _ => []
def qlm : List V → List V → List (Nat × Nat)
 | x :: l, y :: m => rhoV x y ++ qlm l m
 | _, _ => []
end
def q61 (sl : List (Nat × V)) : List (Nat × V) → List (Nat × Nat)
 | [] => []
 | (i, y) :: r => (match aget sl i with | some x => rhoV x y | none => []) ++ q61 sl r
def rhoO : Option Obj' → Option Obj' → List (Nat × Nat)
 | some (.box _ c), some (.box _ c') => qlm c c'
 | some (.mp _ _ v), some (.mp _ _ v') => qlm v v'
 | _, _ => []
def q62 (hp hp' : List (Nat × HS)) : List (Nat × Nat) → List (Nat × Nat)
 | [] => []
 | (b, a) :: r => (match aget hp a, aget hp' b with | some g, some g' => rhoO g.obj? g'.obj? | _, _ => []) ++ q62 hp hp' r
def qvy : List (Nat × Nat) → List (Nat × Nat)
 | [] => []
 | (b, a) :: r => match aget r b with | some _ => qvy r | none => (b, a) :: qvy r
def rho1 (hp hp' : List (Nat × HS)) (l : List (Nat × Nat)) : List (Nat × Nat) := l ++ q62 hp hp' l
theorem q0j {C : Cfg} {sl sl' : List (Nat × V)} {hp hp' : List (Nat × HS)} (h : ∀ ρ, qvy (rho1 hp hp' (qvy (rho1 hp hp' (q61 sl sl')))) = ρ → qki (aget ρ) (nfL hp') sl sl' ∧ qtb (aget ρ) (nfL hp') hp hp' ∧ (ρ.map (·.2)).Nodup ∧ ∀ p ∈ C.pins, aget ρ p = some p ∧ nfL hp' p) :
 Sub C (mkS sl hp) (mkS sl' hp') := by
 obtain ⟨h1, h2, h3, h4⟩ := h _ rfl
 exact qbqw _ h1 h2 h3 h4
theorem Wrn {C : Cfg} {sl : List (Nat × V)} {hp : List (Nat × HS)} {Q : Exit → St → Prop} (hC : COk C) {id : Nat} {l : List Oper} (h : ∀ K : St → Prop, K = Q .normal → erun C l.toArray K l sl hp) :
 AW C (.region id l.toArray false) (mkS sl hp) Q := AW.run hC (h _ rfl)
theorem Wdr {C : Cfg} {sl : List (Nat × V)} {hp : List (Nat × HS)} {Q : Exit → St → Prop} (hC : COk C) {id : Nat} {l : List Oper} (hs : qr7 l.toArray = true) (h : ∀ K : St → Prop, K = Q .normal → qqk C K l.toArray l sl hp) :
 AW C (.region id l.toArray true) (mkS sl hp) Q := AW.drawL hC hs (h _ rfl)
theorem Whr {C : Cfg} {sl : List (Nat × V)} {hp : List (Nat × HS)} {Q : Exit → St → Prop} (hC : COk C) {id : Nat} {l : List Oper} (h : ∀ K : St → Prop, K = Q .normal → erun C l.toArray K l sl hp) :
 AWh C (.region id l.toArray false) (mkS sl hp) Q := ⟨Wrn hC h⟩
theorem Whd {C : Cfg} {sl : List (Nat × V)} {hp : List (Nat × HS)} {Q : Exit → St → Prop} (hC : COk C) {id : Nat} {l : List Oper} (hs : qr7 l.toArray = true) (h : ∀ K : St → Prop, K = Q .normal → qqk C K l.toArray l sl hp) :
 AWh C (.region id l.toArray true) (mkS sl hp) Q := ⟨Wdr hC hs h⟩
theorem q0u {C : Cfg} {ops : Array Oper} {K : St → Prop} {l : List Oper} {sl : List (Nat × V)} {hp : List (Nat × HS)} (h : erun C ops K l sl hp) : erun C ops K l sl hp := h
theorem qbu {C : Cfg} {ops : Array Oper} {K : St → Prop} {l : List Oper} {sl : List (Nat × V)} {hp : List (Nat × HS)} (h : qqk C K ops l sl hp) : qqk C K ops l sl hp := h
theorem q0m {C : Cfg} {mv : Nat → List (Nat × TypeId × Nat)} {rs : List ResultVar} {r : O} {s : St} (h : qmf C mv rs r s) : qmf C mv rs r s := h
theorem qbh {u : List (Nat × Nat)} {f : List (List Nat × List Nat)} {p : Prop} (h1 : qnc u f = true) (h2 : p) : qnc u f = true ∧ p := ⟨h1, h2⟩
theorem q0n {n : St → Prop} {Q : Exit → St → Prop} {s : St} (h : n s) : qnx n Q .normal s := h
theorem q0o {n : St → Prop} {Q : Exit → St → Prop} {s : St} (h : Q .ret s) : qnx n Q .ret s := h
theorem q0p {n : St → Prop} {Q : Exit → St → Prop} {s : St} {i : Nat} (h : Q (.exit i) s) : qnx n Q (.exit i) s := h
theorem q0d {i : Nat} {Q : Exit → St → Prop} {s : St} (h : Q .normal s) : qjx i Q .normal s := h
theorem q0e {i : Nat} {Q : Exit → St → Prop} {s : St} (h : Q .ret s) : qjx i Q .ret s := h
theorem q0f {i : Nat} {Q : Exit → St → Prop} {s : St} (h : Q .normal s) : qjx i Q (.exit i) s := by
 rw [qno, if_pos rfl]; exact h
theorem q0b {i j : Nat} {Q : Exit → St → Prop} {s : St} (hn : decide (j = i) = false) (h : Q (.exit j) s) : qjx i Q (.exit j) s := by
 rw [qno, if_neg (of_decide_eq_false hn)]; exact h
theorem q0q {C : Cfg} {mv : Nat → List (Nat × TypeId × Nat)} {rs : List ResultVar} {r : O} {s : St} (h : qmf C mv rs r s) : qtd C mv rs r .ret s := h
theorem q0r {C : Cfg} {mv : Nat → List (Nat × TypeId × Nat)} {rs : List ResultVar} {r : O} {s : St} (h : qmf C mv rs r s) : qtd C mv rs r .normal s := h
theorem q0g {C : Cfg} {f : FuncId} {fn : Func} {c : Code} {args : List O} {r : O} (mv : Nat → List (Nat × TypeId × Nat)) {rs : List ResultVar} (hf : C.P.funcs[f]? = some fn) (hb : fn.body = some c) (hr : fn.results.toList = rs) (hN : fn.ntmps = C.N)
 (hn : Nat.ble args.length fn.ntmps = true) (hok : args.all qs9 = true) (hpins : C.pins = qjg 0 args) (h : AW C c (mkS (qmq 0 args) (qhr 0 args)) (qtd C mv rs r)) : Sem C.P f args r :=
 qbax mv hf hb hN (Nat.le_of_ble_eq_true hn) hok hpins (hr ▸ h)
theorem w64 {n : Int} (h1 : -9223372036854775808 ≤ n) (h2 : n ≤ 9223372036854775807) : IntKind.i64.wrap n = n := by
 unfold IntKind.wrap
 simp only [IntKind.bits, IntKind.signed, Bool.true_and]
 split <;> rename_i h <;> simp only [decide_eq_true_eq, ge_iff_le] at h <;> omega
theorem wu8 {n : Int} (h1 : 0 ≤ n) (h2 : n ≤ 255) : IntKind.u8.wrap n = n := by
 simp only [IntKind.wrap, IntKind.bits, IntKind.signed, Bool.false_and]
 rw [if_neg (by simp)]
 omega
def eqB {α : Type} [DecidableEq α] (a b : α) : Bool := decide (a = b)
theorem qbjb {α : Type} [DecidableEq α] (a b : α) : (eqB a b = true) = (a = b) := by simp [eqB]
theorem qbjc {α : Type} [DecidableEq α] (a b : α) : (eqB a b = false) = ¬a = b := by simp [eqB]
theorem qbjd {p : Prop} {inst : Decidable p} : (@decide p inst = false) = ¬p := by simp
theorem qbje {p : Prop} {inst : Decidable p} : (@decide p inst = true) = p := by simp
theorem qd2 {α : Type} {l : List α} {i : Nat} (z : α) (h : i < l.length) : l.drop i = l.getD i z :: l.drop (i + 1) := by
 rw [List.drop_eq_getElem_cons h]
 simp [List.getD, h]
theorem qdx {α : Type} {l : List α} {i : Nat} (z : α) (h : i < l.length) : l.take (i + 1) = l.take i ++ [l.getD i z] := by
 rw [List.take_add_one]
 simp [List.getD, h]
end Go.Ev
