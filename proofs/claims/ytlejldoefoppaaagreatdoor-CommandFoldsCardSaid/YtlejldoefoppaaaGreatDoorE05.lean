/- Tools and contracts under the laws of this seat: DevRun, DevRunA, DevRunF, DevRunB. -/
import Derived.Test.YtlejldoefoppaaaGreatDoorE02
import Derived.Test.YtlejldoefoppaaaGreatDoorE04
import Derived.LoopN
set_option linter.unusedVariables false
set_option linter.unusedSimpArgs false
namespace Go.Ev
def qtx (sz : Nat) (d : D) : Bool := decide (d.cells.length = sz) && d.cells.all D.one
theorem qvj {sz : Nat} {d : D} (h : qtx sz d = true) : d.fits sz := by
 unfold qtx at h
 rw [Bool.and_eq_true, decide_eq_true_eq, List.all_eq_true] at h
 exact h
def inB (i : Int) (n : Nat) : Bool := decide (0 ≤ i) && decide (i < (n : Int))
theorem qvk {i : Int} {n : Nat} (h : inB i n = true) : 0 ≤ i ∧ i < (n : Int) := by
 unfold inB at h
 rw [Bool.and_eq_true, decide_eq_true_eq, decide_eq_true_eq] at h
 exact h
def qh2 (l h : Int) (n : Nat) : Bool := decide (0 ≤ l) && decide (l ≤ h) && decide (h ≤ (n : Int))
theorem ql9 {l h : Int} {n : Nat} (hh : qh2 l h n = true) : 0 ≤ l ∧ l ≤ h ∧ h ≤ (n : Int) := by
 unfold qh2 at hh
 simp only [Bool.and_eq_true, decide_eq_true_eq] at hh
 exact ⟨hh.1.1, hh.1.2, hh.2⟩
def qty (n by_ : Nat) : Bool := Nat.ble (n * by_) 140737488355328 && Nat.ble n 9223372036854775807
theorem qvl {n by_ : Nat} (h : qty n by_ = true) : n * by_ ≤ 140737488355328 ∧ n ≤ 9223372036854775807 := by
 unfold qty at h
 rw [Bool.and_eq_true] at h
 exact ⟨Nat.le_of_ble_eq_true h.1, Nat.le_of_ble_eq_true h.2⟩
def dEq : D → D → Bool
 | .b x, .b y => x == y
 | .i k x, .i k' y => decide (k = k') && decide (x = y)
 | .s x, .s y => decide (x.data.toList = y.data.toList)
 | .nil, .nil => true
 | .np, .np => true
 | _, _ => false
theorem q93 : ∀ {a b : D}, dEq a b = true → a = b
 | .b x, .b y, h => by simp [dEq] at h; rw [h]
 | .i k x, .i k' y, h => by simp [dEq] at h; rw [h.1, h.2]
 | .s ⟨⟨x⟩⟩, .s ⟨⟨y⟩⟩, h => by simp [dEq] at h; rw [h]
 | .nil, .nil, _ => rfl
 | .np, .np, _ => rfl
def dsEq : List D → List D → Bool
 | [], [] => true
 | a :: l, b :: m => dEq a b && dsEq l m
 | _, _ => false
theorem qxu : ∀ {a b : List D}, dsEq a b = true → a = b
 | [], [], _ => rfl
 | a :: l, b :: m, h => by
   unfold dsEq at h
   rw [Bool.and_eq_true] at h
   rw [q93 h.1, qxu h.2]
def D.all1 (d : D) (z : List D) : Bool := dsEq d.cells z && z.all D.one
def appB (C : Cfg) (s : St) (ts : TypeId) (x y : V) : Bool :=
 match qcj C.P ts with
 | none => false
 | some e => match q0u C.P e, qb1 C.P e with
   | some sz, some by_ => match qfj s sz y with
     | none => false
     | some (ys, _) => match x with
       | .d .nil => qty ys.length by_
       | .row id _ _ n => match qb5 s id with
         | some (_, _, _, l) => if n = l.length then qty (l.length + ys.length) by_ else Nat.ble (n + ys.length) l.length
         | none => false
       | _ => false
   | _, _ => false
def okB (C : Cfg) (o : Oper) (s : St) : Bool :=
 match o.op with
 | .pick c a b => match (s.val c).bind optB with
   | some (g0, true) => g0 && (match (s.val a).bind optB with | some (g, _) => g | none => false)
   | some (g0, false) => g0 && (match (s.val b).bind optB with | some (g, _) => g | none => false)
   | none => false
 | .load _ x => match s.val x with
   | some (.rp id _ j _) => match qbk s id with
     | some (_, _, _, l) => Nat.blt j l.length
     | none => false
   | _ => true
 | .store _ x _ => match s.val x with
   | some (.rp id _ j _) => match s.hp id with
     | .live (.row _ _ _ l) => Nat.blt j l.length
     | _ => false
   | _ => true
 | .binOp op _ x y _ => match s.val x, s.val y with
   | some (.d (.i _ _)), some (.d (.i _ b)) => match op with
     | .quo | .rem => !decide (b = 0)
     | .shl | .shr => decide (0 ≤ b)
     | _ => true
   | some (.d (.s a)), some (.d (.s b)) => match op with
     | .add => Nat.ble (a.size + b.size) 9223372036854775807
     | _ => true
   | _, _ => true
 | .indexAddr _ x y => match s.val x, s.val y with
   | some (.d (.sl _ l)), some (.d (.i _ i)) => inB i l.length
   | some (.row _ _ _ n), some (.d (.i _ i)) => inB i n
   | _, _ => false
 | .index _ x y => match s.val x, s.val y with
   | some (.d (.s b)), some (.d (.i _ i)) => inB i b.size
   | _, _ => false
 | .buildSlice t _ parts => match qcj C.P t with
   | some e => match q0u C.P e, vals s (parts.toList.map (·.2)) with
     | some sz, some vs => match toDs (toD3 s) vs with
       | some (ds, _) => ds.all (qtx sz)
       | none => false
     | _, _ => false
   | none => false
 | .slice _ x lo hi mx => match mx with
   | some m => match s.val x, qi7 (s.val m) with
     | some (.d (.sl _ ds)), some m => match qbc s lo 0, qbc s hi ds.length with
       | some l, some h => decide (0 ≤ l) && decide (l ≤ h) && decide (h ≤ m) && decide (m ≤ (ds.length : Int))
       | _, _ => false
     | some (.row id _ off k), some m => match qbk s id, qbc s lo 0, qbc s hi k with
       | some (_, _, _, ds), some l, some h => decide (0 ≤ l) && decide (l ≤ h) && decide (h ≤ m) && decide ((off : Int) + m ≤ (ds.length : Int))
       | _, _, _ => false
     | _, _ => false
   | none => match s.val x with
     | some (.d (.s b)) => match qbc s lo 0, qbc s hi b.size with
       | some l, some h => qh2 l h b.size
       | _, _ => false
     | some (.d .nil) => match qbc s lo 0, qbc s hi (0 : Nat) with
       | some l, some h => qh2 l h 0
       | _, _ => false
     | some (.d (.sl _ ds)) => match qbc s lo 0, qbc s hi ds.length with
       | some l, some h => qh2 l h ds.length
       | _, _ => false
     | some (.row id _ off k) => match qbk s id, qbc s lo 0, qbc s hi k with
       | some (_, _, _, ds), some l, some h => decide (0 ≤ l) && decide (l ≤ h) && decide ((off : Int) + h ≤ (ds.length : Int))
       | _, _, _ => false
     | _ => false
 | .lookup t x y cm => match mapT C.P t, s.val y, (s.val x).bind (qhn s) with
   | some (kt, et), some (.d k), some (ks, vs, _) => ks.all (isK C.P kt) && isK C.P kt k && (cm || (match qdb C.P et with | some z => vs.all (sh1 z) | none => false))
   | _, _, _ => false
 | .mapUpdate t x y _ => match mapT C.P t, s.val x, s.val y with
   | some (kt, _), some (.mref id), some (.d k) => match s.hp id with
     | .live (.mp _ ks _) => ks.all (isK C.P kt) && isK C.P kt k
     | _ => false
   | _, _, _ => false
 | .convert src dst x => match ckT C.P src, ckT C.P dst with
   | .bytes, .str => match (s.val x).bind (qfj s 1) with
     | some (ds, _) => ds.all isU8
     | none => false
   | _, _ => true
 | .makeSlice t x y => match qcj C.P t, s.val x, s.val y with
   | some e, some (.d (.i _ a)), some (.d (.i _ b)) => match qb1 C.P e, qbb C.P e with
     | some by_, some z => decide (0 ≤ a) && decide (a = b) && decide (a * (by_ : Int) ≤ 140737488355328) && decide (a ≤ 4611686018427387904) && D.all1 (zD C.P e) z
     | _, _ => false
   | _, _, _ => false
 | .call c => match c.callee with
   | .builtin b => match b, c.argTypes.toList, vals s c.args.toList with
     | .append, t :: _, some [x, y] => appB C s t x y
     | .append, _, _ => false
     | .clear, _, some [.row id _ off n] => match qb5 s id with
       | some (_, _, _, l) => Nat.ble (off + n) l.length
       | none => false
     | .clear, _, _ => false
     | _, _, _ => true
   | _ => true
 | _ => true
def Free (C : Cfg) : Prop := (∀ f os p r, C.T f os = some (p, r) → p) ∧ C.ti = fun _ => none
theorem qvm {C : Cfg} {q : Bool} {s : St} {dst : Option Tmp} {f : FuncId} {vs : List V} {r : Res} (hF : Free C) (h : qbt C q s dst f vs = some r) : r.ok := by
 unfold qbt at h
 rw [hF.2] at h
 simp only at h
 unfold qcw at h
 split at h
 ·cases h
 split at h
 ·cases h
 rename_i p r' hT
 have hp := hF.1 _ _ _ _ hT
 simp only at h
 split at h
 ·cases h
 split at h
 ·split at h
  ·cases h; exact hp
  ·cases h
 ·split at h
  ·cases h
  split at h
  ·cases h; exact hp
  ·split at h
   ·split at h
    ·cases h; exact hp
    ·cases h
   ·cases h
theorem qcz {v : V} {r : Res} (h : q01 v = some r) : r.ok := by cases h; trivial
theorem qji {x : Option V} {r : Res} (h : x.bind q01 = some r) : r.ok := by
 obtain ⟨v, _, h⟩ := Option.bind_eq_some_iff.1 h
 exact qcz h
theorem qh3 {s : St} {dst : Option Tmp} {ok : Prop} {o : Obj'} {v : V} {r : Res} (h : newObj s dst ok o v = some r) (hk : ok) : r.ok := by
 unfold newObj at h
 split at h
 ·split at h
  ·cases h; exact hk
  ·cases h
 ·cases h
theorem qdl {ok : Prop} {v : V} {r : Res} (h : qb2 ok v = some r) (hk : ok) : r.ok := by cases h; exact hk
theorem q7d {C : Cfg} {s : St} {dst : Option Tmp} {ts tx : TypeId} {x y : V} {r : Res} (hb : appB C s ts x y = true) (h : qd8 C s dst ts tx x y = some r) : r.ok := by
 unfold qd8 at h
 unfold appB at hb
 split at h
 ·cases h
 rename_i e he
 rw [he] at hb
 simp only at hb
 split at h
 ·rename_i sz by_ zl h1 h2 h3 h4
  simp only [h1, h2] at hb
  split at h
  ·cases h
  split at h
  ·cases h
  rename_i ys rd hy
  simp only [hy] at hb
  split at h
  ·simp only at hb
   obtain ⟨r', h5, rfl⟩ := Option.map_eq_some_iff.1 h
   exact qh3 (r := r') h5 (qvl hb)
  ·simp only at hb
   split at h
   ·cases h
   rename_i l hl
   simp only [hl] at hb
   split at h
   ·split at h
    ·rename_i hn
     rw [if_pos hn] at hb
     split at h
     ·cases h
     obtain ⟨r', h5, rfl⟩ := Option.map_eq_some_iff.1 h
     exact qh3 (r := r') h5 (qvl hb)
    ·rename_i hn
     rw [if_neg hn] at hb
     cases h
     exact Nat.le_of_ble_eq_true hb
   ·cases h
  ·cases h
 ·cases h
theorem q1q {C : Cfg} {q : Bool} {o : Oper} {s : St} {r : Res} (hF : Free C) (hb : okB C o s = true) (h : aop C q o s = some r) : r.ok := by
 unfold aop at h
 unfold okB at hb
 cases ho : o.op with
 | move x => rw [ho] at h; exact qji h
 | assign x => rw [ho] at h; exact qji h
 | pick c a b =>
   rw [ho] at h hb
   simp only at h hb
   split at h
   ·cases h
   rename_i g0 x hc
   simp only [hc] at hb
   cases x with
   | true =>
     simp only [Bool.and_eq_true] at hb
     split at h
     ·rename_i h1 h2
      simp only [h1] at hb
      exact qdl h ⟨hb.1, fun _ => hb.2, fun e => (by cases e)⟩
     ·obtain ⟨p, hp, h⟩ := Option.bind_eq_some_iff.1 h
      rw [hp] at hb
      exact qdl h hb
   | false =>
     simp only [Bool.and_eq_true] at hb
     split at h
     ·rename_i h1 h2
      simp only [h2] at hb
      exact qdl h ⟨hb.1, fun e => (by cases e), fun _ => hb.2⟩
     ·obtain ⟨p, hp, h⟩ := Option.bind_eq_some_iff.1 h
      rw [hp] at hb
      exact qdl h hb
 | alloc t =>
   rw [ho] at h
   simp only at h
   split at h
   ·exact qh3 h trivial
   ·cases h
 | box t x =>
   rw [ho] at h
   simp only at h
   split at h
   ·obtain ⟨c, _, h⟩ := Option.bind_eq_some_iff.1 h
    exact qh3 h trivial
   ·cases h
 | load t x =>
   rw [ho] at h hb
   simp only at h hb
   split at h
   ·rename_i g n p h1 h2 h3
    simp only [h3] at hb
    unfold loadAt at h
    split at h
    ·split at h
     ·obtain ⟨v, _, rfl⟩ := Option.map_eq_some_iff.1 h; trivial
     ·cases h
    ·simp only at hb
     split at h
     ·rename_i hr
      simp only [hr] at hb
      split at h
      ·cases h; exact Nat.le_of_ble_eq_true hb
      ·cases h
     ·cases h
    ·obtain ⟨v, _, rfl⟩ := Option.map_eq_some_iff.1 h; trivial
    ·cases h
   ·cases h
 | store t x y =>
   rw [ho] at h hb
   simp only at h hb
   split at h
   ·rename_i n p v h1 h2 h3
    simp only [h2] at hb
    unfold storeAt at h
    split at h
    ·cases h
    split at h
    ·cases h
    split at h
    ·split at h
     ·split at h
      ·cases h; trivial
      ·cases h
     ·cases h
    ·simp only at hb
     split at h
     ·rename_i hr _
      simp only [hr] at hb
      split at h
      ·cases h; exact Nat.le_of_ble_eq_true hb
      ·cases h
     ·rename_i hr _
      simp only [hr] at hb
      split at h
      ·cases h; exact Nat.le_of_ble_eq_true hb
      ·cases h
     ·cases h
    ·cases h
   ·cases h
 | nilCheck x =>
   rw [ho] at h
   simp only at h
   split at h
   ·split at h <;> first | exact qcz h | cases h
   ·cases h
 | binOp op t x y ty =>
   rw [ho] at h hb
   simp only at h hb
   split at h
   ·rename_i a b h1 h2
    simp only [h1, h2] at hb
    unfold qf2 at h
    split at h
    ·split at h
     ·obtain ⟨ks, _, h⟩ := Option.bind_eq_some_iff.1 h
      obtain ⟨c, _, h⟩ := Option.bind_eq_some_iff.1 h
      unfold qiv at h
      split at h <;> first | exact qcz h | cases h
     ·cases h
    ·split at h
     ·unfold qiv at h
      split at h <;> first | exact qcz h | cases h
     ·cases h
    ·rename_i k i k' j
     obtain ⟨p, hp, h⟩ := Option.bind_eq_some_iff.1 h
     refine qdl h ?_
     unfold binD at hp
     simp only at hp
     split at hp
     ·unfold qln at hp
      split at hp
      ·cases hp; simpa using hb
      ·cases hp; simpa using hb
      ·cases hp
     ·split at hp
      ·unfold qlm at hp
       split at hp <;> first | (cases hp; trivial) | (cases hp; simpa using hb) | cases hp
      ·cases hp
    ·obtain ⟨p, hp, h⟩ := Option.bind_eq_some_iff.1 h
     refine qdl h ?_
     unfold binD at hp
     simp only at hp
     unfold qlo at hp
     split at hp <;> first | (cases hp; trivial) | (cases hp; exact Nat.le_of_ble_eq_true hb) | cases hp
    ·split at h
     ·split at h
      ·cases h; trivial
      ·cases h; trivial
      ·cases h
     ·cases h
    ·split at h
     ·split at h
      ·cases h; trivial
      ·cases h; trivial
      ·cases h
     ·cases h
    ·cases h
   ·cases h
 | unOp op t x =>
   rw [ho] at h
   simp only at h
   split at h
   ·obtain ⟨d, _, h⟩ := Option.bind_eq_some_iff.1 h
    exact qcz h
   ·split at h
    ·exact qcz h
    ·cases h
   ·split at h
    ·exact qcz h
    ·cases h
   ·cases h
 | fieldAddr t x f =>
   rw [ho] at h
   simp only at h
   split at h <;> first | exact qcz h | cases h
 | field t x f =>
   rw [ho] at h
   simp only at h
   split at h <;> first | exact qji h | cases h
 | indexAddr t x y =>
   rw [ho] at h hb
   simp only at h hb
   split at h
   ·rename_i h1 h2 h3
    simp only [h2, h3] at hb
    split at h
    ·exact qdl h (qvk hb)
    ·cases h
   ·rename_i h1 h2 h3
    simp only [h2, h3] at hb
    split at h
    ·exact qdl h (qvk hb)
    ·cases h
   ·cases h
 | index t x y =>
   rw [ho] at h hb
   simp only at h hb
   split at h
   ·rename_i h1 h2 h3
    simp only [h2, h3] at hb
    exact qdl h (qvk hb)
   ·cases h
 | build t parts =>
   rw [ho] at h
   simp only at h
   split at h
   ·obtain ⟨c, _, h⟩ := Option.bind_eq_some_iff.1 h
    exact qcz h
   ·cases h
 | buildSlice t n parts =>
   rw [ho] at h hb
   simp only at h hb
   split at h
   ·rename_i e he
    simp only [he] at hb
    split at h
    ·rename_i sz z vs h1 h2 h3
     simp only [h1, h3] at hb
     split at h
     ·rename_i ds h4
      simp only [h4] at hb
      split at h
      ·exact qh3 h fun d hd => qvj (List.all_eq_true.1 hb d hd)
      ·cases h
     ·rename_i ds k is h4
      simp only [h4] at hb
      split at h
      ·obtain ⟨r0, h0, rfl⟩ := Option.map_eq_some_iff.1 h
       exact (qh3 (r := r0) h0 fun d hd => qvj (List.all_eq_true.1 hb d hd) : r0.ok)
      ·cases h
     ·cases h
    ·cases h
   ·cases h
 | slice t x lo hi mx =>
   rw [ho] at h hb
   simp only at h hb
   cases mx with
   | some mo =>
     simp only at hb
     split at h
     ·rename_i b h1 h2
      simp only [h2] at hb
      cases hb
     ·rename_i e v h1 h2
      simp only [h2] at hb
      split at h
      ·rename_i n h3
       unfold qeo at h
       split at h
       ·cases hb
       ·split at h
        ·split at h
         ·rename_i h6; cases h6
         ·rename_i h4 h5 h6
          cases h6
          split at h
          ·rename_i h7
           simp only [h7, h4, h5, Bool.and_eq_true, decide_eq_true_eq] at hb
           split at h
           ·cases h; exact ⟨hb.1.1.1, hb.1.1.2, hb.1.2, hb.2⟩
           ·cases h
          ·cases h
         ·cases h
        ·cases h
       ·split at h
        ·rename_i h6; cases h6
        ·rename_i h4 h5 h6 h8
         cases h8
         split at h
         ·rename_i h7
          simp only [h7, h4, h5, h6, Bool.and_eq_true, decide_eq_true_eq] at hb
          split at h
          ·cases h; exact ⟨hb.1.1.1, hb.1.1.2, hb.1.2, hb.2⟩
          ·cases h
         ·cases h
        ·cases h
       ·cases h
      ·cases h
     ·cases h
   | none =>
   simp only at hb
   split at h
   ·rename_i b h1 h2
    simp only [h2] at hb
    unfold qd7 at h
    split at h
    ·rename_i h3 h4 _
     simp only [h3, h4] at hb
     exact qdl h (ql9 hb)
    ·cases h
   ·rename_i e v h1 h2
    simp only [h2] at hb
    split at h
    ·rename_i n h3
     unfold qeo at h
     split at h
     ·simp only at hb
      split at h
      ·rename_i h4 h5 _
       simp only [h4, h5] at hb
       exact qdl h (by have := ql9 hb; simpa using this)
      ·cases h
     ·simp only at hb
      split at h
      ·split at h
       ·rename_i h4 h5 _
        simp only [h4, h5] at hb
        exact qdl h (ql9 hb)
       ·rename_i h6
        cases h6
       ·cases h
      ·cases h
     ·simp only at hb
      split at h
      ·rename_i h4 h5 h6 _
       simp only [h4, h5, h6, Bool.and_eq_true, decide_eq_true_eq] at hb
       split at h
       ·cases h; exact ⟨hb.1.1, hb.1.2, hb.2⟩
       ·cases h
      ·rename_i h6
       cases h6
      ·cases h
     ·cases h
    ·cases h
   ·cases h
 | extract x i =>
   rw [ho] at h
   simp only at h
   split at h
   ·exact qji h
   ·cases h
 | makeFunc fn first caps =>
   rw [ho] at h
   cases fn with
   | func f =>
     simp only at h
     split at h
     ·split at h
      ·exact qcz h
      ·cases h
     ·cases h
   | _ => cases h
 | makeMap t rs =>
   rw [ho] at h
   cases rs with
   | none => exact qh3 h trivial
   | some _ => cases h
 | lookup t x y cm =>
   rw [ho] at h hb
   simp only at h hb
   split at h
   ·rename_i m k h1 h2
    unfold qds at h
    split at h
    ·rename_i kt et kd h3
     split at h
     ·rename_i z0 ks vs rd h4 h5
      simp only [h3, h2, h1, Option.bind_some, h5, Bool.and_eq_true] at hb
      split at h
      ·split at h
       ·cases h
       ·cases h; exact ⟨List.all_eq_true.1 hb.1.1, hb.1.2⟩
      ·rename_i hcm
       split at h
       ·rename_i z h6
        rw [h6] at hb
        split at h
        ·cases h
         have h7 := hb.2
         rw [show cm = false from Bool.eq_false_iff.2 hcm, Bool.false_or] at h7
         exact ⟨List.all_eq_true.1 hb.1.1, hb.1.2, List.all_eq_true.1 h7⟩
        ·cases h
       ·cases h
     ·cases h
    ·cases h
   ·cases h
 | mapUpdate t x y z =>
   rw [ho] at h hb
   simp only at h hb
   split at h
   ·rename_i m k v h1 h2 h3
    unfold qcg at h
    split at h
    ·rename_i kt et id kd h4
     simp only [h4, h1, h2] at hb
     split at h
     ·rename_i h5
      simp only [h5, Bool.and_eq_true] at hb
      cases h
      exact ⟨List.all_eq_true.1 hb.1, hb.2⟩
     ·cases h
    ·cases h
   ·cases h
 | convert src dst x =>
   rw [ho] at h hb
   simp only at h hb
   split at h
   ·rename_i v h1
    unfold qfb at h
    split at h
    ·exact qcz h
    ·exact qcz h
    ·exact qcz h
    ·rename_i h2 h3
     simp only [h2, h3, h1, Option.bind_some] at hb
     split at h
     ·rename_i h4
      simp only [h4] at hb
      cases h; exact hb
     ·cases h
    ·cases h
   ·cases h
 | makeSlice t x y =>
   rw [ho] at h hb
   simp only at h hb
   split at h
   ·rename_i n c h1 h2
    unfold qfc at h
    split at h
    ·rename_i e a b h3
     simp only [h3, h1, h2] at hb
     split at h
     ·rename_i sz by_ z h4 h5 h6
      simp only [h5, h6, Bool.and_eq_true, decide_eq_true_eq] at hb
      obtain ⟨⟨⟨⟨b1, b2⟩, b3⟩, b4⟩, b5⟩ := hb
      unfold D.all1 at b5
      rw [Bool.and_eq_true] at b5
      split at h
      ·exact qh3 h ⟨b1, b2, b3, b4, qxu b5.1, b5.2⟩
      ·cases h
     ·cases h
    ·cases h
   ·cases h
 | call c =>
   rw [ho] at h hb
   simp only at h hb
   split at h
   ·cases h
   rename_i vs hvs
   split at h
   ·rename_i b hc
    rw [hc] at hb
    simp only [hvs] at hb
    unfold qep at h
    split at h
    ·split at h
     ·exact qcz h
     ·split at h
      ·cases h; trivial
      ·cases h
    ·rename_i h1
     rw [h1] at hb
     exact q7d hb h
    ·rename_i h1
     split at h
     ·simp only at hb
      split at h
      ·rename_i h2 h3 h4
       simp only [h2] at hb
       split at h
       ·cases h; exact Nat.le_of_ble_eq_true hb
       ·cases h
      ·cases h
     ·cases h
    ·split at h
     ·exact qcz h
     ·cases h
    ·split at h
     ·exact qcz h
     ·cases h
    ·cases h
   ·split at h
    ·exact qvm hF h
    ·exact qvm hF h
    ·cases h
   ·cases h
 | _ => rw [ho] at h; cases h
end Go.Ev
namespace Go.Ev
mutual
def renV (π : Nat → Nat) : V → V
 | .d x => .d x
 | .agg l => .agg (qf8 π l)
 | .ptr i o => .ptr (π i) o
 | .row i z o n => .row (π i) z o n
 | .rp i z j o => .rp (π i) z j o
 | .fn f l => .fn f (qf8 π l)
 | .tup l => .tup (qf8 π l)
 | .opt g x => .opt g (renV π x)
 | .ub x => .ub x
 | .nb x => .nb x
 | .mref i => .mref (π i)
def qf8 (π : Nat → Nat) : List V → List V
 | [] => []
 | x :: l => renV π x :: qf8 π l
end
theorem qgq (π : Nat → Nat) : ∀ (l : List V) (j : Nat), (qf8 π l)[j]? = (l[j]?).map (renV π)
 | [], j => by simp [qf8]
 | x :: l, 0 => by simp [qf8]
 | x :: l, j + 1 => by simp [qf8, qgq π l j]
theorem qgr (π : Nat → Nat) : ∀ (l : List V), (qf8 π l).length = l.length
 | [] => rfl
 | x :: l => by simp [qf8, qgr π l]
def renO (π : Nat → Nat) : Obj' → Obj'
 | .box t c => .box t (qf8 π c)
 | .row t z b l => .row t z b l
 | .mp t k v => .mp t k (qf8 π v)
def renH (π : Nat → Nat) : HS → HS
 | .live o => .live (renO π o)
 | .fz o => .fz (renO π o)
 | h => h
section
variable {π : Nat → Nat} {w : World} {X : Nat → Prop} {bt : Nat → Option Nat} {nf : Nat → Prop}
theorem VR.renP (hπ : ∀ i, π (π i) = i) {v : Value} {x : V} (h : VR w X bt nf v x) : VR w X (fun i => bt (π i)) (fun i => nf (π i)) v (renV π x) := by
 induction h with
 | d v x h => exact .d v x h
 | agg cs l hn _ ih =>
   refine .agg cs _ (by rw [qgr]; exact hn) fun j v x hj hx => ?_
   rw [qgq, Option.map_eq_some_iff] at hx
   obtain ⟨y, hy, rfl⟩ := hx
   exact ih j v y hj hy
 | ptr id off bk hf hb => exact .ptr _ _ bk (by rw [hπ]; exact hf) (by rw [hπ]; exact hb)
 | row id sz off n bk cap ad had hf hb hn hk => exact .row _ sz off n bk cap ad had (by rw [hπ]; exact hf) (by rw [hπ]; exact hb) hn hk
 | row0 id sz hf hb => exact .row0 _ sz (by rw [hπ]; exact hf) (by rw [hπ]; exact hb)
 | rp id sz j off bk hf hb => exact .rp _ sz j off bk (by rw [hπ]; exact hf) (by rw [hπ]; exact hb)
 | fn f cs l hn _ ih =>
   refine .fn f cs _ (by rw [qgr]; exact hn) fun j v x hj hx => ?_
   rw [qgq, Option.map_eq_some_iff] at hx
   obtain ⟨y, hy, rfl⟩ := hx
   exact ih j v y hj hy
 | tup cs l hn _ ih =>
   refine .tup cs _ (by rw [qgr]; exact hn) fun j v x hj hx => ?_
   rw [qgq, Option.map_eq_some_iff] at hx
   obtain ⟨y, hy, rfl⟩ := hx
   exact ih j v y hj hy
 | opt v g x _ hb ih => exact .opt v g _ ih hb
 | ub b x h => exact .ub b x h
 | nb b x h => exact .nb b x h
 | mref id bk hf hb => exact .mref _ bk (by rw [hπ]; exact hf) (by rw [hπ]; exact hb)
theorem OR.renP (hπ : ∀ i, π (π i) = i) {i : Nat} {o : Obj'} (h : OR w X bt nf (π i) o) : OR w X (fun i => bt (π i)) (fun i => nf (π i)) i (renO π o) := by
 cases o with
 | box t c =>
   obtain ⟨bk, cs, h1, h2, h3, h4⟩ := h
   refine ⟨bk, cs, h1, h2, by rw [qgr]; exact h3, fun j v x hj hx => ?_⟩
   rw [qgq, Option.map_eq_some_iff] at hx
   obtain ⟨y, hy, rfl⟩ := hx
   exact (h4 j v y hj hy).renP hπ
 | row t z b l => exact h
 | mp t k vs =>
   obtain ⟨bk, es, clock, h1, h2, h0, h3, h4, h5, h6⟩ := h
   refine ⟨bk, es, clock, h1, h2, h0, h3, by rw [qgr]; exact h4, h5, fun j e x hj hx => ?_⟩
   rw [qgq, Option.map_eq_some_iff] at hx
   obtain ⟨y, hy, rfl⟩ := hx
   exact (h6 j e y hj hy).renP hπ
theorem qoh (h : HS) : (renH π h).obj? = h.obj?.map (renO π) := by cases h <;> rfl
theorem qjj (h : HS) : (renH π h).isLive = h.isLive := by cases h <;> rfl
theorem q1r (h : HS) : (renH π h).isFree = h.isFree := by cases h <;> rfl
theorem q7e {C : Cfg} (hπ : ∀ i, π (π i) = i) (hp : ∀ p ∈ C.pins, π p = p) (s : St) : Sub C s ⟨fun i => (s.sl i).map (renV π), fun i => renH π (s.hp (π i))⟩ := by
 intro E bt a w hr
 have hX : Xs E.X0 (fun i => renH π (s.hp (π i))) (fun i => bt (π i)) = Xs E.X0 s.hp bt := by
  funext b
  refine propext ⟨?_, ?_⟩
  ·rintro (h | ⟨i, h1, h2⟩)
   ·exact .inl h
   ·exact .inr ⟨π i, by rw [qjj] at h1; exact h1, h2⟩
  ·rintro (h | ⟨i, h1, h2⟩)
   ·exact .inl h
   ·exact .inr ⟨π i, by rw [qjj, hπ]; exact h1, by simp only [hπ]; exact h2⟩
 have hN : Nf (fun i => renH π (s.hp (π i))) = fun i => Nf s.hp (π i) := by
  funext i
  unfold Nf
  rw [q1r]
 refine ⟨fun i => bt (π i), hr.df, hr.sz, fun i v hv => ?_, fun i o ho => ?_, fun i j bk h1 h2 h3 h4 => ?_, fun i bk h1 h2 => ?_, fun i bk h1 h2 => ?_, hr.fr, fun p b h => ?_⟩
 ·obtain ⟨x, hx, rfl⟩ := Option.map_eq_some_iff.1 hv
  show VR w _ _ _ _ _
  rw [hX, hN]
  exact (hr.slots i x hx).renP hπ
 ·simp only [qoh] at ho
  obtain ⟨o', ho', rfl⟩ := Option.map_eq_some_iff.1 ho
  show OR w _ _ _ i _
  rw [hX, hN]
  exact (hr.objs _ o' ho').renP hπ
 ·simp only [qjj] at h1
  simp only [qoh, Option.isSome_map] at h2
  have := hr.inj (π i) (π j) bk h1 h2 h3 h4
  rw [← hπ i, ← hπ j, this]
 ·simp only [qjj] at h1
  exact hr.own (π i) bk h1 h2
 ·simp only [qoh, Option.isSome_map] at h1
  exact hr.nx (π i) bk h1 h2
 ·obtain ⟨q1, q2, q3⟩ := hr.pin p b h
  refine ⟨q1, by simp only [hp p q1]; exact q2, ?_⟩
  show Nf (fun i => renH π (s.hp (π i))) p
  rw [hN]
  simp only [hp p q1]
  exact q3
end
def swp (a b i : Nat) : Nat := bif Nat.ble a i && Nat.ble (i + 1) (a + 16) then b + (i - a) else bif Nat.ble b i && Nat.ble (i + 1) (b + 16) then a + (i - b) else i
theorem q1s (a b i : Nat) : swp a b i = if a ≤ i ∧ i < a + 16 then b + (i - a) else if b ≤ i ∧ i < b + 16 then a + (i - b) else i := by
 unfold swp
 rw [show (Nat.ble a i && Nat.ble (i + 1) (a + 16)) = decide (a ≤ i ∧ i < a + 16) by rw [Bool.eq_iff_iff]; simp [Nat.ble_eq]; omega, show (Nat.ble b i && Nat.ble (i + 1) (b + 16)) = decide (b ≤ i ∧ i < b + 16) by rw [Bool.eq_iff_iff]; simp [Nat.ble_eq]; omega]
 by_cases h : a ≤ i ∧ i < a + 16
 ·rw [decide_eq_true h, if_pos h]; rfl
 ·rw [decide_eq_false h, if_neg h]
  by_cases h2 : b ≤ i ∧ i < b + 16
  ·rw [decide_eq_true h2, if_pos h2]; rfl
  ·rw [decide_eq_false h2, if_neg h2]; rfl
theorem q7f {a b : Nat} (h : a + 16 ≤ b) (i : Nat) : swp a b (swp a b i) = i := by
 rw [q1s, q1s]
 by_cases h1 : a ≤ i ∧ i < a + 16
 ·rw [if_pos h1, if_neg (by omega), if_pos (by omega)]; omega
 ·rw [if_neg h1]
  by_cases h2 : b ≤ i ∧ i < b + 16
  ·rw [if_pos h2, if_pos (by omega)]; omega
  ·rw [if_neg h2, if_neg h1, if_neg h2]
abbrev SL := List (Nat × V)
abbrev HP := List (Nat × HS)
def qm6 (π : Nat → Nat) (sl : SL) : SL := sl.map fun p => (p.1, renV π p.2)
def qk8 (π : Nat → Nat) (hp : HP) : HP := hp.map fun p => (π p.1, renH π p.2)
theorem qpv (π : Nat → Nat) : ∀ (sl : SL) (i : Nat), aget (qm6 π sl) i = (aget sl i).map (renV π)
 | [], i => rfl
 | (j, x) :: r, i => by
   have ih := qpv π r i
   simp only [qm6] at ih
   simp only [qm6, List.map_cons, aget]
   by_cases e : i = j
   ·rw [if_pos e, if_pos e]; rfl
   ·rw [if_neg e, if_neg e]; exact ih
theorem qpw {π : Nat → Nat} (hπ : ∀ i, π (π i) = i) : ∀ (hp : HP) (i : Nat), aget (qk8 π hp) i = (aget hp (π i)).map (renH π)
 | [], i => rfl
 | (j, x) :: r, i => by
   have ih := qpw hπ r i
   simp only [qk8] at ih
   simp only [qk8, List.map_cons, aget]
   by_cases e : π i = j
   ·rw [if_pos e, if_pos (by rw [← e, hπ])]; rfl
   ·rw [if_neg e, if_neg (fun q => e (by rw [q, hπ]))]; exact ih
theorem q32 {C : Cfg} {π : Nat → Nat} (hπ : ∀ i, π (π i) = i) (hp : ∀ p ∈ C.pins, π p = p) (sl : SL) (hl : HP) : Sub C (mkS sl hl) (mkS (qm6 π sl) (qk8 π hl)) := by
 have := q7e (C := C) hπ hp (mkS sl hl)
 have e : (⟨fun i => ((mkS sl hl).sl i).map (renV π), fun i => renH π ((mkS sl hl).hp (π i))⟩ : St) = mkS (qm6 π sl) (qk8 π hl) := by
  unfold mkS
  congr 1
  ·funext i; exact (qpv π sl i).symm
  ·funext i
   show renH π ((aget hl (π i)).getD .free) = (aget (qk8 π hl) i).getD .free
   rw [qpw hπ]
   cases aget hl (π i) <;> rfl
 rw [e] at this
 exact this
def q5j : Op → Bool
 | .alloc _ | .box _ _ | .buildSlice _ _ _ | .makeSlice _ _ _ | .makeMap _ _ | .call _ => true
 | _ => false
def q1t (hp : HP) (d : Nat) : Bool := hp.any fun p => Nat.beq (p.1 / 16) d
def topN (hp : HP) : Nat := hp.foldl (fun m p => bif Nat.ble m p.1 then p.1 else m) 40000
def qf0 (C : Cfg) : List Oper → SL → HP → SL × HP
 | [], sl, hp => (sl, hp)
 | o :: l, sl, hp => match o.dst with
   | none => qf0 C l sl hp
   | some d => bif q5j o.op && q1t hp d then
      (bif Nat.ble (16 * d + 16) (16 * (topN hp / 16 + 1)) && C.pins.all (fun p => Nat.beq (swp (16 * d) (16 * (topN hp / 16 + 1)) p) p) then
        qf0 C l (qm6 (swp (16 * d) (16 * (topN hp / 16 + 1))) sl) (qk8 (swp (16 * d) (16 * (topN hp / 16 + 1))) hp) else qf0 C l sl hp)
     else qf0 C l sl hp
theorem qf4 {C : Cfg} : ∀ (l : List Oper) (sl : SL) (hp : HP), Sub C (mkS sl hp) (mkS (qf0 C l sl hp).1 (qf0 C l sl hp).2)
 | [], sl, hp => Sub.refl C _
 | o :: l, sl, hp => by
   unfold qf0
   split
   ·exact qf4 l sl hp
   ·rename_i d _
    cases h1 : q5j o.op && q1t hp d with
    | false => exact qf4 l sl hp
    | true =>
      cases h2 : Nat.ble (16 * d + 16) (16 * (topN hp / 16 + 1)) && C.pins.all (fun p => Nat.beq (swp (16 * d) (16 * (topN hp / 16 + 1)) p) p) with
      | false => exact qf4 l sl hp
      | true =>
        rw [Bool.and_eq_true, List.all_eq_true] at h2
        exact (q32 (q7f (Nat.le_of_ble_eq_true h2.1)) (fun p hp => Nat.eq_of_beq_eq_true (h2.2 p hp)) sl hp).trans (qf4 l _ _)
end Go.Ev
namespace Go.Ev
noncomputable section
def cfg0 (P : Program) : Cfg := ⟨P, 0, fun _ _ => none, fun _ _ => [], [], fun _ => none⟩
def Cfg.handF (C : Cfg) (m : FuncId → Nat → List (Nat × TypeId × Nat)) : Cfg := match C with
 | ⟨P, N, T, _, pins, ti⟩ => ⟨P, N, T, m, pins, ti⟩
def qsr (P : Program) (C : Cfg) (quiet : Bool) (o : Oper) (s : St) (x : Operand) : Option Res :=
 (s.val x).bind q01
def qss (P : Program) (C : Cfg) (quiet : Bool) (o : Oper) (s : St) (c : Operand) (a : Operand) (b : Operand) : Option Res :=
 match (s.val c).bind optB with
  | none => none
  | some (g0, x) => match (s.val a).bind optB, (s.val b).bind optB with
    | some (g1, p), some (g2, q) => qb2 (g0 = true ∧ (x = true → g1 = true) ∧ (x = false → g2 = true)) (.d (.b (bif x then p else q)))
    | va, vb => match x with
      | true => va.bind fun p => qb2 (g0 = true ∧ p.1 = true) (.d (.b p.2))
      | false => vb.bind fun p => qb2 (g0 = true ∧ p.1 = true) (.d (.b p.2))
def qpx (P : Program) (C : Cfg) (quiet : Bool) (o : Oper) (s : St) (t : TypeId) : Option Res :=
 match qbb P t with
  | some z => newObj s o.dst True (.box t (z.map .d)) (.ptr (nm o.dst 0) 0)
  | none => none
def qvn (P : Program) (C : Cfg) (quiet : Bool) (o : Oper) (s : St) (t : TypeId) (x : Operand) : Option Res :=
 match s.val x with
  | some v => v.cells.bind fun c => newObj s o.dst True (.box t c) (.ptr (nm o.dst 0) 0)
  | none => none
def qst (P : Program) (C : Cfg) (quiet : Bool) (o : Oper) (s : St) (t : TypeId) (x : Operand) : Option Res :=
 match aggT P t, q0u P t, s.val x with
  | some g, some n, some p => loadAt (zD P) s g n p
  | _, _, _ => none
def qpy (P : Program) (C : Cfg) (quiet : Bool) (o : Oper) (s : St) (t : TypeId) (x : Operand) (y : Operand) : Option Res :=
 match q0u P t, s.val x, s.val y with
  | some n, some p, some v => storeAt (zD P) s n p v
  | _, _, _ => none
def qlj (P : Program) (C : Cfg) (quiet : Bool) (o : Oper) (s : St) (x : Operand) : Option Res :=
 match s.val x with
  | some v => match v with
    | .ptr _ _ | .rp _ _ _ _ | .d (.cp _) => q01 v
    | _ => none
  | none => none
def qpz (P : Program) (C : Cfg) (quiet : Bool) (o : Oper) (s : St) (op : BinOp) (t : TypeId) (x : Operand) (y : Operand) : Option Res :=
 match s.val x, s.val y with
  | some a, some b => qf2 (cfg0 P) s op t a b
  | _, _ => none
def qsu (P : Program) (C : Cfg) (quiet : Bool) (o : Oper) (s : St) (op : UnOp) (x : Operand) : Option Res :=
 match s.val x with
  | some (.d a) => (unD op a).bind fun d => q01 (.d d)
  | some (.ub a) => if op = .not then q01 (.nb a) else none
  | some (.nb a) => if op = .not then q01 (.ub a) else none
  | _ => none
def qkd (P : Program) (C : Cfg) (quiet : Bool) (o : Oper) (s : St) (t : TypeId) (x : Operand) (f : Nat) : Option Res :=
 match offT P t f, s.val x with
  | some (off, _), some (.ptr id o) => q01 (.ptr id (o + off))
  | some (off, _), some (.rp id sz j o) => q01 (.rp id sz j (o + off))
  | some (off, _), some (.d (.cp l)) => q01 (.d (.cp (l.drop off)))
  | _, _ => none
def qp0 (P : Program) (C : Cfg) (quiet : Bool) (o : Oper) (s : St) (t : TypeId) (x : Operand) (f : Nat) : Option Res :=
 match offT P t f, (qcv P t f).bind (aggT P), s.val x with
  | some (off, n), some g, some (.d (.agg l)) => (ldD g n l off).bind q01
  | some (off, n), some g, some (.agg l) => (ldV g n l off).bind q01
  | _, _, _ => none
def qke (P : Program) (C : Cfg) (quiet : Bool) (o : Oper) (s : St) (t : TypeId) (x : Operand) (y : Operand) : Option Res :=
 match qcj P t, s.val x, s.val y with
  | some e, some (.d (.sl sz l)), some (.d (.i _ i)) => if q0u P e = some sz then qb2 (0 ≤ i ∧ i < (l.length : Int)) (.d (.cp (l.getD i.toNat (zD P e)).cells)) else none
  | some e, some (.row id sz off n), some (.d (.i _ i)) => if q0u P e = some sz then qb2 (0 ≤ i ∧ i < (n : Int)) (.rp id sz (off + i.toNat) 0) else none
  | _, _, _ => none
def qp1 (P : Program) (C : Cfg) (quiet : Bool) (o : Oper) (s : St) (t : TypeId) (x : Operand) (y : Operand) : Option Res :=
 match P.underlying t, s.val x, s.val y with
  | some .string, some (.d (.s b)), some (.d (.i _ i)) => qb2 (0 ≤ i ∧ i < (b.size : Int)) (.d (.i .u8 (b.data.toList.getD i.toNat 0).toNat))
  | _, _, _ => none
def qp2 (P : Program) (C : Cfg) (quiet : Bool) (o : Oper) (s : St) (t : TypeId) (parts : Array (Nat × Operand)) : Option Res :=
 match qbb P t, qfa P t with
  | some z, some pl => (qe5 s pl (z.map .d) parts.toList).bind fun c => q01 (mkAgg c)
  | _, _ => none
def qjk (P : Program) (C : Cfg) (quiet : Bool) (o : Oper) (s : St) (t : TypeId) (n : Nat) (parts : Array (Nat × Operand)) : Option Res :=
 match qcj P t with
  | some e => match q0u P e, qbb P e, vals s (parts.toList.map (·.2)) with
    | some (sz + 1), some z, some vs => match toDs (toD3 s) vs with
      | some (ds, []) => if parts.toList.map (·.1) = List.range n ∧ n * (sz + 1) ≤ 16777216 ∧ z.length = sz + 1 then
         newObj s o.dst (∀ d ∈ ds, d.fits (sz + 1)) (.row e (sz + 1) false ds) (.row (nm o.dst 0) (sz + 1) 0 n) else none
      | some (ds, k :: is) => if parts.toList.map (·.1) = List.range n ∧ n * (sz + 1) ≤ 16777216 ∧ z.length = sz + 1 then
         (newObj s o.dst (∀ d ∈ ds, d.fits (sz + 1)) (.row e (sz + 1) false ds) (.row (nm o.dst 0) (sz + 1) 0 n)).map fun r => ⟨r.ok, r.dl.hp ++ q0t s (k :: is) [], r.dl.v, k :: is⟩ else none
      | _ => none
    | _, _, _ => none
  | none => none
def qp3 (P : Program) (C : Cfg) (quiet : Bool) (o : Oper) (s : St) (t : TypeId) (x : Operand) (lo : Option Operand) (hi : Option Operand) (mx : Option Operand) : Option Res :=
 match P.underlying t, s.val x with
  | some .string, some (.d (.s b)) => qd7 s b lo hi mx
  | some (.slice e), some v => match q0u P e with
    | some n => qeo s n v lo hi mx
    | none => none
  | _, _ => none
def qma (P : Program) (C : Cfg) (quiet : Bool) (o : Oper) (s : St) (x : Operand) (i : Nat) : Option Res :=
 match s.val x with
  | some (.tup l) => (l[i]?).bind q01
  | _ => none
def qlk (P : Program) (C : Cfg) (quiet : Bool) (o : Oper) (s : St) (f : FuncId) (first : Array Operand) (caps : Array Operand) : Option Res :=
 if first = #[] then (match vals s caps.toList with
     | some vs => q01 (match vs.mapM V.asD with | some ds => .d (.fn f ds) | none => .fn f vs)
     | none => none) else none
def qmb (P : Program) (C : Cfg) (quiet : Bool) (o : Oper) (s : St) (t : TypeId) : Option Res :=
 newObj s o.dst True (.mp t [] []) (.mref (nm o.dst 0))
def qnw (P : Program) (C : Cfg) (quiet : Bool) (o : Oper) (s : St) (t : TypeId) (x : Operand) (y : Operand) (cm : Bool) : Option Res :=
 match s.val x, s.val y with
  | some m, some k => qds (cfg0 P) s t m k cm
  | _, _ => none
def qkf (P : Program) (C : Cfg) (quiet : Bool) (o : Oper) (s : St) (t : TypeId) (x : Operand) (y : Operand) (z : Operand) : Option Res :=
 match s.val x, s.val y, s.val z with
  | some m, some k, some v => qcg (cfg0 P) s t m k v
  | _, _, _ => none
def qmc (P : Program) (C : Cfg) (quiet : Bool) (o : Oper) (s : St) (src : TypeId) (dst : TypeId) (x : Operand) : Option Res :=
 match s.val x with
  | some v => qfb (cfg0 P) s src dst v
  | none => none
def qkg (P : Program) (C : Cfg) (quiet : Bool) (o : Oper) (s : St) (t : TypeId) (x : Operand) (y : Operand) : Option Res :=
 match s.val x, s.val y with
  | some n, some c => qfc (cfg0 P) s o.dst t n c
  | _, _ => none
def qsv (P : Program) (C : Cfg) (quiet : Bool) (o : Oper) (s : St) (c : Call) : Option Res :=
 match vals s c.args.toList with
  | none => none
  | some vs => match c.callee with
    | .builtin b => qep (cfg0 P) s o.dst b c.argTypes.toList vs
    | .value x => match s.val x with
      | some (.d (.fn f ds)) => qbt C quiet s o.dst f (vs ++ ds.map .d)
      | some (.fn f caps) => qbt C quiet s o.dst f (vs ++ caps)
      | _ => none
    | _ => none
def qy9 (P : Program) (C : Cfg) (quiet : Bool) (o : Oper) (s : St) : Option Res := match o.op with
 | .move x | .assign x => qsr P C quiet o s x
 | .pick c a b => qss P C quiet o s c a b
 | .alloc t => qpx P C quiet o s t
 | .box t x => qvn P C quiet o s t x
 | .load t x => qst P C quiet o s t x
 | .store t x y => qpy P C quiet o s t x y
 | .nilCheck x => qlj P C quiet o s x
 | .binOp op t x y _ => qpz P C quiet o s op t x y
 | .unOp op _ x => qsu P C quiet o s op x
 | .fieldAddr t x f => qkd P C quiet o s t x f
 | .field t x f => qp0 P C quiet o s t x f
 | .indexAddr t x y => qke P C quiet o s t x y
 | .index t x y => qp1 P C quiet o s t x y
 | .build t parts => qp2 P C quiet o s t parts
 | .buildSlice t n parts => qjk P C quiet o s t n parts
 | .slice t x lo hi mx => qp3 P C quiet o s t x lo hi mx
 | .extract x i => qma P C quiet o s x i
 | .makeFunc (.func f) first caps => qlk P C quiet o s f first caps
 | .makeMap t none => qmb P C quiet o s t
 | .lookup t x y cm => qnw P C quiet o s t x y cm
 | .mapUpdate t x y z => qkf P C quiet o s t x y z
 | .convert src dst x => qmc P C quiet o s src dst x
 | .makeSlice t x y => qkg P C quiet o s t x y
 | .call c => qsv P C quiet o s c
 | _ => none
set_option maxHeartbeats 2000000 in
theorem q33 (C : Cfg) (quiet : Bool) (o : Oper) (s : St) : qy9 C.P C quiet o s = aop C quiet o s := by
 unfold qy9 aop
 cases o.op <;> first | with_reducible rfl | (dsimp only [qsr, qss, qpx, qvn, qst, qpy, qlj, qpz, qsu, qkd, qp0, qke, qp1, qp2, qjk, qp3, qma, qlk, qmb, qnw, qkf, qmc, qkg, qsv]; rfl) | rfl
def aopF (C : Cfg) (quiet : Bool) (o : Oper) (s : St) : Option Res := match C with
 | ⟨P, N, T, mv, pins, ti⟩ => qy9 P ⟨P, N, T, mv, pins, ti⟩ quiet o s
theorem q7g (C : Cfg) (quiet : Bool) (o : Oper) (s : St) : aopF C quiet o s = aop C quiet o s := by
 rw [← q33]; cases C; rfl
def qsw (P : Program) (C : Cfg) (o : Oper) (s : St) (c : Operand) (a : Operand) (b : Operand) : Bool :=
 match (s.val c).bind optB with
  | some (g0, true) => g0 && (match (s.val a).bind optB with | some (g, _) => g | none => false)
  | some (g0, false) => g0 && (match (s.val b).bind optB with | some (g, _) => g | none => false)
  | none => false
def qsx (P : Program) (C : Cfg) (o : Oper) (s : St) (x : Operand) : Bool :=
 match s.val x with
  | some (.rp id _ j _) => match qbk s id with
    | some (_, _, _, l) => Nat.blt j l.length
    | none => false
  | _ => true
def qp4 (P : Program) (C : Cfg) (o : Oper) (s : St) (x : Operand) : Bool :=
 match s.val x with
  | some (.rp id _ j _) => match s.hp id with
    | .live (.row _ _ _ l) => Nat.blt j l.length
    | _ => false
  | _ => true
def qp5 (P : Program) (C : Cfg) (o : Oper) (s : St) (op : BinOp) (x : Operand) (y : Operand) : Bool :=
 match s.val x, s.val y with
  | some (.d (.i _ _)), some (.d (.i _ b)) => match op with
    | .quo | .rem => !decide (b = 0)
    | .shl | .shr => decide (0 ≤ b)
    | _ => true
  | some (.d (.s a)), some (.d (.s b)) => match op with
    | .add => Nat.ble (a.size + b.size) 9223372036854775807
    | _ => true
  | _, _ => true
def qkh (P : Program) (C : Cfg) (o : Oper) (s : St) (x : Operand) (y : Operand) : Bool :=
 match s.val x, s.val y with
  | some (.d (.sl _ l)), some (.d (.i _ i)) => inB i l.length
  | some (.row _ _ _ n), some (.d (.i _ i)) => inB i n
  | _, _ => false
def qp6 (P : Program) (C : Cfg) (o : Oper) (s : St) (x : Operand) (y : Operand) : Bool :=
 match s.val x, s.val y with
  | some (.d (.s b)), some (.d (.i _ i)) => inB i b.size
  | _, _ => false
def qjl (P : Program) (C : Cfg) (o : Oper) (s : St) (t : TypeId) (parts : Array (Nat × Operand)) : Bool :=
 match qcj P t with
  | some e => match q0u P e, vals s (parts.toList.map (·.2)) with
    | some sz, some vs => match toDs (toD3 s) vs with
      | some (ds, _) => ds.all (qtx sz)
      | none => false
    | _, _ => false
  | none => false
def qp7 (P : Program) (C : Cfg) (o : Oper) (s : St) (x : Operand) (lo : Option Operand) (hi : Option Operand) (mx : Option Operand) : Bool :=
 match mx with
  | some m => match s.val x, qi7 (s.val m) with
    | some (.d (.sl _ ds)), some m => match qbc s lo 0, qbc s hi ds.length with
      | some l, some h => decide (0 ≤ l) && decide (l ≤ h) && decide (h ≤ m) && decide (m ≤ (ds.length : Int))
      | _, _ => false
    | some (.row id _ off k), some m => match qbk s id, qbc s lo 0, qbc s hi k with
      | some (_, _, _, ds), some l, some h => decide (0 ≤ l) && decide (l ≤ h) && decide (h ≤ m) && decide ((off : Int) + m ≤ (ds.length : Int))
      | _, _, _ => false
    | _, _ => false
  | none => match s.val x with
    | some (.d (.s b)) => match qbc s lo 0, qbc s hi b.size with
      | some l, some h => qh2 l h b.size
      | _, _ => false
    | some (.d .nil) => match qbc s lo 0, qbc s hi (0 : Nat) with
      | some l, some h => qh2 l h 0
      | _, _ => false
    | some (.d (.sl _ ds)) => match qbc s lo 0, qbc s hi ds.length with
      | some l, some h => qh2 l h ds.length
      | _, _ => false
    | some (.row id _ off k) => match qbk s id, qbc s lo 0, qbc s hi k with
      | some (_, _, _, ds), some l, some h => decide (0 ≤ l) && decide (l ≤ h) && decide ((off : Int) + h ≤ (ds.length : Int))
      | _, _, _ => false
    | _ => false
def qny (P : Program) (C : Cfg) (o : Oper) (s : St) (t : TypeId) (x : Operand) (y : Operand) (cm : Bool) : Bool :=
 match mapT P t, s.val y, (s.val x).bind (qhn s) with
  | some (kt, et), some (.d k), some (ks, vs, _) => ks.all (isK P kt) && isK P kt k && (cm || (match qdb P et with | some z => vs.all (sh1 z) | none => false))
  | _, _, _ => false
def qki (P : Program) (C : Cfg) (o : Oper) (s : St) (t : TypeId) (x : Operand) (y : Operand) : Bool :=
 match mapT P t, s.val x, s.val y with
  | some (kt, _), some (.mref id), some (.d k) => match s.hp id with
    | .live (.mp _ ks _) => ks.all (isK P kt) && isK P kt k
    | _ => false
  | _, _, _ => false
def qmd (P : Program) (C : Cfg) (o : Oper) (s : St) (src : TypeId) (dst : TypeId) (x : Operand) : Bool :=
 match ckT P src, ckT P dst with
  | .bytes, .str => match (s.val x).bind (qfj s 1) with
    | some (ds, _) => ds.all isU8
    | none => false
  | _, _ => true
def qkj (P : Program) (C : Cfg) (o : Oper) (s : St) (t : TypeId) (x : Operand) (y : Operand) : Bool :=
 match qcj P t, s.val x, s.val y with
  | some e, some (.d (.i _ a)), some (.d (.i _ b)) => match qb1 P e, qbb P e with
    | some by_, some z => decide (0 ≤ a) && decide (a = b) && decide (a * (by_ : Int) ≤ 140737488355328) && decide (a ≤ 4611686018427387904) && D.all1 (zD P e) z
    | _, _ => false
  | _, _, _ => false
def qsy (P : Program) (C : Cfg) (o : Oper) (s : St) (c : Call) : Bool :=
 match c.callee with
  | .builtin b => match b, c.argTypes.toList, vals s c.args.toList with
    | .append, t :: _, some [x, y] => appB (cfg0 P) s t x y
    | .append, _, _ => false
    | .clear, _, some [.row id _ off n] => match qb5 s id with
      | some (_, _, _, l) => Nat.ble (off + n) l.length
      | none => false
    | .clear, _, _ => false
    | _, _, _ => true
  | _ => true
def qza (P : Program) (C : Cfg) (o : Oper) (s : St) : Bool := match o.op with
 | .pick c a b => qsw P C o s c a b
 | .load _ x => qsx P C o s x
 | .store _ x _ => qp4 P C o s x
 | .binOp op _ x y _ => qp5 P C o s op x y
 | .indexAddr _ x y => qkh P C o s x y
 | .index _ x y => qp6 P C o s x y
 | .buildSlice t _ parts => qjl P C o s t parts
 | .slice _ x lo hi mx => qp7 P C o s x lo hi mx
 | .lookup t x y cm => qny P C o s t x y cm
 | .mapUpdate t x y _ => qki P C o s t x y
 | .convert src dst x => qmd P C o s src dst x
 | .makeSlice t x y => qkj P C o s t x y
 | .call c => qsy P C o s c
 | _ => true
set_option maxHeartbeats 2000000 in
theorem q34 (C : Cfg) (o : Oper) (s : St) : qza C.P C o s = okB C o s := by
 unfold qza okB
 cases o.op <;> first | with_reducible rfl | (dsimp only [qsw, qsx, qp4, qp5, qkh, qp6, qjl, qp7, qny, qki, qmd, qkj, qsy]; rfl) | rfl
def okBF (C : Cfg) (o : Oper) (s : St) : Bool := match C with
 | ⟨P, N, T, mv, pins, ti⟩ => qza P ⟨P, N, T, mv, pins, ti⟩ o s
theorem q7h (C : Cfg) (o : Oper) (s : St) : okBF C o s = okB C o s := by
 rw [← q34]; cases C; rfl
def qgx {α : Type} (l : List (Nat × α)) (k : Nat) : Option α := @List.rec (Nat × α) (fun _ => Option α) none (fun p _ ih => bif Nat.beq k p.1 then some p.2 else ih) l
theorem qsz {α : Type} : ∀ (l : List (Nat × α)) (k : Nat), qgx l k = aget l k
 | [], k => rfl
 | (i, x) :: r, k => by
   show (bif Nat.beq k i then some x else qgx r k) = _
   unfold aget
   cases h : Nat.beq k i with
   | true => rw [if_pos (Nat.eq_of_beq_eq_true h)]; rfl
   | false => rw [if_neg (Nat.ne_of_beq_eq_false h)]; exact qsz r k
theorem qhf {α : Type} {l : List (Nat × α)} : qgx l = aget l := funext (qsz l)
def mkSF (sl : List (Nat × V)) (hp : List (Nat × HS)) : St := ⟨qgx sl, fun i => (qgx hp i).getD .free⟩
theorem qio {sl : List (Nat × V)} {hp : List (Nat × HS)} : mkSF sl hp = mkS sl hp := by unfold mkSF; simp only [qhf]; rfl
def qi1 (g : Bool) (sl : List (Nat × V)) : List Operand → Option (Prop × List (Nat × V))
 | [] => some (True, [])
 | .tmp t :: r => match qgx sl t with
   | none => none
   | some (.opt g' v) => (match v with
     | .opt _ _ => none
     | v => match qi1 g sl r with
       | none => none
       | some (p, m) => some ((g = true → g' = true) ∧ p, (t, v) :: m))
   | some v => match qi1 g sl r with
     | none => none
     | some (p, m) => some (p, (t, v) :: m)
 | _ :: r => qi1 g sl r
theorem qgs {g : Bool} {sl : List (Nat × V)} : ∀ {l : List Operand}, qi1 g sl l = q06 g sl l
 | [] => rfl
 | .tmp t :: r => by unfold qi1 q06; rw [qhf, qgs (l := r)]; rfl
 | .const _ :: r => qgs (l := r)
 | .global _ :: r => qgs (l := r)
 | .func _ :: r => qgs (l := r)
def opsL : Op → List Operand
 | .move x | .assign x | .box _ x | .load _ x | .nilCheck x | .unOp _ _ x | .convert _ _ x | .fieldAddr _ x _ | .field _ x _ | .extract x _ => [x]
 | .store _ a v | .binOp _ _ a v _ | .makeSlice _ a v | .indexAddr _ a v | .index _ a v | .lookup _ a v _ => [a, v]
 | o => o.operands.toList
theorem qxv (o : Op) : opsL o = o.operands.toList := by cases o <;> rfl
def eUF (C : Cfg) (q : Bool) (g : Bool) (o : Oper) (sl : List (Nat × V)) (hp : List (Nat × HS)) : Option Res :=
 match qlp o with
 | true => aopF C q o (mkSF sl hp)
 | false => match qi1 g sl (opsL o.op) with
   | none => none
   | some (p, m) => qbm p (aopF C q o (mkSF m hp))
theorem q94 {C : Cfg} {q g : Bool} {o : Oper} {sl : List (Nat × V)} {hp : List (Nat × HS)} : eUF C q g o sl hp = eU C q g o sl hp := by
 unfold eUF eU; simp only [qxv, qgs, qio, q7g]; rfl
def e1F (C : Cfg) (q : Bool) (ops : Array Oper) (o : Oper) (sl : List (Nat × V)) (hp : List (Nat × HS)) : Option Res :=
 match o.guard with
 | none => eUF C q true o sl hp
 | some (j, want) => match qey want ((qbx ops j).bind (qgx sl)) with
   | some g => qfr q g (eUF C q g o sl hp)
   | none => none
theorem q1u {C : Cfg} {q : Bool} {ops : Array Oper} {o : Oper} {sl : List (Nat × V)} {hp : List (Nat × HS)} : e1F C q ops o sl hp = e1 C q ops o sl hp := by
 unfold e1F e1; simp only [q94, qhf]; rfl
end
end Go.Ev
namespace Go.Ev
noncomputable section
def lkB (g : Bool) (sl : List (Nat × V)) : List Operand → Bool
 | [] => true
 | .tmp t :: r => (match aget sl t with | some (.opt g' _) => !g || g' | _ => true) && lkB g sl r
 | _ :: r => lkB g sl r
theorem qkk {g : Bool} {sl : List (Nat × V)} : ∀ {l : List Operand} {p : Prop} {m : List (Nat × V)}, lkB g sl l = true → q06 g sl l = some (p, m) → p
 | [], p, m, _, h => by cases h; trivial
 | .tmp t :: r, p, m, hb, h => by
   unfold lkB at hb
   rw [Bool.and_eq_true] at hb
   unfold q06 at h
   split at h
   ·cases h
   ·rename_i g' v hk
    rw [hk] at hb
    simp only at hb
    split at h
    ·cases h
    ·split at h
     ·cases h
     ·rename_i hr
      cases h
      refine ⟨fun e => ?_, qkk hb.2 hr⟩
      have := hb.1
      rw [e] at this
      simpa using this
   ·split at h
    ·cases h
    ·rename_i hr
     cases h
     exact qkk hb.2 hr
 | .const _ :: r, p, m, hb, h => qkk (l := r) hb h
 | .global _ :: r, p, m, hb, h => qkk (l := r) hb h
 | .func _ :: r, p, m, hb, h => qkk (l := r) hb h
def okU (C : Cfg) (g : Bool) (o : Oper) (sl : List (Nat × V)) (hp : List (Nat × HS)) : Bool :=
 match qlp o with
 | true => okB C o (mkS sl hp)
 | false => match q06 g sl o.op.operands.toList with
   | none => false
   | some (_, m) => lkB g sl o.op.operands.toList && okB C o (mkS m hp)
theorem q1v {C : Cfg} {q g : Bool} {o : Oper} {sl : List (Nat × V)} {hp : List (Nat × HS)} {r : Res} (hF : Free C) (hb : okU C g o sl hp = true) (h : eU C q g o sl hp = some r) : r.ok := by
 unfold okU at hb
 unfold eU at h
 split at h
 ·rename_i e
  simp only [e] at hb
  exact q1q hF hb h
 ·rename_i e
  simp only [e] at hb
  split at h
  ·cases h
  ·rename_i p m hl
   simp only [hl, Bool.and_eq_true] at hb
   cases ha : aop C q o (mkS m hp) with
   | none => rw [ha] at h; cases h
   | some r0 =>
     rw [ha] at h
     simp only [qbm, Option.some.injEq] at h
     subst h
     exact ⟨qkk hb.1 hl, q1q hF hb.2 ha⟩
def ok1 (C : Cfg) (ops : Array Oper) (o : Oper) (sl : List (Nat × V)) (hp : List (Nat × HS)) : Bool :=
 match o.guard with
 | none => okU C true o sl hp
 | some (j, want) => match qey want ((qbx ops j).bind (aget sl)) with
   | some true => okU C true o sl hp
   | some false => true
   | none => false
theorem q1w {C : Cfg} {q : Bool} {ops : Array Oper} {o : Oper} {sl : List (Nat × V)} {hp : List (Nat × HS)} {r : Res} (hF : Free C) (hb : ok1 C ops o sl hp = true) (h : e1 C q ops o sl hp = some r) : r.ok := by
 unfold ok1 at hb
 unfold e1 at h
 split at h
 ·rename_i hg
  simp only [hg] at hb
  exact q1v hF hb h
 ·rename_i j want hg
  simp only [hg] at hb
  split at h
  ·rename_i g hv
   simp only [hv] at hb
   cases g with
   | true =>
     simp only at hb
     cases he : eU C q true o sl hp with
     | none =>
       rw [he] at h
       cases q <;> simp [qfr, qcc] at h
     | some r0 =>
       have hk := q1v hF hb he
       rw [he] at h
       simp only [qfr] at h
       unfold qcc at h
       split at h
       ·rename_i e; cases e; cases h; exact fun _ => hk
       ·cases h; exact hk
   | false =>
     cases he : eU C q false o sl hp with
     | none =>
       rw [he] at h
       cases q
       ·simp only [qfr, qcc, Option.some.injEq] at h
        subst h; trivial
       ·cases h
     | some r0 =>
       rw [he] at h
       simp only [qfr] at h
       unfold qcc at h
       split at h
       ·cases h; exact fun e => (by cases e)
       ·cases h; trivial
  ·cases h
def Cfg.hand (C : Cfg) (m : FuncId → Nat → List (Nat × TypeId × Nat)) : Cfg := ⟨C.P, C.N, C.T, m, C.pins, C.ti⟩
theorem qvo {C : Cfg} {m : FuncId → Nat → List (Nat × TypeId × Nat)} : C.handF m = C.hand m := by cases C; rfl
theorem qk9 {C : Cfg} {m : FuncId → Nat → List (Nat × TypeId × Nat)} {E : Env} {bt : Nat → Option Nat} {s : St} {a : Act} {w : World} : Rel (C.hand m) E bt s a w ↔ Rel C E bt s a w :=
 ⟨fun h => ⟨h.df, h.sz, h.slots, h.objs, h.inj, h.own, h.nx, h.fr, h.pin⟩, fun h => ⟨h.df, h.sz, h.slots, h.objs, h.inj, h.own, h.nx, h.fr, h.pin⟩⟩
theorem qxw {C : Cfg} (h : COk C) (m : FuncId → Nat → List (Nat × TypeId × Nat)) : COk (C.hand m) := ⟨⟨h.t.t, h.t.i⟩, ⟨h.e.1, h.e.2⟩, h.m⟩
theorem qs0 {C : Cfg} (h : Free C) (m : FuncId → Nat → List (Nat × TypeId × Nat)) : Free (C.hand m) := h
theorem q7i {C : Cfg} {m : FuncId → Nat → List (Nat × TypeId × Nat)} {c : Code} {s : St} {Q : Exit → St → Prop} (h : AW (C.hand m) c s Q) : AW C c s Q := fun E bt a w hr =>
 Go.wp_mono (h E bt a w (qk9.2 hr)) fun _ _ _ ⟨s', bt', q, r⟩ => ⟨s', bt', q, qk9.1 r⟩
def q1x : V → List V
 | .agg l => l
 | .d (.agg l) => l.map .d
 | v => [v]
def q5k : Option V → Bool
 | some (.row _ _ _ _) => true
 | _ => false
def adjA (s : St) (v : V) (m : List (Nat × TypeId × Nat)) : List (Nat × TypeId × Nat) := match m with
 | [] => []
 | (4242, t, z) :: r => (4242, t, z) :: (match v with
   | .ptr id 0 => match qda s id with
     | some c => r.filter fun x => q5k c[x.1]?
     | none => r
   | _ => r)
 | m => m.filter fun x => q5k (q1x v)[x.1]?
def q1y (o : Oper) (s : St) : Option (FuncId × List V) := match o.op with
 | .call c => match c.callee with
   | .value x => match vals s c.args.toList, s.val x with
     | some vs, some (.d (.fn f ds)) => some (f, vs ++ ds.map .d)
     | some vs, some (.fn f caps) => some (f, vs ++ caps)
     | _, _ => none
   | _ => none
 | _ => none
def dynM (C : Cfg) (o : Oper) (s : St) : FuncId → Nat → List (Nat × TypeId × Nat) := match q1y o s with
 | some (f, vs) => fun g j => bif Nat.beq g f then (match vs[j]? with | some v => adjA s v (C.mv g j) | none => C.mv g j) else C.mv g j
 | none => C.mv
def lkBF (g : Bool) (sl : List (Nat × V)) : List Operand → Bool
 | [] => true
 | .tmp t :: r => (match qgx sl t with | some (.opt g' _) => !g || g' | _ => true) && lkBF g sl r
 | _ :: r => lkBF g sl r
theorem qkl {g : Bool} {sl : List (Nat × V)} : ∀ {l : List Operand}, lkBF g sl l = lkB g sl l
 | [] => rfl
 | .tmp t :: r => by unfold lkBF lkB; rw [qhf, qkl (l := r)]
 | .const _ :: r => qkl (l := r)
 | .global _ :: r => qkl (l := r)
 | .func _ :: r => qkl (l := r)
def okUF (C : Cfg) (g : Bool) (o : Oper) (sl : List (Nat × V)) (hp : List (Nat × HS)) : Bool :=
 match qlp o with
 | true => okBF C o (mkSF sl hp)
 | false => match qi1 g sl (opsL o.op) with
   | none => false
   | some (_, m) => lkBF g sl (opsL o.op) && okBF C o (mkSF m hp)
theorem q7j {C : Cfg} {g : Bool} {o : Oper} {sl : List (Nat × V)} {hp : List (Nat × HS)} : okUF C g o sl hp = okU C g o sl hp := by
 unfold okUF okU; simp only [qxv, q7h, qgs, qio, qkl]; try rfl
def ok1F (C : Cfg) (ops : Array Oper) (o : Oper) (sl : List (Nat × V)) (hp : List (Nat × HS)) : Bool :=
 match o.guard with
 | none => okUF C true o sl hp
 | some (j, want) => match qey want ((qbx ops j).bind (qgx sl)) with
   | some true => okUF C true o sl hp
   | some false => true
   | none => false
theorem qxx {C : Cfg} {ops : Array Oper} {o : Oper} {sl : List (Nat × V)} {hp : List (Nat × HS)} : ok1F C ops o sl hp = ok1 C ops o sl hp := by
 unfold ok1F ok1; simp only [q7j, qhf]; try rfl
section
variable {α : Type}
def frcN (n : Nat) (k : Nat → α) : α := match n with
 | 0 => k 0
 | m + 1 => k (Nat.succ m)
theorem qip (n : Nat) (k : Nat → α) : frcN n k = k n := by cases n <;> rfl
def frcB (b : Bool) (k : Bool → α) : α := match b with
 | true => k true
 | false => k false
theorem qrn (b : Bool) (k : Bool → α) : frcB b k = k b := by cases b <;> rfl
def frcI (n : Int) (k : Int → α) : α := match n with
 | .ofNat n => frcN n fun n => k (.ofNat n)
 | .negSucc n => frcN n fun n => k (.negSucc n)
theorem q7k (n : Int) (k : Int → α) : frcI n k = k n := by
 unfold frcI
 split <;> exact qip _ _
def frcU : List UInt8 → (List UInt8 → α) → α
 | [], k => k []
 | b :: r, k => frcN b.toNat fun n => frcU r fun r => k (UInt8.ofNat n :: r)
theorem qxy : ∀ (l : List UInt8) (k : List UInt8 → α), frcU l k = k l
 | [], _ => rfl
 | b :: r, k => by unfold frcU; rw [qip, qxy r]; simp
def frcL {β : Type} (f : β → (β → α) → α) : List β → (List β → α) → α
 | [], k => k []
 | x :: r, k => f x fun x => frcL f r fun r => k (x :: r)
theorem qc9 {β : Type} {f : β → (β → α) → α} (hf : ∀ x k, f x k = k x) : ∀ (l : List β) (k : List β → α), frcL f l k = k l
 | [], _ => rfl
 | x :: r, k => by unfold frcL; rw [hf, qc9 hf r]
def qtz (d : D) (k : D → α) : α := match d with
 | .b b => frcB b fun b => k (.b b)
 | .i q n => frcI n fun n => k (.i q n)
 | .s ⟨⟨l⟩⟩ => frcU l fun l => k (.s ⟨⟨l⟩⟩)
 | d => k d
theorem qvp (d : D) (k : D → α) : qtz d k = k d := by
 unfold qtz
 split
 ·exact qrn _ _
 ·exact q7k _ _
 ·exact qxy _ _
 ·rfl
def qp8 (f : D → (D → α) → α) (d : D) (k : D → α) : α := match d with
 | .agg l => frcL f l fun l => k (.agg l)
 | .sl z l => frcL f l fun l => k (.sl z l)
 | .cp l => frcL f l fun l => k (.cp l)
 | d => qtz d k
theorem qoi {f : D → (D → α) → α} (hf : ∀ x k, f x k = k x) (d : D) (k : D → α) : qp8 f d k = k d := by
 unfold qp8
 split
 ·exact qc9 hf _ _
 ·exact qc9 hf _ _
 ·exact qc9 hf _ _
 ·exact qvp _ _
def frcD (d : D) (k : D → α) : α := qp8 (qp8 (qp8 qtz)) d k
theorem qm7 (d : D) (k : D → α) : frcD d k = k d := qoi (qoi (qoi qvp)) d k
def qla (v : V) (k : V → α) : α := match v with
 | .d d => frcD d fun d => k (.d d)
 | .row id sz off n => frcN id fun id => frcN sz fun sz => frcN off fun off => frcN n fun n => k (.row id sz off n)
 | .ptr id o => frcN id fun id => frcN o fun o => k (.ptr id o)
 | .rp id sz j o => frcN id fun id => frcN sz fun sz => frcN j fun j => frcN o fun o => k (.rp id sz j o)
 | v => k v
theorem qi2 (v : V) (k : V → α) : qla v k = k v := by
 unfold qla
 split <;> simp only [qm7, qip]
def frcV (v : V) (k : V → α) : α := match v with
 | .agg l => frcL qla l fun l => k (.agg l)
 | .tup l => frcL qla l fun l => k (.tup l)
 | .opt g v => frcB g fun g => qla v fun v => k (.opt g v)
 | v => qla v k
theorem q7l (v : V) (k : V → α) : frcV v k = k v := by
 unfold frcV
 split
 ·exact qc9 qi2 _ _
 ·exact qc9 qi2 _ _
 ·rw [qrn, qi2]
 ·exact qi2 _ _
def qt0 (o : Obj') (k : Obj' → α) : α := match o with
 | .row t sz z l => frcN sz fun sz => frcB z fun z => frcL frcD l fun l => k (.row t sz z l)
 | .box t c => frcL qla c fun c => k (.box t c)
 | o => k o
theorem q35 (o : Obj') (k : Obj' → α) : qt0 o k = k o := by
 unfold qt0
 split
 ·rw [qip, qrn, qc9 qm7]
 ·exact qc9 qi2 _ _
 ·rfl
def frcH (p : Nat × HS) (k : Nat × HS → α) : α := match p with
 | (i, .live o) => frcN i fun i => qt0 o fun o => k (i, .live o)
 | (i, .fz o) => frcN i fun i => qt0 o fun o => k (i, .fz o)
 | (i, .dead) => frcN i fun i => k (i, .dead)
 | (i, .free) => frcN i fun i => k (i, .free)
theorem q7m (p : Nat × HS) (k : Nat × HS → α) : frcH p k = k p := by
 unfold frcH
 split <;> simp only [qip, q35]
def qp9 (hp : HP) : List (Nat × HS) → (HP → α) → α
 | [], k => k hp
 | p :: r, k => qp9 hp r fun l => frcH p fun p => k (p :: l)
theorem qoj (hp : HP) : ∀ (l : List (Nat × HS)) (k : HP → α), qp9 hp l k = k (l ++ hp)
 | [], _ => rfl
 | p :: r, k => by unfold qp9; rw [qoj hp r, q7m]; rfl
def qqa (N : Nat) (sl : SL) (dst : Option Tmp) (v : Option V) (k : SL → α) : α := match dst with
 | none => k sl
 | some d => match v with
   | some x => bif Nat.blt d N then frcV x fun x => k ((d, x) :: sl) else k (adel d sl)
   | none => frcL (fun p k => match p with | (i, v) => k (i, v)) (adel d sl) k
theorem qs1 (N : Nat) (sl : SL) (dst : Option Tmp) (v : Option V) (k : SL → α) : qqa N sl dst v k = k (putL N sl dst v) := by
 unfold qqa putL
 split
 ·rfl
 ·split
  ·rename_i d _ x
   cases h : Nat.blt d N with
   | true =>
     have h' : d < N := Nat.le_of_ble_eq_true h
     show _ = k (if d < N then (d, x) :: sl else adel d sl)
     rw [if_pos h', cond_true, q7l]
   | false =>
     have h' : ¬ d < N := by
      intro h2
      have : Nat.blt d N = true := Nat.ble_eq_true_of_le h2
      rw [h] at this; cases this
     show _ = k (if d < N then (d, x) :: sl else adel d sl)
     rw [if_neg h', cond_false]
  ·exact qc9 (fun p k => by cases p; rfl) _ _
def qqb (o : O) (k : O → α) : α := match o with
 | .d d => frcD d fun d => k (.d d)
 | .own t sz l => frcL frcD l fun l => k (.own t sz l)
 | o => k o
theorem qok (o : O) (k : O → α) : qqb o k = k o := by
 unfold qqb
 split
 ·exact qm7 _ _
 ·exact qc9 qm7 _ _
 ·rfl
def qt1 (o : O) (k : O → α) : α := match o with
 | .agg l => frcL qqb l fun l => k (.agg l)
 | .bx t l => frcL qqb l fun l => k (.bx t l)
 | o => qqb o k
theorem qvq (o : O) (k : O → α) : qt1 o k = k o := by
 unfold qt1
 split
 ·exact qc9 qok _ _
 ·exact qc9 qok _ _
 ·exact qok _ _
def frcO (o : O) (k : O → α) : α := match o with
 | .tup l => frcL qt1 l fun l => k (.tup l)
 | o => qt1 o k
theorem qxz (o : O) (k : O → α) : frcO o k = k o := by
 unfold frcO
 split
 ·exact qc9 qvq _ _
 ·exact qvq _ _
end
def frzH (is : List Nat) (hp : HP) : HP := hp.map fun p => (p.1, if is.contains p.1 then p.2.frz else p.2)
theorem qs2 (is : List Nat) : ∀ (hp : HP) (i : Nat), aget (frzH is hp) i = (aget hp i).map fun h => if is.contains i then h.frz else h
 | [], i => rfl
 | (j, h) :: r, i => by
   have ih := qs2 is r i
   simp only [frzH] at ih
   simp only [frzH, List.map_cons, aget]
   by_cases e : i = j
   ·subst e; simp
   ·rw [if_neg e, if_neg e]; exact ih
def qvr : V → Bool
 | .row _ _ _ _ => true
 | .agg _ => true
 | _ => false
def frzT (sl : SL) (hp : HP) (t : Nat) : SL × HP := match qgx sl t with
 | some v => bif qvr v then (match toD2 (mkSF sl hp) v with
   | some (d, is) => bif is.all (fun i => ((qgx hp i).getD .free).obj?.isSome) then ((t, .d d) :: sl, frzH is hp) else (sl, hp)
   | none => (sl, hp)) else (sl, hp)
 | none => (sl, hp)
def qm8 (sl : SL) (hp : HP) : List Operand → SL × HP
 | [] => (sl, hp)
 | .tmp t :: l => qm8 (frzT sl hp t).1 (frzT sl hp t).2 l
 | _ :: l => qm8 sl hp l
theorem q36 {C : Cfg} (sl : SL) (hp : HP) (t : Nat) : Sub C (mkS sl hp) (mkS (frzT sl hp t).1 (frzT sl hp t).2) := by
 unfold frzT
 simp only [qhf, qio]
 split
 case h_2 => exact Sub.refl _ _
 rename_i v hv
 cases qvr v
 ·exact Sub.refl _ _
 simp only [cond_true]
 split
 case h_2 => exact Sub.refl _ _
 rename_i d is hd
 cases hall : is.all (fun i => ((aget hp i).getD .free).obj?.isSome)
 ·exact Sub.refl _ _
 simp only [cond_true]
 intro E bt a w hr
 refine ⟨bt, ?_⟩
 have ehp : (mkS ((t, .d d) :: sl) (frzH is hp)).hp = fun i => if is.contains i then ((mkS sl hp).hp i).frz else (mkS sl hp).hp i := by
  funext i
  show (aget (frzH is hp) i).getD .free = if is.contains i then ((aget hp i).getD .free).frz else (aget hp i).getD .free
  rw [qs2]
  cases aget hp i with
  | none => simp [HS.frz]
  | some h => simp
 have hr1 := hr.drop (fun i => if is.contains i then ((mkS sl hp).hp i).frz else (mkS sl hp).hp i) (fun i => by
  by_cases hi : is.contains i = true
  ·simp only [if_pos hi]
   cases hq : (mkS sl hp).hp i with
   | live o => exact .inr (.inl ⟨o, rfl, rfl⟩)
   | _ => exact .inl rfl
  ·simp only [if_neg hi]; exact .inl trivial)
 rw [← ehp] at hr1
 generalize hs1 : mkS ((t, .d d) :: sl) (frzH is hp) = s1 at *
 have hsl : ∀ i, i ≠ t → s1.sl i = (mkS sl hp).sl i := fun i hi => by
  rw [← hs1]
  show aget ((t, V.d d) :: sl) i = aget sl i
  simp only [aget]
  rw [if_neg hi]
 have hst : s1.sl t = some (.d d) := by
  rw [← hs1]
  show aget ((t, V.d d) :: sl) t = _
  unfold aget
  exact if_pos rfl
 -- what is held is none of the rows
 have hXm : ∀ b, Xs E.X0 s1.hp bt b → Xm (Xs E.X0 (mkS sl hp).hp bt) bt is b := by
  intro b hb
  rw [ehp] at hb
  have hsub : Xs E.X0 (mkS sl hp).hp bt b := by
   rcases hb with hb | ⟨i, hi, he⟩
   ·exact .inl hb
   ·refine .inr ⟨i, ?_, he⟩
    by_cases hc : is.contains i = true
    ·simp only [if_pos hc] at hi
     cases hq : (mkS sl hp).hp i <;> rw [hq] at hi <;> first | cases hi | rfl
    ·simpa only [if_neg hc] using hi
  refine ⟨hsub, fun k hk hbk => ?_⟩
  have hks : ((mkS sl hp).hp k).obj?.isSome = true := (List.all_eq_true.1 hall) k hk
  rcases hb with hb | ⟨i, hi, he⟩
  ·exact hr.nx k b hks hbk hb
  ·by_cases hc : is.contains i = true
   ·simp only [if_pos hc] at hi
    cases hq : (mkS sl hp).hp i <;> rw [hq] at hi <;> cases hi
   ·have hi' : ((mkS sl hp).hp i).isLive = true := by simpa only [if_neg hc] using hi
    have := hr.inj i k b hi' hks he hbk
    subst this
    exact hc (by simpa using hk)
 refine ⟨hr1.df, hr1.sz, fun i v' hv' => ?_, hr1.objs, hr1.inj, hr1.own, hr1.nx, hr1.fr, hr1.pin⟩
 by_cases e : i = t
 ·subst e
  rw [hst] at hv'
  cases hv'
  exact .d _ d ((qj3 hr (hr.slots i v hv) hd).mono hXm)
 ·rw [hsl i e] at hv'
  exact hr1.slots i v' hv'
theorem qh4 {C : Cfg} : ∀ (l : List Operand) (sl : SL) (hp : HP), Sub C (mkS sl hp) (mkS (qm8 sl hp l).1 (qm8 sl hp l).2)
 | [], _, _ => Sub.refl _ _
 | .tmp t :: l, sl, hp => (q36 sl hp t).trans (qh4 l _ _)
 | .const _ :: l, sl, hp => qh4 l sl hp
 | .func _ :: l, sl, hp => qh4 l sl hp
 | .global _ :: l, sl, hp => qh4 l sl hp
def qqc (C : Cfg) (ops : Array Oper) (o : Oper) (sl : SL) (hp : HP) : Option (SL × HP) := match ok1F (C.handF (dynM C o (mkSF sl hp))) ops o sl hp with
 | false => none
 | true => match e1F (C.handF (dynM C o (mkSF sl hp))) false ops o sl hp with
   | none => none
   | some r => qqa C.N sl o.dst r.dl.v fun sl' => qp9 hp r.dl.hp fun hp' => some (sl', hp')
def qme (C : Cfg) (ops : Array Oper) : List Oper → SL → HP → Option (SL × HP)
 | [], sl, hp => some (sl, hp)
 | o :: l, sl, hp => match qqc C ops o sl hp with
   | some (sl', hp') => qme C ops l sl' hp'
   | none => match qm8 sl hp o.op.operands.toList with
     | (sl1, hp1) => match qqc C ops o sl1 hp1 with
       | some (sl', hp') => qme C ops l sl' hp'
       | none => none
theorem qs3 {C : Cfg} {E : Env} (hC : COk C) (hF : Free C) {ops : Array Oper} {o : Oper} {l : List Oper} {Q : Exit → Act → World → Prop} {sl sl' : SL} {hp hp' : HP} {bt : Nat → Option Nat} {a : Act} {w : World}
 (h : qqc C ops o sl hp = some (sl', hp')) (hr : Rel C E bt (mkS sl hp) a w) (hQ : ∀ bt' a' w', Rel C E bt' (mkS sl' hp') a' w' → wpList C.P ops Q l a' w') : wpList C.P ops Q (o :: l) a w := by
 unfold qqc at h
 rw [qxx, q1u, qio, qvo] at h
 split at h
 ·cases h
 rename_i hb
 split at h
 ·cases h
 rename_i r he
 rw [qs1, qoj] at h
 cases h
 have hk := q1w (qs0 hF _) hb he
 obtain ⟨r', h1, h2, h3⟩ := qre he
 have hC' := qxw hC (dynM C o (mkS sl hp))
 unfold wpList
 refine qmx hC'.t hC'.e (qk9.2 hr) h1 (h2 hk) _ Q fun bt' a' w' hh => ?_
 have hh2 : Rel (C.hand (dynM C o (mkS sl hp))) E bt' (r.dl.app (C.hand (dynM C o (mkS sl hp))) o.dst (mkS sl hp)) a' w' := by
  rcases h3 with h3 | ⟨_, h3, v, rd, h4⟩
  ·rw [← h3]; exact hh
  ·rw [h4] at hh
   rw [h3]
   exact hh.wk (Wk.none _ rfl)
 obtain ⟨ok, ⟨d, v, rd⟩⟩ := r
 rw [quy] at hh2
 exact hQ bt' a' w' (qk9.1 hh2)
theorem qmf {C : Cfg} {E : Env} (hC : COk C) (hF : Free C) {ops : Array Oper} {Q : Exit → Act → World → Prop} :
 ∀ (l : List Oper) {sl sl' : SL} {hp hp' : HP} {bt : Nat → Option Nat} {a : Act} {w : World}, qme C ops l sl hp = some (sl', hp') → Rel C E bt (mkS sl hp) a w → (∀ bt' a' w', Rel C E bt' (mkS sl' hp') a' w' → Q .normal a' w') → wpList C.P ops Q l a w
 | [], sl, sl', hp, hp', bt, a, w, h, hr, hQ => by cases h; exact hQ bt a w hr
 | o :: l, sl, sl', hp, hp', bt, a, w, h, hr, hQ => by
   unfold qme at h
   split at h
   ·rename_i he
    exact qs3 hC hF he hr fun bt' a' w' hh => qmf hC hF l h hh hQ
   ·cases hz : qm8 sl hp o.op.operands.toList with
    | mk sl1 hp1 =>
      rw [hz] at h
      simp only at h
      split at h
      ·rename_i he
       obtain ⟨bt1, hr1⟩ := qh4 (C := C) o.op.operands.toList sl hp E bt a w hr
       rw [hz] at hr1
       exact qs3 hC hF he hr1 fun bt' a' w' hh => qmf hC hF l h hh hQ
      ·cases h
def qx0 (C : Cfg) (ops : Array Oper) : List Oper → SL → HP → (FuncId → Nat → List (Nat × TypeId × Nat)) → FuncId → Nat → List (Nat × TypeId × Nat)
 | [], _, _, m => m
 | o :: l, sl, hp, m => match e1F (C.handF (dynM C o (mkSF sl hp))) true ops o sl hp with
   | none => m
   | some r => qx0 C ops l (putL C.N sl o.dst r.dl.v) (r.dl.hp ++ hp) (match q1y o (mkSF sl hp) with
     | some (f, _) => fun g j => bif Nat.beq g f then dynM C o (mkSF sl hp) g j else m g j
     | none => m)
def qiq (C : Cfg) (ops : Array Oper) : List Oper → SL → HP → List (List Nat × List Nat) → Option (List (List Nat × List Nat) × SL × HP)
 | [], sl, hp, acc => some (acc.reverse, sl, hp)
 | o :: l, sl, hp, acc => match ok1F C ops o sl hp with
   | false => none
   | true => match e1F C true ops o sl hp with
     | none => none
     | some r => qqa C.N sl o.dst r.dl.v fun sl' => qp9 hp r.dl.hp fun hp' => qiq C ops l sl' hp' ((r.dl.rd, r.dl.hp.map (·.1)) :: acc)
theorem qqd {C : Cfg} (hF : Free C) {ops : Array Oper} : ∀ {l : List Oper} {sl sl' : SL} {hp hp' : HP} {acc f : List (List Nat × List Nat)} {p : Prop}, qiq C ops l sl hp acc = some (f, sl', hp') → p → ∃ p', qht C ops l sl hp acc p = some (f, p', sl', hp') ∧ p'
 | [], sl, sl', hp, hp', acc, f, p, h, hp0 => by cases h; exact ⟨p, rfl, hp0⟩
 | o :: l, sl, sl', hp, hp', acc, f, p, h, hp0 => by
   unfold qiq at h
   rw [qxx, q1u] at h
   split at h
   ·cases h
   ·rename_i hb
    split at h
    ·cases h
    ·rename_i r he
     rw [qs1, qoj] at h
     unfold qht
     rw [he]
     exact qqd hF h ⟨hp0, q1w hF hb he⟩
def qt2 {α : Type} : List (Nat × α) → List (Nat × α)
 | [] => []
 | (i, x) :: r => (i, x) :: adel i (qt2 r)
theorem qqe {α : Type} : ∀ (l : List (Nat × α)) (k : Nat), aget (qt2 l) k = aget l k
 | [], k => rfl
 | (i, x) :: r, k => by
   simp only [qt2, aget]
   by_cases e : k = i
   ·rw [if_pos e, if_pos e]
   ·rw [if_neg e, if_neg e, qgm, if_neg e, qqe r k]
def qqf {α : Type} (i : Nat) (l : List (Nat × α)) : List (Nat × α) := @List.rec (Nat × α) (fun _ => List (Nat × α)) [] (fun p _ ih => bif Nat.beq i p.1 then ih else p :: ih) l
theorem qol {α : Type} (i : Nat) : ∀ (l : List (Nat × α)), qqf i l = adel i l
 | [] => rfl
 | (j, y) :: r => by
   show (bif Nat.beq i j then qqf i r else (j, y) :: qqf i r) = _
   unfold adel
   cases h : Nat.beq i j with
   | true => rw [if_pos (Nat.eq_of_beq_eq_true h), qol i r]; rfl
   | false => rw [if_neg (Nat.ne_of_beq_eq_false h), qol i r]; rfl
def qqg {α : Type} (l : List (Nat × α)) : List (Nat × α) := @List.rec (Nat × α) (fun _ => List (Nat × α)) [] (fun p _ ih => p :: qqf p.1 ih) l
theorem qs4 {α : Type} : ∀ (l : List (Nat × α)), qqg l = qt2 l
 | [] => rfl
 | (i, x) :: r => by
   show (i, x) :: qqf i (qqg r) = _
   rw [qol, qs4 r]; rfl
def qqh {α β : Type} (l : List (Nat × α)) (k : List (Nat × α) → β) : β := bif Nat.ble 80 l.length then frcL (fun p k => k p) (qqg l) k else k l
theorem qvs {α β : Type} (l : List (Nat × α)) (k : List (Nat × α) → β) : ∃ l', qqh l k = k l' ∧ ∀ i, aget l' i = aget l i := by
 unfold qqh
 cases Nat.ble 80 l.length
 ·exact ⟨l, rfl, fun _ => rfl⟩
 ·exact ⟨qqg l, qc9 (fun _ _ => rfl) _ _, fun i => by rw [qs4]; exact qqe l i⟩
theorem q37 {sl sl' : SL} {hp hp' : HP} (h : ∀ i, aget sl' i = aget sl i) (k : ∀ i, aget hp' i = aget hp i) : mkS sl' hp' = mkS sl hp := by
 unfold mkS
 congr 1
 ·funext i; exact h i
 ·funext i; rw [k]
def qm9 (C : Cfg) (ih : Code → SL → HP → Option (Exit × SL × HP)) (c : Code) (sl : SL) (hp : HP) : Option (Exit × SL × HP) :=
 match c with
 | .skip => some (.normal, sl, hp)
 | .exit id => some (.exit id, sl, hp)
 | .ret => some (.ret, sl, hp)
 | .seq x y => match ih x sl hp with
   | some (.normal, a, b) => ih y a b
   | r => r
 | .block id x => match ih x sl hp with
   | some (.exit j, a, b) => if j = id then some (.normal, a, b) else some (.exit j, a, b)
   | r => r
 | .cond c x y => match (mkSF sl hp).val c with
   | some (.d (.b true)) => ih x sl hp
   | some (.d (.b false)) => ih y sl hp
   | some (.ub false) => ih y sl hp
   | some (.nb false) => ih x sl hp
   | _ => none
 | .loop c => match ih c sl hp with
   | some (.normal, a, b) => qqh a fun a => qqh b fun b => ih (.loop c) a b
   | r => r
 | .region _ ops draw => match qf0 C ops.toList sl hp with
   | (sl, hp) => match draw with
     | false => match qme C ops ops.toList sl hp with
       | some (a, b) => some (.normal, a, b)
       | none => none
     | true => match qj9 ops with
       | false => none
       | true => match qiq (C.handF C.mv) ops ops.toList sl hp [] with
         | some (f, a, b) => bif qe7 (qgk ops) f then some (.normal, a, b) else none
         | none => match qiq (C.handF (qx0 C ops ops.toList sl hp C.mv)) ops ops.toList sl hp [] with
           | some (f, a, b) => bif qe7 (qgk ops) f then some (.normal, a, b) else none
           | none => none
 | _ => none
def crun (C : Cfg) : Nat → Code → SL → HP → Option (Exit × SL × HP)
 | 0, _, _, _ => none
 | n + 1, c, sl, hp => qm9 C (crun C n) c sl hp
theorem qdy {C : Cfg} (hC : COk C) (hF : Free C) : ∀ (n : Nat) {c : Code} {sl sl' : SL} {hp hp' : HP} {e : Exit}, crun C n c sl hp = some (e, sl', hp') →
 (∀ Q : Exit → St → Prop, Q e (mkS sl' hp') → AW C c (mkS sl hp) Q) ∧
 ∀ (x : Code) (Q : Exit → St → Prop), c = .loop x → Q e (mkS sl' hp') → ∃ m, ∀ (E : Env) (bt : Nat → Option Nat) (a : Act) (w : World), Rel C E bt (mkS sl hp) a w → Code.rounds C.P x (fun e a' w' => ∃ s' bt', Q e s' ∧ Rel C E bt' s' a' w') m a w
 | 0, c, sl, sl', hp, hp', e, h => by cases h
 | n + 1, c, sl, sl', hp, hp', e, h => by
   have loops : ∀ (x : Code) (Q : Exit → St → Prop), c = .loop x → Q e (mkS sl' hp') → ∃ m, ∀ (E : Env) (bt : Nat → Option Nat) (a : Act) (w : World), Rel C E bt (mkS sl hp) a w → Code.rounds C.P x (fun e a' w' => ∃ s' bt', Q e s' ∧ Rel C E bt' s' a' w') m a w := by
    intro x Q hc hQ
    subst hc
    unfold crun qm9 at h
    simp only at h
    split at h
    ·rename_i a b hx
     obtain ⟨a1, ea, ha⟩ := qvs a fun a => qqh b fun b => crun C n (.loop x) a b
     rw [ea] at h
     obtain ⟨b1, eb, hb⟩ := qvs b fun b => crun C n (.loop x) a1 b
     rw [eb] at h
     obtain ⟨m, hm⟩ := (qdy hC hF n h).2 x Q rfl hQ
     refine ⟨m + 1, fun E bt ac w hr => ?_⟩
     have hw := (qdy hC hF n hx).1 (fun e s => e = .normal ∧ s = mkS a b) ⟨rfl, rfl⟩ E bt ac w hr
     rw [rounds_succ]
     refine Go.wp_mono hw fun e' a' w' ⟨s', bt', ⟨q1, q2⟩, r⟩ => ?_
     subst q1; subst q2
     exact hm E bt' a' w' (by rw [q37 ha hb]; exact r)
    ·rename_i hne
     refine ⟨1, fun E bt ac w hr => ?_⟩
     have hw := (qdy hC hF n h).1 (fun e' s => e' = e ∧ s = mkS sl' hp') ⟨rfl, rfl⟩ E bt ac w hr
     rw [rounds_succ]
     refine Go.wp_mono hw fun e' a' w' ⟨s', bt', ⟨q1, q2⟩, r⟩ => ?_
     subst q1; subst q2
     cases e' with
     | normal => exact (hne _ _ h).elim
     | _ => exact ⟨_, bt', hQ, r⟩
   refine ⟨fun Q hQ => ?_, loops⟩
   cases c with
   | loop x =>
     obtain ⟨m, hm⟩ := loops x Q rfl hQ
     exact fun E bt ac w hr => wp_loop_rounds m (hm E bt ac w hr)
   | skip => cases h; exact Wsk hQ
   | exit id => cases h; exact Wex hQ
   | ret => cases h; exact Wrt hQ
   | seq x y =>
     unfold crun qm9 at h
     simp only at h
     refine Wsq ?_
     split at h
     ·rename_i a b hx
      exact (qdy hC hF n hx).1 _ ((qdy hC hF n h).1 Q hQ)
     ·rename_i hne
      refine (qdy hC hF n h).1 _ ?_
      cases e with
      | normal => exact (hne _ _ h).elim
      | _ => exact hQ
   | block id x =>
     unfold crun qm9 at h
     simp only at h
     refine Wbk ?_
     split at h
     ·rename_i j a b hx
      refine (qdy hC hF n hx).1 _ ?_
      rw [qf7]
      split at h
      ·rename_i hj
       cases h
       rw [if_pos hj]; exact hQ
      ·rename_i hj
       cases h
       rw [if_neg hj]; exact hQ
     ·rename_i hne
      refine (qdy hC hF n h).1 _ ?_
      cases e with
      | exit j => exact (hne _ _ _ h).elim
      | _ => exact hQ
   | cond c x y =>
     unfold crun qm9 at h
     simp only [qio] at h
     split at h
     ·rename_i hv
      exact Wcd hv (fun _ => (qdy hC hF n h).1 Q hQ) (fun e => by cases e)
     ·rename_i hv
      exact Wcd hv (fun e => by cases e) (fun _ => (qdy hC hF n h).1 Q hQ)
     ·rename_i hv
      exact Wcu hv (fun e => by cases e) ((qdy hC hF n h).1 Q hQ)
     ·rename_i hv
      exact Wcn hv ((qdy hC hF n h).1 Q hQ) (fun e => by cases e)
     ·cases h
   | region id ops draw =>
     unfold crun qm9 at h
     simp only at h
     have hsub := qf4 (C := C) ops.toList sl hp
     obtain ⟨⟨sl1, hp1⟩, hfr⟩ : ∃ q, qf0 C ops.toList sl hp = q := ⟨_, rfl⟩
     rw [hfr] at hsub h
     refine AW.sub hsub ?_
     simp only at h
     cases draw
     ·simp only at h
      split at h
      ·rename_i a b hr
       cases h
       exact fun E _ _ _ hrel => wp_region_list (qmf (E := E) hC hF ops.toList hr hrel fun bt' a' w' hh => ⟨_, bt', hQ, hh⟩)
      ·cases h
     ·simp only at h
      split at h
      ·cases h
      rename_i hs
      have fin : ∀ (m : FuncId → Nat → List (Nat × TypeId × Nat)) {f : List (List Nat × List Nat)} {a : SL} {b : HP}, qiq (C.hand m) ops ops.toList sl1 hp1 [] = some (f, a, b) →
       (bif qe7 (qgk ops) f then some (Exit.normal, a, b) else none) = some (e, sl', hp') → AW C (.region id ops true) (mkS sl1 hp1) Q := by
       intro m f a b hr h
       cases hh : qe7 (qgk ops) f with
       | false => rw [hh] at h; cases h
       | true =>
         rw [hh] at h
         cases h
         refine q7i (m := m) ?_
         have hC' := qxw hC m
         obtain ⟨p', hp1', hp2'⟩ := qqd (qs0 hF _) hr trivial
         have := AW.drawL (id := id) (l := ops.toList) (Q := Q) (sl := sl1) (hp := hp1) hC' (by simpa using hs) (by
          unfold qjd
          simp only [Array.toArray_toList]
          rw [hp1']
          exact ⟨hh, hp2', hQ⟩)
         simpa using this
      simp only [qvo] at h
      split at h
      ·rename_i f a b hr
       exact fin C.mv hr h
      ·split at h
       ·rename_i f a b hr
        exact fin _ hr h
       ·cases h
   | _ => cases h
structure Hand where
 mv : FuncId → Nat → List (Nat × TypeId × Nat)
 rmv : FuncId → Nat → List (Nat × TypeId × Nat)
 T : FuncId → List O → Option O
def adjV (v : V) (m : List (Nat × TypeId × Nat)) : List (Nat × TypeId × Nat) := match m with
 | (4242, _, _) :: _ => m
 | m => m.filter fun x => match (q1x v)[x.1]? with
   | some (.row _ _ _ _) => true
   | _ => false
def adjM (vs : List V) (mv : Nat → List (Nat × TypeId × Nat)) (i : Nat) : List (Nat × TypeId × Nat) := match vs[i]? with
 | some v => adjV v (mv i)
 | none => mv i
def qqi (C : Cfg) (mv : Nat → List (Nat × TypeId × Nat)) (rs : List ResultVar) (s : St) : Option (Prop × O) :=
 match qpi C s mv rs with
 | some (o, rd, tk) => bif decide (tk.filterMap id).Nodup && !((tk.filterMap id).any fun i => rd.contains i) then some (True, o) else none
 | none => none
def frcR (r : Option (Prop × O)) : Option (Prop × O) := match r with
 | some (p, o) => frcO o fun o => some (p, o)
 | none => none
theorem qx1 (r : Option (Prop × O)) : frcR r = r := by
 unfold frcR
 split
 ·exact qxz _ _
 ·rfl
def runT (P : Program) (H : Hand) (fuel : Nat) : Nat → FuncId → List O → Option (Prop × O)
 | 0, _, _ => none
 | n + 1, f, os => frcN f fun f => frcL frcO os fun os => match H.T f os with
   | some r => some (True, r)
   | none => match P.funcs[f]? with
     | none => none
     | some fn => match fn.body with
       | none => none
       | some c => bif Nat.ble os.length fn.ntmps && os.all qk0 && !(fn.name == "runtime.NumGoroutine") then
          (match crun ⟨P, fn.ntmps, runT P H fuel n, H.mv, qbw 0 os, fun _ => none⟩ fuel c (qgl 0 os) (qc6 0 os) with
            | some (.ret, sl, hp) => frcR (qqi ⟨P, fn.ntmps, runT P H fuel n, H.mv, qbw 0 os, fun _ => none⟩ (adjM ((qhs ⟨P, fn.ntmps, runT P H fuel n, H.mv, qbw 0 os, fun _ => none⟩ (mkSF sl hp) fn.results.toList).getD []) (H.rmv f)) fn.results.toList (mkSF sl hp))
            | some (.normal, sl, hp) => frcR (qqi ⟨P, fn.ntmps, runT P H fuel n, H.mv, qbw 0 os, fun _ => none⟩ (adjM ((qhs ⟨P, fn.ntmps, runT P H fuel n, H.mv, qbw 0 os, fun _ => none⟩ (mkSF sl hp) fn.results.toList).getD []) (H.rmv f)) fn.results.toList (mkSF sl hp))
            | _ => none) else none
theorem q38 {C : Cfg} {mv : Nat → List (Nat × TypeId × Nat)} {rs : List ResultVar} {s : St} {p : Prop} {o : O} (h : qqi C mv rs s = some (p, o)) : p ∧ qfy C mv rs o s := by
 unfold qqi at h
 split at h
 ·rename_i o' rd tk he
  cases hb : (decide (tk.filterMap id).Nodup && !((tk.filterMap id).any fun i => rd.contains i)) with
  | false => rw [hb] at h; cases h
  | true =>
    rw [hb] at h
    cases h
    rw [Bool.and_eq_true, decide_eq_true_eq, Bool.not_eq_true'] at hb
    refine ⟨trivial, ?_⟩
    unfold qfy
    rw [he]
    exact ⟨hb.1, hb.2, q0y _⟩
 ·cases h
theorem qna {P : Program} {H : Hand} (hm : P.follows .mixedOrders = true) (hH : ∀ f os r, H.T f os = some r → Sem P f os r ∧ qee P f) {fuel : Nat} :
 ∀ (n : Nat) {f : FuncId} {os : List O} {p : Prop} {r : O}, runT P H fuel n f os = some (p, r) → p ∧ Sem P f os r ∧ qee P f
 | 0, f, os, p, r, h => by cases h
 | n + 1, f, os, p, r, h => by
   unfold runT at h
   rw [qip, qc9 qxz] at h
   split at h
   ·rename_i r' hr
    cases h
    exact ⟨trivial, hH _ _ _ hr⟩
   split at h
   ·cases h
   rename_i fn hf
   split at h
   ·cases h
   rename_i c hb
   cases hc : (Nat.ble os.length fn.ntmps && os.all qk0 && !(fn.name == "runtime.NumGoroutine")) with
   | false => rw [hc] at h; cases h
   | true =>
     rw [hc] at h
     simp only [cond_true] at h
     rw [Bool.and_eq_true, Bool.and_eq_true, Bool.not_eq_true'] at hc
     have hF : Free ⟨P, fn.ntmps, runT P H fuel n, H.mv, qbw 0 os, fun _ => none⟩ := ⟨fun g a q o hg => (qna hm hH n hg).1, rfl⟩
     have hC : COk ⟨P, fn.ntmps, runT P H fuel n, H.mv, qbw 0 os, fun _ => none⟩ :=
      ⟨⟨fun g a q o hg _ => (qna hm hH n hg).2.1, fun g sz k e => by cases e⟩, ⟨fun g a o hg => (qna hm hH n (p := o.1) (r := o.2) hg).2.2, fun g x e => by cases e⟩, hm⟩
     have fin : ∀ {e : Exit} {sl : SL} {hp : HP}, crun ⟨P, fn.ntmps, runT P H fuel n, H.mv, qbw 0 os, fun _ => none⟩ fuel c (qgl 0 os) (qc6 0 os) = some (e, sl, hp) → (e = .ret ∨ e = .normal) →
      qqi ⟨P, fn.ntmps, runT P H fuel n, H.mv, qbw 0 os, fun _ => none⟩ (adjM ((qhs ⟨P, fn.ntmps, runT P H fuel n, H.mv, qbw 0 os, fun _ => none⟩ (mkS sl hp) fn.results.toList).getD []) (H.rmv f)) fn.results.toList (mkS sl hp) = some (p, r) → p ∧ Sem P f os r ∧ qee P f := by
      intro e sl hp hrun he hx
      obtain ⟨k1, k2⟩ := q38 hx
      refine ⟨k1, ?_, ⟨fn, hf, by rw [hb]; rfl, hc.2⟩⟩
      refine qsj (C := ⟨P, fn.ntmps, runT P H fuel n, H.mv, qbw 0 os, fun _ => none⟩) (adjM ((qhs ⟨P, fn.ntmps, runT P H fuel n, H.mv, qbw 0 os, fun _ => none⟩ (mkS sl hp) fn.results.toList).getD []) (H.rmv f)) hf hb rfl (Nat.le_of_ble_eq_true hc.1.1) hc.1.2 rfl ?_
      refine (qdy hC hF fuel hrun).1 _ ?_
      rcases he with rfl | rfl
      ·exact k2
      ·exact k2
     simp only [qio] at h
     split at h
     ·rename_i hrun
      rw [qx1] at h
      exact fin hrun (.inl rfl) h
     ·rename_i hrun
      rw [qx1] at h
      exact fin hrun (.inr rfl) h
     ·cases h
end
end Go.Ev
