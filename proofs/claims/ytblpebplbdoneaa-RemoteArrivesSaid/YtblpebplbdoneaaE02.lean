/- Tools and contracts under the laws of this seat: DevEvY, DevEvZ, DevEvZb. -/
import Derived.Test.YtblpebplbdoneaaE01
set_option linter.unusedVariables false
set_option linter.unusedSimpArgs false
namespace Go.Ev

/-! ## Evaluation -/
def adrawR (C : Cfg) (K : St → Prop) (ops : Array Oper) (s : St) : Prop := match adraw C ops s with
  | none => False
  | some (p, s') => p ∧ K s'
theorem AW.drawR {C : Cfg} {s : St} {Q : Exit → St → Prop} (hC : COk C) {id : Nat} {ops : Array Oper} (h : adrawR C (Q .normal) ops s) : AW C (.region id ops true) s Q := by
  unfold adrawR at h
  split at h
  · exact h.elim
  · rename_i p s' hs
    exact AW.draw hC hs h.1 h.2

/-! Lists of slots, of objects. -/
def adel {α : Type} (i : Nat) : List (Nat × α) → List (Nat × α)
  | [] => []
  | (j, y) :: r => if i = j then adel i r else (j, y) :: adel i r
theorem aget_adel {α : Type} (i k : Nat) : ∀ l : List (Nat × α), aget (adel i l) k = if k = i then none else aget l k
  | [] => by simp [adel, aget]
  | (j, y) :: r => by
    simp only [adel]
    by_cases e : i = j
    · subst e
      rw [if_pos rfl, aget_adel i k r]
      by_cases e2 : k = i <;> simp [aget, e2]
    · rw [if_neg e]
      simp only [aget]
      rw [aget_adel i k r]
      by_cases e2 : k = j
      · subst e2; simp; intro h; exact absurd h.symm e
      · simp [e2]
def putL (N : Nat) (sl : List (Nat × V)) (dst : Option Tmp) (v : Option V) : List (Nat × V) := match dst with
  | none => sl
  | some d => match v with
    | some x => if d < N then (d, x) :: sl else adel d sl
    | none => adel d sl

theorem app_mk {C : Cfg} {dst : Option Tmp} {d : List (Nat × HS)} {v : Option V} {rd : List Nat} {sl : List (Nat × V)} {hp : List (Nat × HS)} :
    Delta.app C dst ⟨d, v, rd⟩ (mkS sl hp) = mkS (putL C.N sl dst v) (d ++ hp) := by
  unfold Delta.app mkS
  congr 1
  · funext i
    cases dst with
    | none => rfl
    | some d =>
      simp only [putSl, putL]
      cases v with
      | none =>
        simp only [ite_self, aget_adel]
      | some x =>
        simp only
        by_cases e : i = d
        · subst e
          by_cases hl : i < C.N
          · simp [hl, aget]
          · simp [hl, aget_adel]
        · by_cases hl : d < C.N
          · simp [hl, aget, e]
          · simp [hl, aget_adel, e]
  · funext i
    induction d with
    | nil => rfl
    | cons p r ih =>
      obtain ⟨j, o⟩ := p
      simp only [updHp, List.cons_append, aget]
      split
      · rfl
      · exact ih

/-! ### What simp goes by -/
def andOk (p : Prop) : Option Res → Option Res
  | none => none
  | some r => some ⟨p ∧ r.ok, r.dl⟩
theorem andOk_none {p : Prop} : andOk p none = none := rfl
theorem andOk_some {p ok : Prop} {d : Delta} : andOk p (some ⟨ok, d⟩) = some ⟨p ∧ ok, d⟩ := rfl

/-- The operands' slots alone, unwrapped. -/
def lkAll (g : Bool) (sl : List (Nat × V)) : List Operand → Option (Prop × List (Nat × V))
  | [] => some (True, [])
  | .tmp t :: r => match aget sl t with
    | none => none
    | some (.opt g' v) => (match v with
      | .opt _ _ => none
      | v => match lkAll g sl r with
        | none => none
        | some (p, m) => some ((g = true → g' = true) ∧ p, (t, v) :: m))
    | some v => match lkAll g sl r with
      | none => none
      | some (p, m) => some (p, (t, v) :: m)
  | _ :: r => lkAll g sl r

def eU (C : Cfg) (q : Bool) (g : Bool) (o : Oper) (sl : List (Nat × V)) (hp : List (Nat × HS)) : Option Res :=
  match isPick o with
  | true => aop C q o (mkS sl hp)
  | false => match lkAll g sl o.op.operands.toList with
    | none => none
    | some (p, m) => andOk p (aop C q o (mkS m hp))
/-- Where orders are drawn, what is not looked at must be told too. -/
def guardQ (q g : Bool) : Option Res → Option Res
  | none => match q with | true => none | false => guardRes g none
  | r => guardRes g r
def e1 (C : Cfg) (q : Bool) (ops : Array Oper) (o : Oper) (sl : List (Nat × V)) (hp : List (Nat × HS)) : Option Res :=
  match o.guard with
  | none => eU C q true o sl hp
  | some (j, want) => match guardVal want ((guardSlot ops j).bind (aget sl)) with
    | some g => guardQ q g (eU C q g o sl hp)
    | none => none
def erun (C : Cfg) (ops : Array Oper) (K : St → Prop) : List Oper → List (Nat × V) → List (Nat × HS) → Prop
  | [], sl, hp => K (mkS sl hp)
  | o :: l, sl, hp => match e1 C false ops o sl hp with
    | none => False
    | some r => r.ok ∧ erun C ops K l (putL C.N sl o.dst r.dl.v) (r.dl.hp ++ hp)

theorem vals_congr {s s' : St} {l : List Operand} (h : SameOp s s' l) : vals s' l = vals s l := vals_same h

theorem aop_congr {C : Cfg} {q : Bool} {o : Oper} {s s' : St} {r : Res} (h : aop C q o s = some r) (ho : SameOp s s' o.op.operands.toList) (hs : s'.hp = s.hp) : aop C q o s' = some r := by
  cases q with
  | true => exact aop_same h ho fun id _ => by rw [hs]
  | false =>
    by_cases hc : ∃ c x, o.op = .call c ∧ c.callee = .value x
    · obtain ⟨⟨callee, args, ts⟩, x, e, e2⟩ := hc
      simp only at e2
      subst e2
      have hv : s'.val x = s.val x := val_same fun t et => ho t (by simp [e, Op.operands, Call.operands, et])
      have hva : vals s' args.toList = vals s args.toList := vals_same fun t ht => ho t (by
        simp [e, Op.operands, Call.operands] at ht ⊢
        simp [ht])
      have hcall : ∀ f vs, aopCall C false s' o.dst f vs = aopCall C false s o.dst f vs := fun f vs => by
        have ha : ∀ vs, argsO s' (C.mv f) 0 vs = argsO s (C.mv f) 0 vs := fun vs => by
          cases h1 : argsO s (C.mv f) 0 vs with
          | some x => exact argsO_same (os := x.1) (rd := x.2.1) (tk := x.2.2) h1 (fun id _ => by rw [hs]) (fun id _ => by rw [hs])
          | none =>
            cases h2 : argsO s' (C.mv f) 0 vs with
            | none => rfl
            | some x =>
              have := argsO_same (s := s') (s' := s) (os := x.1) (rd := x.2.1) (tk := x.2.2) h2 (fun id _ => by rw [hs]) (fun id _ => by rw [hs])
              rw [h1] at this; cases this
        unfold aopCall
        rw [ha]
        simp only [hs, callHp]
      unfold aop at h ⊢
      rw [e] at h ⊢
      simp only [hva, hv, hcall] at h ⊢
      exact h
    · have e : ∀ s, aop C false o s = aop C true o s := fun s => by
        unfold aop
        split <;> rfl
      rw [e] at h ⊢
      exact aop_same h ho fun id _ => by rw [hs]

def V.isOpt : V → Bool
  | .opt _ _ => true
  | _ => false
/-- The slot's value without its guard. -/
def UV (sl : List (Nat × V)) (t : Nat) (v : V) : Prop := v.isOpt = false ∧ (aget sl t = some v ∨ ∃ g, aget sl t = some (.opt g v))
theorem UV.one {sl : List (Nat × V)} {t : Nat} {v u : V} (h : UV sl t v) (k : UV sl t u) : u = v := by
  obtain ⟨h0, h1⟩ := h
  obtain ⟨k0, k1⟩ := k
  rcases h1 with h1 | ⟨g, h1⟩ <;> rcases k1 with k1 | ⟨g', k1⟩ <;> rw [h1] at k1 <;> cases k1
  · rfl
  · cases h0
  · cases k0
  · rfl

theorem unwrap_keep {g : Bool} {t : Nat} {v : V} (hv : v.isOpt = false) : ∀ {l : List Operand} {s : St}, s.sl t = some v → (unwrap g s l).2.sl t = some v
  | [], s, h => h
  | .tmp k :: r, s, h => by
    unfold unwrap
    split
    · rename_i g' u hs
      refine unwrap_keep hv (l := r) ?_
      have : t ≠ k := fun e => by subst e; rw [h] at hs; cases hs; cases hv
      simpa [this] using h
    · exact unwrap_keep hv h
  | .const _ :: r, s, h => unwrap_keep hv (l := r) h
  | .global _ :: r, s, h => unwrap_keep hv (l := r) h
  | .func _ :: r, s, h => unwrap_keep hv (l := r) h

theorem lkAll_uv {g : Bool} : ∀ {l : List Operand} {sl : List (Nat × V)} {p : Prop} {m : List (Nat × V)}, lkAll g sl l = some (p, m) →
    (∀ t, .tmp t ∈ l → t ∈ m.map (·.1)) ∧ (∀ q ∈ m, UV sl q.1 q.2) ∧ ∀ {s : St}, (∀ t, s.sl t = aget sl t ∨ ∃ v, UV sl t v ∧ s.sl t = some v) →
      (p → (unwrap g s l).1) ∧ ∀ t, .tmp t ∈ l → ∃ v, UV sl t v ∧ (unwrap g s l).2.sl t = some v
  | [], sl, p, m, h => by
    cases h
    exact ⟨by simp, by simp, fun _ => ⟨fun _ => trivial, by simp⟩⟩
  | .tmp k :: r, sl, p, m, h => by
    unfold lkAll at h
    split at h
    · cases h
    · rename_i g' v hk
      split at h
      · cases h
      · rename_i hno
        split at h
        · cases h
        · rename_i p' m' hr
          cases h
          have hv : v.isOpt = false := by
            cases v <;> first | rfl | exact absurd rfl (hno _ _)
          have uv : UV sl k v := ⟨hv, .inr ⟨g', hk⟩⟩
          obtain ⟨i1, i2, i3⟩ := lkAll_uv hr
          refine ⟨fun t ht => ?_, fun q hq => ?_, fun {s} hs => ?_⟩
          · rcases List.mem_cons.1 ht with e | ht
            · cases e; simp
            · simp [i1 t ht]
          · rcases List.mem_cons.1 hq with rfl | hq
            · exact uv
            · exact i2 q hq
          · unfold unwrap
            split
            · rename_i g2 v2 hs2
              have e : g2 = g' ∧ v2 = v := by
                rcases hs k with e | ⟨u, hu, e⟩
                · rw [hk, hs2] at e; cases e; exact ⟨rfl, rfl⟩
                · rw [hs2] at e; cases e; cases hu.1
              obtain ⟨rfl, rfl⟩ := e
              obtain ⟨j1, j2⟩ := i3 (s := ⟨fun i => if i = k then some v2 else s.sl i, s.hp⟩) (fun t => by
                by_cases e : t = k
                · subst e; exact .inr ⟨v2, uv, by simp⟩
                · simpa [e] using hs t)
              refine ⟨fun hp => ⟨hp.1, j1 hp.2⟩, fun t ht => ?_⟩
              rcases List.mem_cons.1 ht with e | ht
              · cases e
                exact ⟨v2, uv, unwrap_keep hv (by simp)⟩
              · exact j2 t ht
            · rename_i hns
              have e : s.sl k = some v := by
                rcases hs k with e | ⟨u, hu, e⟩
                · rw [hk] at e; exact absurd e (hns _ _)
                · rw [e, UV.one uv hu]
              obtain ⟨j1, j2⟩ := i3 hs
              refine ⟨fun hp => j1 hp.2, fun t ht => ?_⟩
              rcases List.mem_cons.1 ht with e' | ht
              · cases e'
                exact ⟨v, uv, unwrap_keep hv e⟩
              · exact j2 t ht
    · rename_i v hno hk
      split at h
      · cases h
      · rename_i p' m' hr
        cases h
        have hv : v.isOpt = false := by
          cases v <;> first | rfl | exact absurd rfl (hno _ _)
        have uv : UV sl k v := ⟨hv, .inl hk⟩
        obtain ⟨i1, i2, i3⟩ := lkAll_uv hr
        refine ⟨fun t ht => ?_, fun q hq => ?_, fun {s} hs => ?_⟩
        · rcases List.mem_cons.1 ht with e | ht
          · cases e; simp
          · simp [i1 t ht]
        · rcases List.mem_cons.1 hq with rfl | hq
          · exact uv
          · exact i2 q hq
        · have e : s.sl k = some v := by
            rcases hs k with e | ⟨u, hu, e⟩
            · rw [e, hk]
            · rw [e, UV.one uv hu]
          unfold unwrap
          split
          · rename_i g2 v2 hs2
            rw [e] at hs2; cases hs2; cases hv
          · obtain ⟨j1, j2⟩ := i3 hs
            refine ⟨j1, fun t ht => ?_⟩
            rcases List.mem_cons.1 ht with e' | ht
            · cases e'
              exact ⟨v, uv, unwrap_keep hv e⟩
            · exact j2 t ht
  | .const _ :: r, sl, p, m, h => by
    obtain ⟨i1, i2, i3⟩ := lkAll_uv (l := r) h
    exact ⟨fun t ht => i1 t (by simpa using ht), i2, fun {s} hs => ⟨(i3 hs).1, fun t ht => (i3 hs).2 t (by simpa using ht)⟩⟩
  | .global _ :: r, sl, p, m, h => by
    obtain ⟨i1, i2, i3⟩ := lkAll_uv (l := r) h
    exact ⟨fun t ht => i1 t (by simpa using ht), i2, fun {s} hs => ⟨(i3 hs).1, fun t ht => (i3 hs).2 t (by simpa using ht)⟩⟩
  | .func _ :: r, sl, p, m, h => by
    obtain ⟨i1, i2, i3⟩ := lkAll_uv (l := r) h
    exact ⟨fun t ht => i1 t (by simpa using ht), i2, fun {s} hs => ⟨(i3 hs).1, fun t ht => (i3 hs).2 t (by simpa using ht)⟩⟩

theorem eU_spec {C : Cfg} {q g : Bool} {o : Oper} {sl : List (Nat × V)} {hp : List (Nat × HS)} {r : Res} (h : eU C q g o sl hp = some r) :
    ∃ r', aopU C q g o (mkS sl hp) = some r' ∧ (r.ok → r'.ok) ∧ r'.dl = r.dl := by
  unfold eU at h
  unfold aopU
  split at h
  · rename_i hpk
    rw [if_pos hpk]
    exact ⟨r, h, id, rfl⟩
  · rename_i hpk
    rw [if_neg (by simp [hpk])]
    split at h
    · cases h
    · rename_i p m hl
      cases ha : aop C q o (mkS m hp) with
      | none => rw [ha] at h; cases h
      | some r0 =>
        rw [ha] at h
        simp only [andOk, Option.some.injEq] at h
        subst h
        obtain ⟨i1, i2, i3⟩ := lkAll_uv hl
        obtain ⟨j1, j2⟩ := i3 (s := mkS sl hp) (fun t => .inl rfl)
        obtain ⟨_, u2, _⟩ := unwrap_spec (C := C) (E := ⟨fun _ => False, fun _ => False, default, fun _ h => h.elim⟩) g o.op.operands.toList (mkS sl hp)
        have := aop_congr ha (s' := (unwrap g (mkS sl hp) o.op.operands.toList).2) (fun t ht => by
          obtain ⟨v, hv, e⟩ := j2 t ht
          obtain ⟨u, hu⟩ := aget_some (i1 t ht)
          rw [e]
          show some v = aget m t
          rw [hu]
          exact congrArg some (UV.one (i2 (t, u) (aget_mem hu)) hv)) (by rw [u2]; rfl)
        rw [this]
        exact ⟨_, rfl, fun hh => ⟨j1 hh.1, hh.2⟩, rfl⟩

theorem e1_spec {C : Cfg} {ops : Array Oper} {o : Oper} {q : Bool} {sl : List (Nat × V)} {hp : List (Nat × HS)} {r : Res} (h : e1 C q ops o sl hp = some r) :
    ∃ r', aop1 C q ops o (mkS sl hp) = some r' ∧ (r.ok → r'.ok) ∧ (r'.dl = r.dl ∨ (q = false ∧ r.dl = ⟨[], none, []⟩ ∧ ∃ v rd, r'.dl = ⟨[], some (.opt false v), rd⟩)) := by
  unfold e1 at h
  unfold aop1
  split at h
  · rename_i hg
    simp only [hg]
    obtain ⟨r', h1, h2, h3⟩ := eU_spec h
    exact ⟨r', h1, h2, .inl h3⟩
  · rename_i j want hg
    simp only [hg]
    split at h
    · rename_i g hx
      have hx' : guardVal want ((guardSlot ops j).bind (mkS sl hp).sl) = some g := hx
      simp only [hx']
      cases he : eU C q g o sl hp with
      | some r0 =>
        obtain ⟨r', h1, h2, h3⟩ := eU_spec he
        rw [he] at h
        rw [h1]
        simp only [guardQ] at h
        obtain ⟨ok, dl⟩ := r0
        obtain ⟨ok', dl'⟩ := r'
        simp only at h2 h3
        subst h3
        unfold guardRes at h ⊢
        split at h
        · rename_i a b rd e
          cases e
          cases h
          exact ⟨_, rfl, fun hh hg => h2 (hh hg), .inl rfl⟩
        · rename_i hne
          have hne' : ∀ (ok : Prop) (v : V) (rd : List Nat), dl' ≠ ⟨[], some v, rd⟩ := fun ok v rd e => by
            subst e; exact hne _ _ _ rfl
          split
          · rename_i a b rd e
            cases e
            exact absurd rfl (hne' True _ _)
          · cases g
            · cases h; exact ⟨_, rfl, id, .inl rfl⟩
            · cases h; exact ⟨_, rfl, h2, .inl rfl⟩
      | none =>
        rw [he] at h
        cases q with
        | true => cases h
        | false =>
        cases g with
        | true => simp [guardQ, guardRes] at h
        | false =>
          simp only [guardQ, guardRes, Option.some.injEq] at h
          subst h
          unfold guardRes
          split
          · exact ⟨_, rfl, fun _ e => (by cases e), .inr ⟨rfl, rfl, _, _, rfl⟩⟩
          · exact ⟨_, rfl, id, .inl rfl⟩
    · cases h

/-- The operations told by lists tell the operations. -/
theorem erun_wp {C : Cfg} {E : Env} (hC : COk C) {ops : Array Oper} {K : St → Prop} {Q : Exit → Act → World → Prop} (hQ : ∀ s', K s' → ∀ bt' a' w', Rel C E bt' s' a' w' → Q .normal a' w') :
    ∀ (l : List Oper) {sl : List (Nat × V)} {hp : List (Nat × HS)} {bt : Nat → Option Nat} {a : Act} {w : World}, Rel C E bt (mkS sl hp) a w → erun C ops K l sl hp → wpList C.P ops Q l a w
  | [], sl, hp, bt, a, w, h, hr => hQ _ hr bt a w h
  | o :: l, sl, hp, bt, a, w, h, hr => by
    unfold erun at hr
    split at hr
    · exact hr.elim
    · rename_i r he
      obtain ⟨r', h1, h2, h3⟩ := e1_spec he
      unfold wpList
      refine aop1_wp hC.t hC.e h h1 (h2 hr.1) _ Q fun bt' a' w' hh => ?_
      have hh2 : Rel C E bt' (r.dl.app C o.dst (mkS sl hp)) a' w' := by
        rcases h3 with h3 | ⟨_, h3, v, rd, h4⟩
        · rw [← h3]; exact hh
        · rw [h4] at hh
          rw [h3]
          exact hh.wk (Wk.none _ rfl)
      obtain ⟨ok, ⟨d, v, rd⟩⟩ := r
      rw [app_mk] at hh2
      exact erun_wp hC hQ l hh2 hr.2

theorem AW.run {C : Cfg} {sl : List (Nat × V)} {hp : List (Nat × HS)} {Q : Exit → St → Prop} (hC : COk C) {id : Nat} {l : List Oper} (h : erun C l.toArray (Q .normal) l sl hp) : AW C (.region id l.toArray false) (mkS sl hp) Q :=
  fun E _ _ _ hr => wp_region_list (by
    have := erun_wp (E := E) hC (Q := fun e a' w' => ∃ s' bt', Q e s' ∧ Rel C E bt' s' a' w') (fun s' hs bt' a' w' hh => ⟨s', bt', hs, hh⟩) l hr h
    simpa using this)

/-! Regions that draw their order. -/
def edrun (C : Cfg) (ops : Array Oper) : List Oper → List (Nat × V) → List (Nat × HS) → List (List Nat × List Nat) → Prop → Option (List (List Nat × List Nat) × Prop × List (Nat × V) × List (Nat × HS))
  | [], sl, hp, acc, p => some (acc.reverse, p, sl, hp)
  | o :: l, sl, hp, acc, p => match e1 C true ops o sl hp with
    | none => none
    | some r => edrun C ops l (putL C.N sl o.dst r.dl.v) (r.dl.hp ++ hp) ((r.dl.rd, r.dl.hp.map (·.1)) :: acc) (p ∧ r.ok)

theorem foots_cons (r : Res) (rs : List Res) : foots (r :: rs) = (r.dl.rd, r.dl.hp.map (·.1)) :: foots rs := rfl

theorem edrun_acc {C : Cfg} {ops : Array Oper} : ∀ {l : List Oper} {sl sl' : List (Nat × V)} {hp hp' : List (Nat × HS)} {acc f : List (List Nat × List Nat)} {p p' : Prop}, edrun C ops l sl hp acc p = some (f, p', sl', hp') →
    (p' → p) ∧ ∃ qs, f = acc.reverse ++ foots qs ∧ drun C ops l (mkS sl hp) = some (qs, mkS sl' hp') ∧ (p' → oks qs)
  | [], sl, sl', hp, hp', acc, f, p, p', h => by
    cases h
    exact ⟨id, [], by simp [foots], rfl, fun _ => trivial⟩
  | o :: l, sl, sl', hp, hp', acc, f, p, p', h => by
    unfold edrun at h
    split at h
    · cases h
    · rename_i r he
      obtain ⟨r', h1, h2, h3⟩ := e1_spec he
      obtain ⟨e0, qs, e, k1, k2⟩ := edrun_acc h
      rcases h3 with h3 | ⟨h3, _⟩
      · refine ⟨fun hp => (e0 hp).1, r' :: qs, by rw [foots_cons, h3, e]; simp, ?_, fun ho => ⟨h2 (e0 ho).2, k2 ho⟩⟩
        unfold drun
        rw [h1]
        simp only
        obtain ⟨ok, ⟨d, v, rd⟩⟩ := r
        rw [h3, app_mk, k1]
      · cases h3

def edraw (C : Cfg) (K : St → Prop) (ops : Array Oper) (l : List Oper) (sl : List (Nat × V)) (hp : List (Nat × HS)) : Prop :=
  match edrun C ops l sl hp [] True with
  | none => False
  | some (f, p, sl', hp') => hCheck (unordOf ops) f = true ∧ p ∧ K (mkS sl' hp')

theorem AW.drawL {C : Cfg} {sl : List (Nat × V)} {hp : List (Nat × HS)} {Q : Exit → St → Prop} (hC : COk C) {id : Nat} {l : List Oper} (hs : sCheck l.toArray = true) (h : edraw C (Q .normal) l.toArray l sl hp) :
    AW C (.region id l.toArray true) (mkS sl hp) Q := by
  unfold edraw at h
  split at h
  · exact h.elim
  · rename_i f p sl' hp' he
    obtain ⟨e0, qs, e, k1, k2⟩ := edrun_acc he
    simp only [List.reverse_nil, List.nil_append] at e
    subst e
    refine AW.draw hC (p := oks qs) (s' := mkS sl' hp') ?_ (k2 h.2.1) h.2.2
    unfold adraw
    rw [hs]
    simp only [k1]
    rw [h.1]

end Go.Ev

namespace Go.Ev

section
variable {C : Cfg} {q g : Bool} {dst : Option Tmp} {ty : TypeId} {pos : String} {aft : Array Edge} {gd : Option (Nat × Bool)} {ops : Array Oper} {sl m : List (Nat × V)} {hp : List (Nat × HS)}
  {x y z c : Operand} {t t2 t3 : TypeId} {n i f : Nat} {r : List Operand} {K : St → Prop} {l : List Oper}

theorem erun_nil : erun C ops K [] sl hp = K (mkS sl hp) := rfl
theorem erun_cons {o : Oper} : erun C ops K (o :: l) sl hp = (match e1 C false ops o sl hp with
    | none => False
    | some r => r.ok ∧ erun C ops K l (putL C.N sl o.dst r.dl.v) (r.dl.hp ++ hp)) := rfl
theorem edrun_nil {acc : List (List Nat × List Nat)} {p : Prop} : edrun C ops [] sl hp acc p = some (acc.reverse, p, sl, hp) := rfl
theorem edrun_cons {o : Oper} {acc : List (List Nat × List Nat)} {p : Prop} : edrun C ops (o :: l) sl hp acc p = (match e1 C true ops o sl hp with
    | none => none
    | some r => edrun C ops l (putL C.N sl o.dst r.dl.v) (r.dl.hp ++ hp) ((r.dl.rd, r.dl.hp.map (·.1)) :: acc) (p ∧ r.ok)) := rfl
theorem edraw_eq {l2 : List Oper} : edraw C K ops l2 sl hp = (match edrun C ops l2 sl hp [] True with
  | none => False
  | some (f, p, sl', hp') => hCheck (unordOf ops) f = true ∧ p ∧ K (mkS sl' hp')) := rfl
theorem e1_n {op : Op} : e1 C q ops ⟨dst, op, ty, pos, aft, none⟩ sl hp = eU C q true ⟨dst, op, ty, pos, aft, none⟩ sl hp := rfl
theorem e1_g {op : Op} {j : Nat} {want : Bool} : e1 C q ops ⟨dst, op, ty, pos, aft, some (j, want)⟩ sl hp = (match guardVal want ((guardSlot ops j).bind (aget sl)) with
    | some g => guardQ q g (eU C q g ⟨dst, op, ty, pos, aft, some (j, want)⟩ sl hp)
    | none => none) := rfl
theorem guardSlot_eq {j : Nat} : guardSlot l.toArray j = (l[j]?).bind (·.dst) := by simp [guardSlot]

theorem lkAll_nil : lkAll g sl [] = some (True, []) := rfl
theorem lkAll_const {v : Value} : lkAll g sl (.const v :: r) = lkAll g sl r := rfl
theorem lkAll_func {v : FuncId} : lkAll g sl (.func v :: r) = lkAll g sl r := rfl
theorem lkAll_tmp {k : Nat} : lkAll g sl (.tmp k :: r) = (match aget sl k with
    | none => none
    | some (.opt g' v) => (match v with
      | .opt _ _ => none
      | v => match lkAll g sl r with
        | none => none
        | some (p, m) => some ((g = true → g' = true) ∧ p, (k, v) :: m))
    | some v => match lkAll g sl r with
      | none => none
      | some (p, m) => some (p, (k, v) :: m)) := rfl

theorem val_tmp {k : Nat} : (mkS sl hp).val (.tmp k) = aget sl k := rfl
theorem val_const {c : Value} : (mkS sl hp).val (.const c) = (cval c).map .d := rfl
theorem val_func {f : FuncId} : (mkS sl hp).val (.func f) = some (.d (.fn f [])) := rfl

theorem getBox_mk : getBox (mkS sl hp) i = (match aget hp i with | some (.live (.box _ c)) => some c | some (.fz (.box _ c)) => some c | _ => none) := by
  unfold getBox mkS
  simp only
  cases aget hp i with
  | none => rfl
  | some h => cases h <;> (try rfl) <;> rename_i o <;> cases o <;> rfl
theorem getRow_mk : getRow (mkS sl hp) i = (match aget hp i with | some (.live (.row t z b l)) => some (t, z, b, l) | some (.fz (.row t z b l)) => some (t, z, b, l) | _ => none) := by
  unfold getRow mkS
  simp only
  cases aget hp i with
  | none => rfl
  | some h => cases h <;> (try rfl) <;> rename_i o <;> cases o <;> rfl
theorem liveRow_mk : liveRow (mkS sl hp) i = (match aget hp i with | some (.live (.row t z b l)) => some (t, z, b, l) | _ => none) := by
  unfold liveRow mkS
  simp only
  cases aget hp i with
  | none => rfl
  | some h => cases h <;> (try rfl) <;> rename_i o <;> cases o <;> rfl
theorem hp_mk : (mkS sl hp).hp i = (match aget hp i with | some h => h | none => .free) := by
  unfold mkS
  simp only
  cases aget hp i <;> rfl

theorem eU_move_n : eU C q g ⟨dst, .move x, ty, pos, aft, none⟩ sl hp = ((mkS sl hp).val x).bind justV := rfl
theorem eU_assign_n : eU C q g ⟨dst, .assign x, ty, pos, aft, none⟩ sl hp = ((mkS sl hp).val x).bind justV := rfl
theorem eU_move {gd : Nat × Bool} : eU C q g ⟨dst, .move x, ty, pos, aft, some gd⟩ sl hp = (match lkAll g sl [x] with | none => none | some (p, m) => andOk p (((mkS m hp).val x).bind justV)) := rfl
theorem eU_assign {gd : Nat × Bool} : eU C q g ⟨dst, .assign x, ty, pos, aft, some gd⟩ sl hp = (match lkAll g sl [x] with | none => none | some (p, m) => andOk p (((mkS m hp).val x).bind justV)) := rfl
theorem eU_pick : eU C q g ⟨dst, .pick c x y, ty, pos, aft, gd⟩ sl hp = (match ((mkS sl hp).val c).bind optB with
    | none => none
    | some (g0, b) => match ((mkS sl hp).val x).bind optB, ((mkS sl hp).val y).bind optB with
      | some (g1, p), some (g2, q) => justO (g0 = true ∧ (b = true → g1 = true) ∧ (b = false → g2 = true)) (.d (.b (bif b then p else q)))
      | va, vb => match b with
        | true => va.bind fun p => justO (g0 = true ∧ p.1 = true) (.d (.b p.2))
        | false => vb.bind fun p => justO (g0 = true ∧ p.1 = true) (.d (.b p.2))) := rfl
theorem eU_alloc : eU C q g ⟨dst, .alloc t, ty, pos, aft, gd⟩ sl hp = (match zeroT C.P t with
    | some z => andOk True (newObj (mkS [] hp) dst True (.box t (z.map .d)) (.ptr (nm dst 0) 0))
    | none => none) := by
  show andOk True (match zeroT C.P t with | some z => newObj (mkS [] hp) dst True (.box t (z.map .d)) (.ptr (nm dst 0) 0) | none => none) = _
  cases zeroT C.P t <;> rfl
theorem eU_box : eU C q g ⟨dst, .box t x, ty, pos, aft, gd⟩ sl hp = (match lkAll g sl [x] with | none => none | some (p, m) => andOk p (match (mkS m hp).val x with
    | some v => v.cells.bind fun c => newObj (mkS m hp) dst True (.box t c) (.ptr (nm dst 0) 0)
    | none => none)) := rfl
theorem eU_load : eU C q g ⟨dst, .load t x, ty, pos, aft, gd⟩ sl hp = (match lkAll g sl [x] with | none => none | some (p, m) => andOk p (match aggT C.P t, sizeT C.P t, (mkS m hp).val x with
    | some g, some n, some p => loadAt (zD C.P) (mkS m hp) g n p
    | _, _, _ => none)) := rfl
theorem eU_store : eU C q g ⟨dst, .store t x y, ty, pos, aft, gd⟩ sl hp = (match lkAll g sl [x, y] with | none => none | some (p, m) => andOk p (match sizeT C.P t, (mkS m hp).val x, (mkS m hp).val y with
    | some n, some p, some v => storeAt (zD C.P) (mkS m hp) n p v
    | _, _, _ => none)) := rfl
theorem eU_nilCheck : eU C q g ⟨dst, .nilCheck x, ty, pos, aft, gd⟩ sl hp = (match lkAll g sl [x] with | none => none | some (p, m) => andOk p (match (mkS m hp).val x with
    | some v => match v with
      | .ptr _ _ | .rp _ _ _ _ | .d (.cp _) => justV v
      | _ => none
    | none => none)) := rfl
theorem eU_binOp {op : BinOp} : eU C q g ⟨dst, .binOp op t x y t2, ty, pos, aft, gd⟩ sl hp = (match lkAll g sl [x, y] with | none => none | some (p, m) => andOk p (match (mkS m hp).val x, (mkS m hp).val y with
    | some a, some b => aopBin C (mkS m hp) op t a b
    | _, _ => none)) := rfl
theorem eU_unOp {op : UnOp} : eU C q g ⟨dst, .unOp op t x, ty, pos, aft, gd⟩ sl hp = (match lkAll g sl [x] with | none => none | some (p, m) => andOk p (match (mkS m hp).val x with
    | some (.d a) => (unD op a).bind fun d => justV (.d d)
    | some (.ub a) => if op = .not then justV (.nb a) else none
    | some (.nb a) => if op = .not then justV (.ub a) else none
    | _ => none)) := rfl
theorem eU_fieldAddr : eU C q g ⟨dst, .fieldAddr t x f, ty, pos, aft, gd⟩ sl hp = (match lkAll g sl [x] with | none => none | some (p, m) => andOk p (match offT C.P t f, (mkS m hp).val x with
    | some (off, _), some (.ptr id o) => justV (.ptr id (o + off))
    | some (off, _), some (.rp id sz j o) => justV (.rp id sz j (o + off))
    | some (off, _), some (.d (.cp l)) => justV (.d (.cp (l.drop off)))
    | _, _ => none)) := rfl
theorem eU_field : eU C q g ⟨dst, .field t x f, ty, pos, aft, gd⟩ sl hp = (match lkAll g sl [x] with | none => none | some (p, m) => andOk p (match offT C.P t f, (fieldT C.P t f).bind (aggT C.P), (mkS m hp).val x with
    | some (off, n), some g, some (.d (.agg l)) => (ldD g n l off).bind justV
    | some (off, n), some g, some (.agg l) => (ldV g n l off).bind justV
    | _, _, _ => none)) := rfl
theorem eU_indexAddr : eU C q g ⟨dst, .indexAddr t x y, ty, pos, aft, gd⟩ sl hp = (match lkAll g sl [x, y] with | none => none | some (p, m) => andOk p (match elemT C.P t, (mkS m hp).val x, (mkS m hp).val y with
    | some e, some (.d (.sl sz l)), some (.d (.i _ i)) => if sizeT C.P e = some sz then justO (0 ≤ i ∧ i < (l.length : Int)) (.d (.cp (l.getD i.toNat (zD C.P e)).cells)) else none
    | some e, some (.row id sz off n), some (.d (.i _ i)) => if sizeT C.P e = some sz then justO (0 ≤ i ∧ i < (n : Int)) (.rp id sz (off + i.toNat) 0) else none
    | _, _, _ => none)) := rfl
theorem eU_index : eU C q g ⟨dst, .index t x y, ty, pos, aft, gd⟩ sl hp = (match lkAll g sl [x, y] with | none => none | some (p, m) => andOk p (match C.P.underlying t, (mkS m hp).val x, (mkS m hp).val y with
    | some .string, some (.d (.s b)), some (.d (.i _ i)) => justO (0 ≤ i ∧ i < (b.size : Int)) (.d (.i .u8 (b.data.toList.getD i.toNat 0).toNat))
    | _, _, _ => none)) := rfl
theorem eU_build {parts : Array (Nat × Operand)} : eU C q g ⟨dst, .build t parts, ty, pos, aft, gd⟩ sl hp = (match lkAll g sl (parts.toList.map (·.2)) with | none => none | some (p, m) => andOk p (match zeroT C.P t, placesT C.P t with
    | some z, some pl => (buildV (mkS m hp) pl (z.map .d) parts.toList).bind fun c => justV (mkAgg c)
    | _, _ => none)) := rfl
theorem eU_buildSlice {parts : Array (Nat × Operand)} : eU C q g ⟨dst, .buildSlice t n parts, ty, pos, aft, gd⟩ sl hp = (match lkAll g sl (parts.toList.map (·.2)) with | none => none | some (p, m) => andOk p (match elemT C.P t with
    | some e => match sizeT C.P e, zeroT C.P e, vals (mkS m hp) (parts.toList.map (·.2)) with
      | some (sz + 1), some z, some vs => match toDs (toD3 (mkS m hp)) vs with
        | some (ds, []) => if parts.toList.map (·.1) = List.range n ∧ n * (sz + 1) ≤ 16777216 ∧ z.length = sz + 1 then
            newObj (mkS m hp) dst (∀ d ∈ ds, d.fits (sz + 1)) (.row e (sz + 1) false ds) (.row (nm dst 0) (sz + 1) 0 n) else none
        | _ => none
      | _, _, _ => none
    | none => none)) := rfl
theorem eU_slice {lo hi mx : Option Operand} : eU C q g ⟨dst, .slice t x lo hi mx, ty, pos, aft, gd⟩ sl hp = (match lkAll g sl ([x] ++ lo.toList ++ hi.toList ++ mx.toList) with | none => none | some (p, m) => andOk p (match C.P.underlying t, (mkS m hp).val x with
    | some .string, some (.d (.s b)) => aopSliceS (mkS m hp) b lo hi mx
    | some (.slice e), some v => match sizeT C.P e with
      | some n => aopSlice (mkS m hp) n v lo hi mx
      | none => none
    | _, _ => none)) := by
  cases lo <;> cases hi <;> cases mx <;> rfl
theorem eU_makeMap : eU C q g ⟨dst, .makeMap t none, ty, pos, aft, gd⟩ sl hp = andOk True (newObj (mkS [] hp) dst True (.mp t [] []) (.mref (nm dst 0))) := rfl
theorem eU_lookup {cm : Bool} : eU C q g ⟨dst, .lookup t x y cm, ty, pos, aft, gd⟩ sl hp = (match lkAll g sl [x, y] with | none => none | some (p, m) => andOk p (match (mkS m hp).val x, (mkS m hp).val y with
    | some a, some b => aopLookup C (mkS m hp) t a b cm
    | _, _ => none)) := rfl
theorem eU_mapUpdate : eU C q g ⟨dst, .mapUpdate t x y z, ty, pos, aft, gd⟩ sl hp = (match lkAll g sl [x, y, z] with | none => none | some (p, m) => andOk p (match (mkS m hp).val x, (mkS m hp).val y, (mkS m hp).val z with
    | some a, some b, some c => aopMapUpdate C (mkS m hp) t a b c
    | _, _, _ => none)) := rfl
theorem getMp_mk : getMp (mkS sl hp) i = (match aget hp i with | some (.live (.mp _ ks vs)) => some (ks, vs) | some (.fz (.mp _ ks vs)) => some (ks, vs) | _ => none) := by
  unfold getMp mkS
  simp only
  cases aget hp i with
  | none => rfl
  | some h => cases h <;> (try rfl) <;> rename_i o <;> cases o <;> rfl
theorem eU_extract : eU C q g ⟨dst, .extract x i, ty, pos, aft, gd⟩ sl hp = (match lkAll g sl [x] with | none => none | some (p, m) => andOk p (match (mkS m hp).val x with
    | some (.tup l) => (l[i]?).bind justV
    | _ => none)) := rfl
theorem eU_makeFunc {fn : FuncId} {caps : Array Operand} : eU C q g ⟨dst, .makeFunc (.func fn) #[] caps, ty, pos, aft, gd⟩ sl hp = (match lkAll g sl caps.toList with | none => none | some (p, m) => andOk p (match vals (mkS m hp) caps.toList with
      | some vs => justV (match vs.mapM V.asD with | some ds => .d (.fn fn ds) | none => .fn fn vs)
      | none => none)) := by
  have : (#[] ++ caps : Array Operand).toList = caps.toList := by simp
  show (match lkAll g sl (#[] ++ caps : Array Operand).toList with | none => none | some (p, m) => _) = _
  rw [this]
  rfl
theorem eU_builtin {b : Builtin} {args : Array Operand} {ts : Array TypeId} : eU C q g ⟨dst, .call ⟨.builtin b, args, ts⟩, ty, pos, aft, gd⟩ sl hp = (match lkAll g sl args.toList with | none => none | some (p, m) => andOk p (match vals (mkS m hp) args.toList with
    | none => none
    | some vs => builtinV C (mkS m hp) dst b ts.toList vs)) := by
  have : (Op.call ⟨.builtin b, args, ts⟩).operands.toList = args.toList := by simp [Op.operands, Call.operands]
  show (match lkAll g sl (Op.call ⟨.builtin b, args, ts⟩).operands.toList with | none => none | some (p, m) => _) = _
  rw [this]
  rfl
theorem eU_call {fn : FuncId} {args : Array Operand} {ts : Array TypeId} : eU C q g ⟨dst, .call ⟨.value (.func fn), args, ts⟩, ty, pos, aft, gd⟩ sl hp = (match lkAll g sl args.toList with | none => none | some (p, m) => andOk p (match vals (mkS m hp) args.toList with
    | none => none
    | some vs => aopCall C q (mkS m hp) dst fn vs)) := by
  have : lkAll g sl (Op.call ⟨.value (.func fn), args, ts⟩).operands.toList = lkAll g sl args.toList := by
    simp [Op.operands, Call.operands, lkAll]
  show (match lkAll g sl (Op.call ⟨.value (.func fn), args, ts⟩).operands.toList with | none => none | some (p, m) => andOk p (match vals (mkS m hp) args.toList with
    | none => none
    | some vs => aopCall C q (mkS m hp) dst fn (vs ++ ([] : List D).map V.d))) = _
  rw [this]
  simp
theorem eU_callv {k : Nat} {args : Array Operand} {ts : Array TypeId} : eU C q g ⟨dst, .call ⟨.value (.tmp k), args, ts⟩, ty, pos, aft, gd⟩ sl hp = (match lkAll g sl (.tmp k :: args.toList) with | none => none | some (p, m) => andOk p (match vals (mkS m hp) args.toList with
    | none => none
    | some vs => match aget m k with
        | some (.d (.fn f ds)) => aopCall C q (mkS m hp) dst f (vs ++ ds.map .d)
        | some (.fn f caps) => aopCall C q (mkS m hp) dst f (vs ++ caps)
        | _ => none)) := by
  have : lkAll g sl (Op.call ⟨.value (.tmp k), args, ts⟩).operands.toList = lkAll g sl (.tmp k :: args.toList) := by
    simp [Op.operands, Call.operands]
  show (match lkAll g sl (Op.call ⟨.value (.tmp k), args, ts⟩).operands.toList with | none => none | some (p, m) => _) = _
  rw [this]
  rfl

theorem thenS_normal {n : St → Prop} {Q : Exit → St → Prop} {s : St} : thenS n Q .normal s = n s := rfl
theorem thenS_ret {n : St → Prop} {Q : Exit → St → Prop} {s : St} : thenS n Q .ret s = Q .ret s := rfl
theorem thenS_exit {n : St → Prop} {Q : Exit → St → Prop} {s : St} {i : Nat} : thenS n Q (.exit i) s = Q (.exit i) s := rfl
theorem inBlockS_normal {i : Nat} {Q : Exit → St → Prop} {s : St} : inBlockS i Q .normal s = Q .normal s := rfl
theorem inBlockS_ret {i : Nat} {Q : Exit → St → Prop} {s : St} : inBlockS i Q .ret s = Q .ret s := rfl
theorem inBlockS_exit {i j : Nat} {Q : Exit → St → Prop} {s : St} : inBlockS i Q (.exit j) s = (if j = i then Q .normal s else Q (.exit j) s) := rfl
theorem exitQ_normal {mv : Nat → List (Nat × TypeId × Nat)} {rs : List ResultVar} {r : O} {s : St} : exitQ C mv rs r .normal s = exitS C mv rs r s := rfl
theorem exitQ_ret {mv : Nat → List (Nat × TypeId × Nat)} {rs : List ResultVar} {r : O} {s : St} : exitQ C mv rs r .ret s = exitS C mv rs r s := rfl
theorem exitS_eq {mv : Nat → List (Nat × TypeId × Nat)} {rs : List ResultVar} {r : O} {s : St} : exitS C mv rs r s = (match exitO C s mv rs with
  | none => False
  | some (o, rd, tk) => (tk.filterMap id).Nodup ∧ ((tk.filterMap id).any fun i => rd.contains i) = false ∧ ole o r) := rfl
theorem enter_eq (args : List O) : enterS args = mkS (enterSl 0 args) (enterHp 0 args) := rfl
theorem dle_same (d : D) : dle d d = True := eq_true (dle_refl d)
theorem dles_same (l : List D) : dles l l = True := eq_true (dles_refl l)
theorem ole_same (d : O) : ole d d = True := eq_true (ole_refl d)
theorem resV_tmp {k : Nat} : resV C (mkS sl hp) (.tmp k) = aget sl k := rfl
theorem resV_cell {k t : Nat} : resV C (mkS sl hp) (.cell k t) = (match aggT C.P t, sizeT C.P t, aget sl k with
    | some g, some n, some (.ptr id off) => (getBox (mkS sl hp) id).bind fun c => ldV g n c off
    | _, _, _ => none) := rfl
end

end Go.Ev

namespace Go.Ev

/-! ## Tables of contracts -/
def addT (T : FuncId → List O → Option (Prop × O)) (f : FuncId) (e : List O → Option (Prop × O)) : FuncId → List O → Option (Prop × O) := fun g args => if g = f then e args else T g args
structure TabOk (P : Program) (T : FuncId → List O → Option (Prop × O)) : Prop where
  t : ∀ f args p r, T f args = some (p, r) → p → Sem P f args r
  e : ∀ f args r, T f args = some r → Enters P f
theorem TabOk.nil (P : Program) : TabOk P (fun _ _ => none) := ⟨fun _ _ _ _ h => (by cases h), fun _ _ _ h => (by cases h)⟩
theorem TabOk.add {P : Program} {T : FuncId → List O → Option (Prop × O)} (h : TabOk P T) {f : FuncId} {e : List O → Option (Prop × O)} (he : Enters P f) (hs : ∀ args p r, e args = some (p, r) → p → Sem P f args r) : TabOk P (addT T f e) := by
  refine ⟨fun g args p r hg hp => ?_, fun g args r hg => ?_⟩
  · unfold addT at hg
    split at hg
    · rename_i e'; subst e'; exact hs args p r hg hp
    · exact h.t g args p r hg hp
  · unfold addT at hg
    split at hg
    · rename_i e'; subst e'; exact he
    · exact h.e g args r hg
theorem cok_of {C : Cfg} (h : TabOk C.P C.T) (hm : C.P.follows .mixedOrders = true) : COk C := ⟨h.t, h.e, hm⟩
theorem addT_same {T : FuncId → List O → Option (Prop × O)} {f : FuncId} {e : List O → Option (Prop × O)} : addT T f e f = e := by funext args; simp [addT]
theorem addT_ne {T : FuncId → List O → Option (Prop × O)} {f g : FuncId} {e : List O → Option (Prop × O)} (h : g ≠ f) : addT T f e g = T g := by funext args; simp [addT, h]

/-! ## Loops -/
def firstR : Code → Option Nat
  | .region n _ _ => some n
  | .seq x _ => firstR x
  | .block _ c => firstR c
  | .loop c => firstR c
  | _ => none
/-- The next round's head. -/
structure LoopNext (n : Nat) (C : Cfg) {ι : Type} (I : ι → St) (J : ι → Prop) (μ : ι → Nat) (i : ι) (s : St) : Prop where
  h : ∃ j, J j ∧ μ j < μ i ∧ Sub C s (I j)
theorem LoopNext.mk1 (n : Nat) {C : Cfg} {ι : Type} {I : ι → St} {J : ι → Prop} {μ : ι → Nat} {i : ι} {s : St} (j : ι) (h1 : J j) (h2 : μ j < μ i) (h3 : Sub C s (I j)) : LoopNext n C I J μ i s := ⟨⟨j, h1, h2, h3⟩⟩
theorem AW.loopN {C : Cfg} {s : St} {Q : Exit → St → Prop} {ι : Type} (n : Nat) {c : Code} (_ : firstR c = some n) (I : ι → St) (J : ι → Prop) (μ : ι → Nat) (i0 : ι) (hj : J i0) (h0 : Sub C s (I i0))
    (round : ∀ i, J i → AW C c (I i) (thenS (LoopNext n C I J μ i) Q)) : AW C (.loop c) s Q := AW.loop I J μ i0 hj h0 fun i hi => (round i hi).mono fun e s h => by
  cases e with
  | normal => exact LoopNext.h h
  | _ => exact h

def regionId : Code → Option Nat
  | .region n _ _ => some n
  | _ => none
/-- A region at which something of its own was done. -/
structure AWh (C : Cfg) (c : Code) (s : St) (Q : Exit → St → Prop) : Prop where
  h : AW C c s Q
theorem AW.atR {C : Cfg} {s : St} {Q : Exit → St → Prop} (n : Nat) {c : Code} (_ : regionId c = some n) (h : AWh C c s Q) : AW C c s Q := h.h

/-! ## A state with other names: the names are told by the slots -/
mutual
def rhoV : V → V → List (Nat × Nat)
  | .ptr a _, .ptr b _ => [(b, a)]
  | .row a _ _ _, .row b _ _ _ => [(b, a)]
  | .rp a _ _ _, .rp b _ _ _ => [(b, a)]
  | .mref a, .mref b => [(b, a)]
  | .agg l, .agg m => rhoVs l m
  | .tup l, .tup m => rhoVs l m
  | .fn _ l, .fn _ m => rhoVs l m
  | .opt _ x, .opt _ y => rhoV x y
  | _, _ => []
def rhoVs : List V → List V → List (Nat × Nat)
  | x :: l, y :: m => rhoV x y ++ rhoVs l m
  | _, _ => []
end
def rhoSl (sl : List (Nat × V)) : List (Nat × V) → List (Nat × Nat)
  | [] => []
  | (i, y) :: r => (match aget sl i with | some x => rhoV x y | none => []) ++ rhoSl sl r
def rhoO : Option Obj' → Option Obj' → List (Nat × Nat)
  | some (.box _ c), some (.box _ c') => rhoVs c c'
  | some (.mp _ _ v), some (.mp _ _ v') => rhoVs v v'
  | _, _ => []
def rhoHp (hp hp' : List (Nat × HS)) : List (Nat × Nat) → List (Nat × Nat)
  | [] => []
  | (b, a) :: r => (match aget hp a, aget hp' b with | some g, some g' => rhoO g.obj? g'.obj? | _, _ => []) ++ rhoHp hp hp' r
def rhoDd : List (Nat × Nat) → List (Nat × Nat)
  | [] => []
  | (b, a) :: r => match aget r b with | some _ => rhoDd r | none => (b, a) :: rhoDd r
def rho1 (hp hp' : List (Nat × HS)) (l : List (Nat × Nat)) : List (Nat × Nat) := l ++ rhoHp hp hp' l
theorem sub_auto {C : Cfg} {sl sl' : List (Nat × V)} {hp hp' : List (Nat × HS)} (h : ∀ ρ, rhoDd (rho1 hp hp' (rhoDd (rho1 hp hp' (rhoSl sl sl')))) = ρ → slSub (aget ρ) (nfL hp') sl sl' ∧ hpSub (aget ρ) (nfL hp') hp hp' ∧ (ρ.map (·.2)).Nodup) :
    Sub C (mkS sl hp) (mkS sl' hp') := by
  obtain ⟨h1, h2, h3⟩ := h _ rfl
  exact sub_mk _ h1 h2 h3

/-! ## Steps that do not walk the rest of the code -/
theorem AW.runK {C : Cfg} {sl : List (Nat × V)} {hp : List (Nat × HS)} {Q : Exit → St → Prop} (hC : COk C) {id : Nat} {l : List Oper} (h : ∀ K : St → Prop, K = Q .normal → erun C l.toArray K l sl hp) :
    AW C (.region id l.toArray false) (mkS sl hp) Q := AW.run hC (h _ rfl)
theorem AW.drawK {C : Cfg} {sl : List (Nat × V)} {hp : List (Nat × HS)} {Q : Exit → St → Prop} (hC : COk C) {id : Nat} {l : List Oper} (hs : sCheck l.toArray = true) (h : ∀ K : St → Prop, K = Q .normal → edraw C K l.toArray l sl hp) :
    AW C (.region id l.toArray true) (mkS sl hp) Q := AW.drawL hC hs (h _ rfl)
theorem AWh.runK {C : Cfg} {sl : List (Nat × V)} {hp : List (Nat × HS)} {Q : Exit → St → Prop} (hC : COk C) {id : Nat} {l : List Oper} (h : ∀ K : St → Prop, K = Q .normal → erun C l.toArray K l sl hp) :
    AWh C (.region id l.toArray false) (mkS sl hp) Q := ⟨AW.runK hC h⟩
theorem AWh.drawK {C : Cfg} {sl : List (Nat × V)} {hp : List (Nat × HS)} {Q : Exit → St → Prop} (hC : COk C) {id : Nat} {l : List Oper} (hs : sCheck l.toArray = true) (h : ∀ K : St → Prop, K = Q .normal → edraw C K l.toArray l sl hp) :
    AWh C (.region id l.toArray true) (mkS sl hp) Q := ⟨AW.drawK hC hs h⟩
theorem erun_g {C : Cfg} {ops : Array Oper} {K : St → Prop} {l : List Oper} {sl : List (Nat × V)} {hp : List (Nat × HS)} (h : erun C ops K l sl hp) : erun C ops K l sl hp := h
theorem edraw_g {C : Cfg} {ops : Array Oper} {K : St → Prop} {l : List Oper} {sl : List (Nat × V)} {hp : List (Nat × HS)} (h : edraw C K ops l sl hp) : edraw C K ops l sl hp := h
theorem exitS_g {C : Cfg} {mv : Nat → List (Nat × TypeId × Nat)} {rs : List ResultVar} {r : O} {s : St} (h : exitS C mv rs r s) : exitS C mv rs r s := h
theorem hCheck_g {u : List (Nat × Nat)} {f : List (List Nat × List Nat)} {p : Prop} (h1 : hCheck u f = true) (h2 : p) : hCheck u f = true ∧ p := ⟨h1, h2⟩
theorem thenS_n {n : St → Prop} {Q : Exit → St → Prop} {s : St} (h : n s) : thenS n Q .normal s := h
theorem thenS_r {n : St → Prop} {Q : Exit → St → Prop} {s : St} (h : Q .ret s) : thenS n Q .ret s := h
theorem thenS_e {n : St → Prop} {Q : Exit → St → Prop} {s : St} {i : Nat} (h : Q (.exit i) s) : thenS n Q (.exit i) s := h
theorem inBlockS_n {i : Nat} {Q : Exit → St → Prop} {s : St} (h : Q .normal s) : inBlockS i Q .normal s := h
theorem inBlockS_r {i : Nat} {Q : Exit → St → Prop} {s : St} (h : Q .ret s) : inBlockS i Q .ret s := h
theorem inBlockS_e {i : Nat} {Q : Exit → St → Prop} {s : St} (h : Q .normal s) : inBlockS i Q (.exit i) s := by
  rw [inBlockS_exit, if_pos rfl]; exact h
theorem inBlockS_e2 {i j : Nat} {Q : Exit → St → Prop} {s : St} (hn : decide (j = i) = false) (h : Q (.exit j) s) : inBlockS i Q (.exit j) s := by
  rw [inBlockS_exit, if_neg (of_decide_eq_false hn)]; exact h
theorem exitQ_r {C : Cfg} {mv : Nat → List (Nat × TypeId × Nat)} {rs : List ResultVar} {r : O} {s : St} (h : exitS C mv rs r s) : exitQ C mv rs r .ret s := h
theorem exitQ_n {C : Cfg} {mv : Nat → List (Nat × TypeId × Nat)} {rs : List ResultVar} {r : O} {s : St} (h : exitS C mv rs r s) : exitQ C mv rs r .normal s := h
theorem sem_of_awR {C : Cfg} {f : FuncId} {fn : Func} {c : Code} {args : List O} {r : O} (mv : Nat → List (Nat × TypeId × Nat)) {rs : List ResultVar} (hf : C.P.funcs[f]? = some fn) (hb : fn.body = some c) (hr : fn.results.toList = rs) (hN : fn.ntmps = C.N)
    (hn : Nat.ble args.length fn.ntmps = true) (hok : args.all argOk = true) (h : AW C c (mkS (enterSl 0 args) (enterHp 0 args)) (exitQ C mv rs r)) : Sem C.P f args r :=
  sem_of_aw mv hf hb hN (Nat.le_of_ble_eq_true hn) hok (hr ▸ h)

/-! ## Small facts -/
theorem w64 {n : Int} (h1 : -9223372036854775808 ≤ n) (h2 : n ≤ 9223372036854775807) : IntKind.i64.wrap n = n := by
  unfold IntKind.wrap
  simp only [IntKind.bits, IntKind.signed, Bool.true_and]
  split <;> rename_i h <;> simp only [decide_eq_true_eq, ge_iff_le] at h <;> omega
theorem wu8 {n : Int} (h1 : 0 ≤ n) (h2 : n ≤ 255) : IntKind.u8.wrap n = n := by
  simp only [IntKind.wrap, IntKind.bits, IntKind.signed, Bool.false_and]
  rw [if_neg (by simp)]
  omega
/-- Two values are one (a test whose instance does not bear the values). -/
def eqB {α : Type} [DecidableEq α] (a b : α) : Bool := decide (a = b)
theorem eqB_t {α : Type} [DecidableEq α] (a b : α) : (eqB a b = true) = (a = b) := by simp [eqB]
theorem eqB_f {α : Type} [DecidableEq α] (a b : α) : (eqB a b = false) = ¬a = b := by simp [eqB]
theorem dec_f {p : Prop} {inst : Decidable p} : (@decide p inst = false) = ¬p := by simp
theorem dec_t {p : Prop} {inst : Decidable p} : (@decide p inst = true) = p := by simp
theorem drop_getD {α : Type} {l : List α} {i : Nat} (z : α) (h : i < l.length) : l.drop i = l.getD i z :: l.drop (i + 1) := by
  rw [List.drop_eq_getElem_cons h]
  simp [List.getD, h]
theorem take_getD {α : Type} {l : List α} {i : Nat} (z : α) (h : i < l.length) : l.take (i + 1) = l.take i ++ [l.getD i z] := by
  rw [List.take_add_one]
  simp [List.getD, h]
end Go.Ev
