/- Tools and contracts under the laws of this seat: DevEvR, DevEvS, DevEvT, DevEvU, DevEvV, DevEvW, DevEvX, DevEvY, DevEvZ, DevEvZb. -/
import Derived.Test.YtlejldoefoppaaaGreatDoorE01
set_option linter.unusedVariables false
set_option linter.unusedSimpArgs false
namespace Go.Ev
section
variable {C : Cfg} {s s' : St}
def qbg (s s' : St) (l : List Nat) : Prop := ∀ id ∈ l, s'.hp id = s.hp id
def qd3 (s s' : St) (l : List Operand) : Prop := ∀ t, Operand.tmp t ∈ l → s'.sl t = s.sl t
theorem qg6 {x : Operand} (h : ∀ t, x = .tmp t → s'.sl t = s.sl t) : s'.val x = s.val x := by
 cases x with
 | tmp t => exact h t rfl
 | _ => rfl
theorem qhx : ∀ {l : List Operand}, qd3 s s' l → vals s' l = vals s l
 | [], _ => rfl
 | x :: l, h => by
   simp only [vals]
   rw [qg6 (s := s) (s' := s') (x := x) (fun t e => h t (by simp [e])), qhx fun t ht => h t (by simp [ht])]
theorem qeq {id : Nat} (h : s'.hp id = s.hp id) : qbk s' id = qbk s id := by simp [qbk, h]
theorem qev {id : Nat} (h : s'.hp id = s.hp id) : qb5 s' id = qb5 s id := by simp [qb5, h]
theorem qnn {id : Nat} (h : s'.hp id = s.hp id) : qda s' id = qda s id := by simp [qda, h]
theorem qgi {v : V} {d : D} {is : List Nat} (h : toD1 s v = some (d, is)) (hs : qbg s s' is) : toD1 s' v = some (d, is) := by
 unfold toD1 at h ⊢
 split at h
 ·exact h
 ·rename_i id sz off n
  split at h
  ·rename_i x1 x2 x3 hr
   split at h
   ·rename_i hc
    cases h
    rw [qeq (hs _ (by simp)), hr]
    simp [hc]
   ·cases h
  ·cases h
 ·cases h
theorem qef {f f' : V → Option (D × List Nat)} (hf : ∀ {v d is}, f v = some (d, is) → qbg s s' is → f' v = some (d, is)) :
 ∀ {l : List V} {xs : List D} {is : List Nat}, toDs f l = some (xs, is) → qbg s s' is → toDs f' l = some (xs, is)
 | [], xs, is, h, _ => h
 | v :: l, xs, is, h, hs => by
   unfold toDs at h ⊢
   split at h
   ·rename_i x i ys js h1 h2
    cases h
    rw [hf h1 fun k hk => hs k (by simp [hk]), qef hf h2 fun k hk => hs k (by simp [hk])]
   ·cases h
theorem qlz {v : V} {d : D} {is : List Nat} (h : toD2 s v = some (d, is)) (hs : qbg s s' is) : toD2 s' v = some (d, is) := by
 unfold toD2 at h ⊢
 split at h
 ·simp only [Option.map_eq_some_iff] at h
  obtain ⟨⟨xs, js⟩, h1, h2⟩ := h
  cases h2
  simp only [qef qgi h1 hs, Option.map_some]
 ·rename_i id off
  split at h
  ·rename_i c hc
   simp only [Option.map_eq_some_iff] at h
   obtain ⟨⟨xs, js⟩, h1, h2⟩ := h
   cases h2
   rw [qnn (hs _ (by simp)), hc]
   simp only [qef qgi h1 fun k hk => hs k (by simp [hk]), Option.map_some]
  ·cases h
 ·rename_i id sz j off
  split at h
  ·rename_i x1 x2 x3 hr
   split at h
   ·rename_i hc
    simp only [Option.map_eq_some_iff] at h
    obtain ⟨d', h1, h2⟩ := h
    cases h2
    rw [qeq (hs _ (by simp)), hr]
    simp [hc, h1]
   ·cases h
  ·cases h
 ·exact qgi h hs
theorem qo8 {id : Nat} (h : s'.hp id = s.hp id) : qhm s' id = qhm s id := by simp [qhm, h]
theorem ql0 {v : V} {d : D} {is : List Nat} (h : toD3 s v = some (d, is)) (hs : qbg s s' is) : toD3 s' v = some (d, is) := by
 unfold toD3 at h ⊢
 split at h
 ·simp only [Option.map_eq_some_iff] at h
  obtain ⟨⟨xs, js⟩, h1, h2⟩ := h
  cases h2
  simp only [qef qlz h1 hs, Option.map_some]
 ·split at h
  ·rename_i ks vs hm
   simp only [Option.map_eq_some_iff] at h
   obtain ⟨⟨xs, js⟩, h1, h2⟩ := h
   cases h2
   rw [qo8 (hs _ (by simp)), hm]
   simp only [qef qlz h1 fun k hk => hs k (by simp [hk]), Option.map_some]
  ·cases h
 ·exact qlz h hs
theorem qib {sz : Nat} {v : V} {l : List D} {is : List Nat} (h : qfj s sz v = some (l, is)) (hs : qbg s s' is) : qfj s' sz v = some (l, is) := by
 unfold qfj at h ⊢
 split at h
 ·exact h
 ·exact h
 ·split at h
  ·rename_i x1 x2 x3 hr
   split at h
   ·rename_i hc
    cases h
    rw [qeq (hs _ (by simp)), hr]
    simp [hc]
   ·cases h
  ·cases h
 ·cases h
theorem ql1 {t sz : Nat} {v : V} {o : O} {id : Option Nat} (h : qdf s t sz v = some (o, id)) (hs : ∀ i, id = some i → s'.hp i = s.hp i) : qdf s' t sz v = some (o, id) := by
 unfold qdf at h ⊢
 split at h
 ·exact h
 ·split at h
  ·rename_i x1 x2 x3 x4 hr
   split at h
   ·rename_i hc
    cases h
    rw [qev (hs _ rfl), hr]
    simp [hc]
   ·cases h
  ·cases h
 ·cases h
def qo9 (s s' : St) (tk : List (Option Nat)) : Prop := ∀ i, some i ∈ tk → s'.hp i = s.hp i
theorem qe6 {mv : List (Nat × TypeId × Nat)} : ∀ {l : List V} {j : Nat} {os : List O} {rd : List Nat} {tk : List (Option Nat)}, qcp s mv j l = some (os, rd, tk) → qbg s s' rd → qo9 s s' tk →
 qcp s' mv j l = some (os, rd, tk)
 | [], j, os, rd, tk, h, _, _ => h
 | v :: l, j, os, rd, tk, h, hr, ht => by
   unfold qcp at h ⊢
   split at h
   ·cases h
   ·rename_i os' rd' tk' h1
    split at h
    ·rename_i t sz hm
     split at h
     ·rename_i o id h2
      cases h
      rw [qe6 h1 hr fun i hi => ht i (by simp [hi])]
      simp only
      rw [ql1 h2 fun i hi => ht i (by simp [hi])]
     ·cases h
    ·rename_i hm
     split at h
     ·rename_i x is h2
      cases h
      rw [qe6 h1 (fun i hi => hr i (by simp [hi])) ht]
      simp only
      rw [qgi h2 fun i hi => hr i (by simp [hi])]
     ·cases h
theorem q00z {mv : List (Nat × TypeId × Nat)} {v : V} {o : O} {rd : List Nat} {tk : List (Option Nat)} (h : argO s mv v = some (o, rd, tk)) (hr : qbg s s' rd) (ht : qo9 s s' tk) : argO s' mv v = some (o, rd, tk) := by
 unfold argO at h ⊢
 split at h
 ·simp only [Option.map_eq_some_iff] at h
  obtain ⟨⟨x, is⟩, h1, h2⟩ := h
  cases h2
  simp only [ql0 h1 hr, Option.map_some]
 ·split at h
  ·split at h
   ·split at h
    ·rename_i hob
     split at h
     ·rename_i et
      simp only [Option.map_eq_some_iff] at h
      obtain ⟨⟨x, is, k⟩, h1, h2⟩ := h
      cases h2
      rw [ht _ (by simp), hob]
      simp only [et, if_true, qe6 h1 hr (fun i hi => ht i (by simp [hi])), Option.map_some]
     ·cases h
    ·cases h
   ·cases h
  split at h
  ·simp only [Option.map_eq_some_iff] at h
   obtain ⟨⟨x, is, k⟩, h1, h2⟩ := h
   cases h2
   simp only [qe6 h1 hr ht, Option.map_some]
  ·simp only [Option.map_eq_some_iff] at h
   obtain ⟨⟨x, is, k⟩, h1, h2⟩ := h
   cases h2
   simp only [qe6 h1 hr ht, Option.map_some]
  ·simp only [Option.map_eq_some_iff] at h
   obtain ⟨⟨x, id⟩, h1, h2⟩ := h
   cases h2
   simp only [ql1 h1 fun i hi => ht i (by simp [hi]), Option.map_some]
theorem qic {mv : Nat → List (Nat × TypeId × Nat)} : ∀ {l : List V} {j : Nat} {os : List O} {rd : List Nat} {tk : List (Option Nat)}, qc1 s mv j l = some (os, rd, tk) → qbg s s' rd → qo9 s s' tk →
 qc1 s' mv j l = some (os, rd, tk)
 | [], j, os, rd, tk, h, _, _ => h
 | v :: l, j, os, rd, tk, h, hr, ht => by
   unfold qc1 at h ⊢
   split at h
   ·rename_i o rd1 tk1 os' rd2 tk2 h1 h2
    cases h
    rw [q00z h1 (fun i hi => hr i (by simp [hi])) fun i hi => ht i (by simp [hi]), qic h2 (fun i hi => hr i (by simp [hi])) fun i hi => ht i (by simp [hi])]
   ·cases h
def Delta.foot (d : Delta) : List Nat := d.rd ++ d.hp.map (·.1)
theorem qdu {dst : Option Tmp} {ok : Prop} {o : Obj'} {v : V} {r : Res} (h : newObj s dst ok o v = some r) (hs : qbg s s' r.dl.foot) : newObj s' dst ok o v = some r := by
 obtain ⟨h1, rfl⟩ := qck h
 unfold newObj at h ⊢
 split at h
 ·rw [hs _ (by simp [Delta.foot])]; exact h
 ·cases h
theorem qw4 {dz : TypeId → D} {g : Bool} {n : Nat} {p : V} {r : Res} (h : loadAt dz s g n p = some r) (hs : qbg s s' r.dl.foot) : loadAt dz s' g n p = some r := by
 unfold loadAt at h ⊢
 split at h
 ·split at h
  ·rename_i c hc
   simp only [Option.map_eq_some_iff] at h
   obtain ⟨v, h1, rfl⟩ := h
   rw [qnn (hs _ (by simp [Delta.foot])), hc]
   simp [h1]
  ·cases h
 ·split at h
  ·rename_i x1 x2 x3 x4 hr
   split at h
   ·rename_i hc
    cases h
    rw [qeq (hs _ (by simp [Delta.foot])), hr]
    simp [hc]
   ·cases h
  ·cases h
 ·exact h
 ·cases h
theorem qut {dz : TypeId → D} {n : Nat} {p x : V} {r : Res} (h : storeAt dz s n p x = some r) (hs : qbg s s' r.dl.foot) : storeAt dz s' n p x = some r := by
 unfold storeAt at h ⊢
 split at h
 ·cases h
 ·rename_i xc hx
  split at h
  ·cases h
  ·rename_i hc0
   simp only [hc0, if_false]
   split at h
   ·split at h
    ·rename_i t c hl
     split at h
     ·rename_i hc
      cases h
      rw [hs _ (by simp [Delta.foot]), hl]
      simp [hc]
     ·cases h
    ·cases h
   ·split at h
    ·rename_i t sz' z l xs hl hd
     split at h
     ·rename_i hc
      cases h
      rw [hs _ (by simp [Delta.foot]), hl, qef qgi hd fun k hk => by simp at hk]
      simp only [hc.1, hc.2.1, hc.2.2.1, hc.2.2.2, and_self, if_true]
     ·cases h
    ·rename_i t sz' z l xs k is hl hd
     split at h
     ·rename_i hc
      cases h
      have hcall : q0t s' (k :: is) [] = q0t s (k :: is) [] := by
       unfold q0t
       refine congrArg (· ++ _) (List.map_congr_left fun i hi => ?_)
       rw [hs i (by simp only [Delta.foot]; exact List.mem_append_left _ hi)]
      rw [hs _ (by simp only [Delta.foot, List.map_cons]; exact List.mem_append_right _ (List.mem_cons_self ..)), hl, qef qgi hd fun i hi => hs i (by simp only [Delta.foot]; exact List.mem_append_left _ hi)]
      simp only [hcall]
      rw [if_pos hc]
     ·cases h
    ·cases h
   ·cases h
theorem qno {x y : V} {rd : List Nat} (h : qgu s x = some (y, rd)) (hs : qbg s s' rd) : qgu s' x = some (y, rd) := by
 unfold qgu at h ⊢
 split at h
 ·exact h
 ·exact h
 ·split at h
  ·rename_i x1 x2 x3 x4 hr
   split at h
   ·rename_i hc
    cases h
    rw [qeq (hs _ (by simp)), hr]
    simp only [hc.1, hc.2.1, hc.2.2, and_self, if_true]
   ·cases h
  ·cases h
 ·cases h
theorem qw5 {op : BinOp} {t : TypeId} {x y : V} {r : Res} (h : qf2 C s op t x y = some r) (hs : qbg s s' r.dl.foot) : qf2 C s' op t x y = some r := by
 unfold qf2 at h ⊢
 split at h
 ·exact h
 ·exact h
 ·exact h
 ·exact h
 ·split at h
  ·rename_i hc
   simp only [hc, if_true]
   split at h
   ·rename_i v rd hn
    cases h
    rw [qno hn fun k hk => hs k (by simp [Delta.foot, hk])]
   ·rename_i v rd hn
    cases h
    rw [qno hn fun k hk => hs k (by simp [Delta.foot, hk])]
   ·cases h
  ·cases h
 ·exact h
 ·cases h
theorem qid {x : Option Operand} {z : Int} (h : qd3 s s' x.toList) : qbc s' x z = qbc s x z := by
 cases x with
 | none => rfl
 | some o => simp only [qbc]; rw [qg6 (s := s) fun t e => h t (by simp [e])]
theorem qtq {n : Nat} {x : V} {lo hi mx : Option Operand} {r : Res} (h1 : qd3 s s' lo.toList) (h2 : qd3 s s' hi.toList) (h3 : qd3 s s' mx.toList)
 (h : qeo s n x lo hi mx = some r) (hs : qbg s s' r.dl.foot) : qeo s' n x lo hi mx = some r := by
 unfold qeo at h ⊢
 have hm : ∀ {m}, mx = some m → s'.val m = s.val m := fun {m} e => qg6 fun t ht => h3 t (by simp [e, ht])
 simp only [qid h1, qid h2]
 split at h
 ·exact h
 ·split at h
  ·rename_i hc
   rw [if_pos hc]
   split at h
   ·exact h
   ·rename_i m hl hh
    rw [hm rfl]
    exact h
   ·cases h
  ·cases h
 ·rename_i id sz off k
  split at h
  ·rename_i x1 x2 x3 x4 l hh hr hl hhi
   split at h
   ·rename_i hc
    cases h
    rw [qeq (hs _ (by simp [Delta.foot])), hr]
    simp only [hl, hhi]
    rw [if_pos hc]
   ·cases h
  ·rename_i x1 x2 x3 x4 l hh m hr hl hhi
   split at h
   ·rename_i mm hmm
    split at h
    ·rename_i hc
     cases h
     rw [qeq (hs _ (by simp [Delta.foot])), hr]
     simp only [hl, hhi, hm rfl, hmm]
     rw [if_pos hc]
    ·cases h
   ·cases h
  ·cases h
 ·cases h
theorem qrb {b : ByteArray} {lo hi mx : Option Operand} {r : Res} (h1 : qd3 s s' lo.toList) (h2 : qd3 s s' hi.toList)
 (h : qd7 s b lo hi mx = some r) : qd7 s' b lo hi mx = some r := by
 unfold qd7 at h ⊢
 simp only [qid h1, qid h2]
 exact h
theorem qrc {dst : Option Tmp} {ts tx : TypeId} {x y : V} {r : Res} (h : qd8 C s dst ts tx x y = some r) (hs : qbg s s' r.dl.foot) : qd8 C s' dst ts tx x y = some r := by
 unfold qd8 at h ⊢
 split at h
 ·cases h
 ·rename_i e he
  split at h
  ·rename_i sz by_ zl h1 h2 h3 h4
   split at h
   ·cases h
   ·rename_i hz
    simp only [hz, if_false]
    split at h
    ·cases h
    ·rename_i ys rd hel
     split at h
     ·simp only [Option.map_eq_some_iff] at h
      obtain ⟨r', hr', rfl⟩ := h
      rw [qib hel fun k hk => hs k (by simp [Delta.foot, hk])]
      simp only [qdu hr' fun k hk => hs k (by
       obtain ⟨_, rfl⟩ := qck hr'
       simpa [Delta.foot] using Or.inr (by simpa [Delta.foot] using hk)), Option.map_some]
     ·split at h
      ·cases h
      ·rename_i t sz'' z l hl
       split at h
       ·rename_i hc
        split at h
        ·rename_i hn
         split at h
         ·cases h
         ·rename_i hrd
          simp only [Option.map_eq_some_iff] at h
          obtain ⟨r', hr', rfl⟩ := h
          rw [qib hel fun k hk => hs k (by simp [Delta.foot, hk]), qev (hs _ (by simp [Delta.foot])), hl]
          have := qdu (s' := s') hr' fun k hk => hs k (by
           obtain ⟨_, rfl⟩ := qck hr'
           simp [Delta.foot] at hk
           simp [Delta.foot, hk])
          simp only [hc.1, hc.2.1, hc.2.2.1, hc.2.2.2, and_self, if_true, hn, hrd, this, Option.map_some]
          simp
        ·rename_i hn
         cases h
         rw [qib hel fun k hk => hs k (by simp [Delta.foot, hk]), qev (hs _ (by simp [Delta.foot])), hl]
         simp only [hc.1, hc.2.1, hc.2.2.1, hc.2.2.2, and_self, if_true, hn, if_false]
       ·cases h
     ·cases h
  ·cases h
theorem qli {dst : Option Tmp} {f : FuncId} {vs : List V} {r : Res} (h : qcw C true s dst f vs = some r) (hs : qbg s s' r.dl.foot) : qcw C true s' dst f vs = some r := by
 unfold qcw at h ⊢
 split at h
 ·cases h
 ·rename_i os rd tks ha
  split at h
  ·cases h
  ·rename_i p r' hT
   simp only at h
   generalize hF : (if rd.filter (fun id => (s.hp id).isLive) = [] ∨ r'.flat = true then [] else rd.filter (fun id => (s.hp id).isLive)) = fz at h
   split at h
   ·cases h
   ·rename_i hc
    have hsub : ∀ k ∈ fz, k ∈ rd := fun k hk => by
     rw [← hF] at hk
     split at hk
     ·cases hk
     ·exact (List.mem_filter.1 hk).1
    have hdl : r.dl.rd = rd ∧ (∀ i ∈ tks.filterMap id, i ∈ r.dl.hp.map (·.1)) ∧ ∀ d, dst = some d → ∀ p ∈ (inO (16 * d) r').2.1, p.1 ∈ r.dl.hp.map (·.1) := by
     have hk : ∀ i ∈ tks.filterMap id, i ∈ (q0t s fz (tks.filterMap id)).map (·.1) := fun i hi => by
      simp only [q0t, List.map_append, List.map_map, List.mem_append]
      exact .inr (List.mem_map.2 ⟨i, hi, rfl⟩)
     split at h
     ·split at h
      ·simp only [Option.some.injEq] at h; rw [← h]
       exact ⟨rfl, hk, fun d e => by cases e⟩
      ·cases h
     ·split at h
      ·cases h
      ·split at h
       ·simp only [Option.some.injEq] at h; rw [← h]
        refine ⟨rfl, fun i hi => ?_, fun d e p hp => ?_⟩
        ·rw [List.map_append]; exact List.mem_append_left _ (hk i hi)
        ·cases e; rw [List.map_append]; exact List.mem_append_right _ (List.mem_map.2 ⟨p, hp, rfl⟩)
       ·split at h
        ·split at h
         ·simp only [Option.some.injEq] at h; rw [← h]
          refine ⟨rfl, fun i hi => ?_, fun d e p hp => ?_⟩
          ·rw [List.map_append, List.map_append]; exact List.mem_append_right _ (List.mem_append_left _ (hk i hi))
          ·cases e; rw [List.map_append, List.map_append]; exact List.mem_append_right _ (List.mem_append_right _ (List.mem_map.2 ⟨p, hp, rfl⟩))
         ·cases h
        ·cases h
    have hrd : qbg s s' rd := fun k hk => hs k (by simp [Delta.foot, hdl.1, hk])
    have hta : qo9 s s' tks := fun i hi => hs i (List.mem_append_right _ (hdl.2.1 i (List.mem_filterMap.2 ⟨some i, hi, rfl⟩)))
    rw [qic ha hrd hta]
    have hfl : rd.filter (fun id => (s'.hp id).isLive) = rd.filter (fun id => (s.hp id).isLive) := List.filter_congr fun k hk => by rw [hrd k hk]
    have hcall : ∀ z, q0t s' fz z = q0t s fz z := fun z => by
     unfold q0t
     congr 1
     exact List.map_congr_left fun k hk => by rw [hrd k (hsub k hk)]
    have hin : ∀ d, dst = some d → ((inO (16 * d) r').2.1.all fun p => (s'.hp p.1).isFree) = ((inO (16 * d) r').2.1.all fun p => (s.hp p.1).isFree) := fun d hd => by
     have e : ∀ p ∈ (inO (16 * d) r').2.1, s'.hp p.1 = s.hp p.1 := fun p hp => hs p.1 (List.mem_append_right _ (hdl.2.2 d hd p hp))
     rw [Bool.eq_iff_iff, List.all_eq_true, List.all_eq_true]
     exact ⟨fun hh p hp => by rw [← e p hp]; exact hh p hp, fun hh p hp => by rw [e p hp]; exact hh p hp⟩
    simp only [hT, hfl, hF]
    rw [if_neg hc]
    simp only [hcall]
    cases dst with
    | none => exact h
    | some d =>
      simp only at h ⊢
      rw [hin d rfl]
      exact h
theorem quu {sz : Nat} {g : List D → Option (Prop × List D)} {vs : List V} {r : Res} (h : qd5 s sz g vs = some r) (hs : qbg s s' r.dl.foot) : qd5 s' sz g vs = some r := by
 unfold qd5 at h ⊢
 split at h
 ·split at h
  ·rename_i hl
   split at h
   ·split at h
    ·cases h
     rw [qev (hs _ (by simp [Delta.foot])), hl]
     simp only [*, and_self, if_true]
    ·cases h
   ·cases h
  ·cases h
 ·cases h
theorem quv {sz : Nat} {g : List D → Option (Prop × List D)} {vs : List V} {dst : Option Tmp} {f : FuncId} {r : Res} (h0 : qd5 s sz g vs = none) (h : qcw C true s dst f vs = some r) (hs : qbg s s' r.dl.foot) : qd5 s' sz g vs = none := by
 cases h1 : qd5 s' sz g vs with
 | none => rfl
 | some r1 =>
   exfalso
   unfold qd5 at h0 h1
   split at h1
   ·rename_i id sz' off n
    split at h1
    ·rename_i t sz'' z l hl
     split at h1
     ·rename_i hc
      split at h1
      ·rename_i p l' hg
       -- the call looks at the row
       have hid : id ∈ r.dl.foot := by
        obtain ⟨e1, e2, e3, e4, e5⟩ := hc
        subst e1; subst e2; subst e3
        unfold qcw at h
        split at h
        ·cases h
        ·rename_i os rd tks ha
         have hin : id ∈ rd ∨ some id ∈ tks := by
          unfold qc1 at ha
          split at ha
          ·rename_i o rd1 tk1 os' rd2 tk2 q1 q2
           cases ha
           have : id ∈ rd1 ∨ some id ∈ tk1 := by
            unfold argO at q1
            split at q1
            ·simp only [toD3, toD2, toD1, Option.map_eq_some_iff, Prod.mk.injEq] at q1
             obtain ⟨⟨d, is⟩, q3, _, q4, _⟩ := q1
             subst q4
             split at q3
             ·split at q3
              ·cases q3; exact .inl (by simp)
              ·cases q3
             ·cases q3
            ·split at q1
             ·cases q1
             ·simp only [Option.map_eq_some_iff, Prod.mk.injEq] at q1
              obtain ⟨⟨o', i'⟩, q3, _, _, q4⟩ := q1
              subst q4
              simp only [qdf] at q3
              split at q3
              ·split at q3
               ·cases q3; exact .inr (by simp)
               ·cases q3
              ·cases q3
           rcases this with q | q
           ·exact .inl (List.mem_append_left _ q)
           ·exact .inr (List.mem_append_left _ q)
          ·cases ha
         split at h
         ·cases h
         ·rename_i p2 r2 hT
          simp only at h
          split at h
          ·cases h
          ·have key : r.dl.rd = rd ∧ ∀ i ∈ tks.filterMap (fun x => x), i ∈ r.dl.hp.map (·.1) := by
            have hk : ∀ fz, ∀ i ∈ tks.filterMap (fun x => x), i ∈ (q0t s fz (tks.filterMap (fun x => x))).map (·.1) := fun fz i hi => by
             simp only [q0t, List.map_append, List.map_map, List.mem_append]
             exact .inr (List.mem_map.2 ⟨i, hi, rfl⟩)
            (repeat' split at h) <;> first
              | cases h; done
              | (simp only [Option.some.injEq] at h; rw [← h]; refine ⟨rfl, fun i hi => ?_⟩; simp only [List.map_append, List.mem_append]; first | exact hk _ i hi | exact .inl (hk _ i hi) | exact .inr (.inl (hk _ i hi)))
           rcases hin with q | q
           ·exact List.mem_append_left _ (by rw [key.1]; exact q)
           ·exact List.mem_append_right _ (key.2 id (List.mem_filterMap.2 ⟨some id, q, rfl⟩))
       rw [qev (hs id hid)] at hl
       simp only [hl, hc, and_self, if_true, hg] at h0
       cases h0
      ·cases h1
     ·cases h1
    ·cases h1
   ·cases h1
theorem ql2 {dst : Option Tmp} {f : FuncId} {vs : List V} {r : Res} (h : qbt C true s dst f vs = some r) (hs : qbg s s' r.dl.foot) : qbt C true s' dst f vs = some r := by
 unfold qbt at h ⊢
 split at h
 ·exact qli h hs
 ·split at h
  ·rename_i r' ht
   cases h
   rw [quu ht hs]
  ·rename_i ht
   rw [quv ht h hs]
   exact qli h hs
theorem qpa {m : V} {ks : List D} {vs : List V} {rd : List Nat} (h : qhn s m = some (ks, vs, rd)) (hs : qbg s s' rd) : qhn s' m = some (ks, vs, rd) := by
 unfold qhn at h ⊢
 split at h
 ·exact h
 ·split at h
  ·rename_i e
   cases h
   rw [qo8 (hs _ (by simp)), e]
  ·cases h
 ·cases h
theorem qrd {t : TypeId} {m k : V} {cm : Bool} {r : Res} (h : qds C s t m k cm = some r) (hs : qbg s s' r.dl.foot) : qds C s' t m k cm = some r := by
 unfold qds at h ⊢
 split at h
 rotate_left
 ·cases h
 split at h
 rotate_left
 ·cases h
 rename_i ks vs rd hz hmo
 have hrd : rd = r.dl.rd := by
  split at h
  ·split at h
   ·cases h
   ·cases h; rfl
  ·split at h
   ·split at h
    ·cases h; rfl
    ·cases h
   ·cases h
 rw [qpa hmo fun id hid => hs id (List.mem_append_left _ (hrd ▸ hid)), hz]
 exact h
theorem qnf {t : TypeId} {m k v : V} {r : Res} (h : qcg C s t m k v = some r) (hs : qbg s s' r.dl.foot) : qcg C s' t m k v = some r := by
 unfold qcg at h ⊢
 split at h
 rotate_left
 ·cases h
 split at h
 ·rename_i t' ks vs hl
  cases h
  rw [hs _ (by simp [Delta.foot]), hl]
 ·cases h
theorem qtr {dst : Option Tmp} {b : Builtin} {ts : List TypeId} {vs : List V} {r : Res} (h : qep C s dst b ts vs = some r) (hs : qbg s s' r.dl.foot) : qep C s' dst b ts vs = some r := by
 unfold qep at h ⊢
 split at h
 ·split at h
  ·exact h
  ·split at h
   ·rename_i ks vs' rd hm hmo
    cases h
    rw [qpa hmo fun id hid => hs id (List.mem_append_left _ hid), hm]
   ·cases h
 ·exact qrc h hs
 ·split at h
  ·split at h
   ·rename_i hl hsz hz
    split at h
    ·rename_i hc
     cases h
     rw [qev (hs _ (by simp [Delta.foot])), hl]
     simp only [hz, hsz]
     rw [if_pos hc]
    ·cases h
   ·cases h
  ·cases h
 ·exact h
 ·exact h
 ·cases h
theorem qnp (pl : List (Nat × Nat)) : ∀ (l : List (Nat × Operand)) (c : List V), qd3 s s' (l.map (·.2)) → qe5 s' pl c l = qe5 s pl c l
 | [], c, _ => rfl
 | (i, x) :: l, c, h => by
   simp only [qe5]
   rw [qg6 (s := s) (s' := s') (x := x) fun t e => h t (by simp [e])]
   split
   ·split
    ·exact qnp pl l _ fun t ht => h t (by simp at ht ⊢; exact .inr ht)
    ·rfl
   ·rfl
theorem quw {src dst : TypeId} {v : V} {r : Res} (h : qfb C s src dst v = some r) (hs : qbg s s' r.dl.foot) : qfb C s' src dst v = some r := by
 unfold qfb at h ⊢
 split at h
 ·exact h
 ·exact h
 ·exact h
 ·split at h
  ·rename_i ds rd hel
   cases h
   rw [qib hel fun id hid => hs id (List.mem_append_left _ hid)]
  ·cases h
 ·cases h
theorem qux {dst : Option Tmp} {t : TypeId} {n c : V} {r : Res} (h : qfc C s dst t n c = some r) (hs : qbg s s' r.dl.foot) : qfc C s' dst t n c = some r := by
 unfold qfc at h ⊢
 split at h
 ·split at h
  ·split at h
   ·rename_i h1 h2 h3 hz
    rw [if_pos hz]
    exact qdu h hs
   ·cases h
  ·cases h
 ·cases h
theorem qkz {o : Oper} {r : Res} (h : aop C true o s = some r) (ho : qd3 s s' o.op.operands.toList) (hs : qbg s s' r.dl.foot) : aop C true o s' = some r := by
 have hv : ∀ {x : Operand}, x ∈ o.op.operands.toList → s'.val x = s.val x := fun {x} hx => qg6 fun t e => ho t (e ▸ hx)
 unfold aop at h ⊢
 split at h
 ·rename_i x e; rw [hv (by simp [e, Op.operands])]; exact h
 ·rename_i x e; rw [hv (by simp [e, Op.operands])]; exact h
 ·rename_i c x y e
  rw [hv (x := c) (by simp [e, Op.operands]), hv (x := x) (by simp [e, Op.operands]), hv (x := y) (by simp [e, Op.operands])]
  exact h
 ·split at h
  ·exact qdu h hs
  ·cases h
 ·rename_i t x e
  rw [hv (x := x) (by simp [e, Op.operands])]
  split at h
  ·simp only [Option.bind_eq_some_iff] at h ⊢
   obtain ⟨c, hc, h⟩ := h
   exact ⟨c, hc, qdu h hs⟩
  ·cases h
 ·rename_i t x e
  rw [hv (x := x) (by simp [e, Op.operands])]
  split at h
  ·exact qw4 h hs
  ·cases h
 ·rename_i t x y e
  rw [hv (x := x) (by simp [e, Op.operands]), hv (x := y) (by simp [e, Op.operands])]
  split at h
  ·exact qut h hs
  ·cases h
 ·rename_i x e; rw [hv (x := x) (by simp [e, Op.operands])]; exact h
 ·rename_i op t x y ty e
  rw [hv (x := x) (by simp [e, Op.operands]), hv (x := y) (by simp [e, Op.operands])]
  split at h
  ·exact qw5 h hs
  ·cases h
 ·rename_i op t x e; rw [hv (x := x) (by simp [e, Op.operands])]; exact h
 ·rename_i t x f e; rw [hv (x := x) (by simp [e, Op.operands])]; exact h
 ·rename_i t x f e; rw [hv (x := x) (by simp [e, Op.operands])]; exact h
 ·rename_i t x y e; rw [hv (x := x) (by simp [e, Op.operands]), hv (x := y) (by simp [e, Op.operands])]; exact h
 ·rename_i t x y e; rw [hv (x := x) (by simp [e, Op.operands]), hv (x := y) (by simp [e, Op.operands])]; exact h
 ·rename_i t parts e
  split at h
  ·rw [qnp _ _ _ fun t ht => ho t (by simpa [e, Op.operands] using ht)]
   exact h
  ·cases h
 ·rename_i t n parts e
  split at h
  ·rw [qhx fun t ht => ho t (by simpa [e, Op.operands] using ht)]
   split at h
   ·split at h
    ·rename_i ds hds
     split at h
     ·rename_i hc
      rw [qef ql0 hds fun k hk => by simp at hk]
      simp only []
      rw [if_pos hc]
      exact qdu h hs
     ·cases h
    ·rename_i ds k is hds
     split at h
     ·rename_i hc
      obtain ⟨r0, h0, rfl⟩ := Option.map_eq_some_iff.1 h
      have hin : ∀ i ∈ k :: is, s'.hp i = s.hp i := fun i hi => hs i (by simp only [Delta.foot]; exact List.mem_append_left _ hi)
      have hcall : q0t s' (k :: is) [] = q0t s (k :: is) [] := by
       unfold q0t
       congr 1
       refine List.map_congr_left fun i hi => ?_
       rw [hin i hi]
      rw [qef ql0 hds hin]
      simp only []
      rw [if_pos hc, hcall]
      have := qdu (s' := s') h0 fun i hi => hs i (by
       obtain ⟨_, rfl⟩ := qck h0
       simp only [Delta.foot, List.nil_append, List.map_append, List.mem_append] at hi ⊢
       exact .inr (.inl hi))
      rw [this]; rfl
     ·cases h
    ·cases h
   ·cases h
  ·cases h
 ·rename_i t x lo hi mx e
  have e1 : qd3 s s' lo.toList := fun t ht => ho t (by cases lo <;> simp at ht; simp [e, Op.operands, ht])
  have e2 : qd3 s s' hi.toList := fun t ht => ho t (by cases hi <;> simp at ht; simp [e, Op.operands, ht])
  have e3 : qd3 s s' mx.toList := fun t ht => ho t (by cases mx <;> simp at ht; simp [e, Op.operands, ht])
  rw [hv (x := x) (by simp [e, Op.operands])]
  split at h
  ·exact qrb e1 e2 h
  ·split at h
   ·exact qtq e1 e2 e3 h hs
   ·cases h
  ·cases h
 ·rename_i x i e; rw [hv (x := x) (by simp [e, Op.operands])]; exact h
 ·rename_i f first caps e
  split at h
  ·rename_i hf
   rw [if_pos hf, qhx (s := s) (s' := s') (l := caps.toList) fun t ht => ho t (by simp [e, Op.operands] at ht ⊢; exact .inr ht)]
   exact h
  ·cases h
 ·exact qdu h hs
 ·rename_i t x y cm e
  rw [hv (x := x) (by simp [e, Op.operands]), hv (x := y) (by simp [e, Op.operands])]
  split at h
  ·exact qrd h hs
  ·cases h
 ·rename_i t x y z e
  rw [hv (x := x) (by simp [e, Op.operands]), hv (x := y) (by simp [e, Op.operands]), hv (x := z) (by simp [e, Op.operands])]
  split at h
  ·exact qnf h hs
  ·cases h
 ·rename_i src dst x e
  rw [hv (x := x) (by simp [e, Op.operands])]
  split at h
  ·exact quw h hs
  ·cases h
 ·rename_i t x y e
  rw [hv (x := x) (by simp [e, Op.operands]), hv (x := y) (by simp [e, Op.operands])]
  split at h
  ·exact qux h hs
  ·cases h
 ·rename_i c e
  obtain ⟨callee, args, ts⟩ := c
  have hva : vals s' args.toList = vals s args.toList := qhx fun t ht => ho t (by
   simp [e, Op.operands, Call.operands] at ht ⊢
   cases callee <;> simp [ht])
  simp only [hva]
  simp only at h
  split at h
  ·cases h
  ·rename_i vs hvs
   split at h
   ·exact qtr h hs
   ·rename_i x
    rw [hv (x := x) (by simp [e, Op.operands, Call.operands])]
    split at h
    ·exact ql2 h hs
    ·exact ql2 h hs
    ·cases h
   ·cases h
 ·cases h
end
end Go.Ev
namespace Go.Ev
section
variable {C : Cfg} {s s' : St}
theorem qfg {g : Bool} {T : Nat → Prop} : ∀ {l : List Operand} {s s' : St}, (∀ t, .tmp t ∈ l → T t) → (∀ t, T t → s'.sl t = s.sl t) →
 (qbp g s' l).1 = (qbp g s l).1 ∧ (∀ t, T t → (qbp g s' l).2.sl t = (qbp g s l).2.sl t) ∧ (qbp g s' l).2.hp = s'.hp ∧ (qbp g s l).2.hp = s.hp
 | [], s, s', _, h => ⟨rfl, h, rfl, rfl⟩
 | .tmp t :: r, s, s', hT, h => by
   have ht : s'.sl t = s.sl t := h t (hT t (by simp))
   unfold qbp
   rw [ht]
   split
   ·rename_i g' v hs
    have ih := qfg (g := g) (T := T) (l := r) (s := ⟨fun i => if i = t then some v else s.sl i, s.hp⟩) (s' := ⟨fun i => if i = t then some v else s'.sl i, s'.hp⟩)
     (fun t ht => hT t (by simp [ht])) (fun i hi => by
       by_cases e : i = t
       ·simp [e]
       ·simpa [e] using h i hi)
    obtain ⟨i1, i2, i3, i4⟩ := ih
    exact ⟨by simp only [i1], i2, i3, i4⟩
   ·exact qfg (fun t ht => hT t (by simp [ht])) h
 | .const _ :: r, s, s', hT, h => qfg (l := r) (fun t ht => hT t (by simp [ht])) h
 | .global _ :: r, s, s', hT, h => qfg (l := r) (fun t ht => hT t (by simp [ht])) h
 | .func _ :: r, s, s', hT, h => qfg (l := r) (fun t ht => hT t (by simp [ht])) h
theorem ql3 {g : Bool} {o : Oper} {r : Res} (h : aopU C true g o s = some r) (ho : qd3 s s' o.op.operands.toList) (hs : qbg s s' r.dl.foot) : aopU C true g o s' = some r := by
 unfold aopU at h ⊢
 split at h
 ·rename_i hp; rw [if_pos hp]; exact qkz h ho hs
 ·rename_i hp
  rw [if_neg hp]
  simp only [Option.map_eq_some_iff] at h ⊢
  obtain ⟨r', hr', rfl⟩ := h
  obtain ⟨u1, u2, u3, u4⟩ := qfg (g := g) (T := fun t => Operand.tmp t ∈ o.op.operands.toList) (l := o.op.operands.toList) (s := s) (s' := s') (fun t ht => ht) ho
  exact ⟨r', qkz hr' (fun t ht => u2 t ht) (fun id hid => by rw [u3, u4]; exact hs id hid), by rw [u1]⟩
theorem Wk.none {dst : Option Tmp} {δ : Delta} (s : St) (h : δ.hp = []) : Wk (δ.app C dst s) (Delta.app C dst ⟨[], .none, []⟩ s) := by
 refine ⟨by simp [Delta.app, h, q0e], fun i v hv => ?_⟩
 cases dst with
 | none => exact ⟨v, hv, fun _ _ _ _ _ h => h⟩
 | some d =>
   simp only [Delta.app, qfi] at hv ⊢
   by_cases hi : i = d
   ·simp [hi] at hv
   ·simp only [hi, if_false] at hv ⊢
    exact ⟨v, hv, fun _ _ _ _ _ h => h⟩
theorem q000 {ops : Array Oper} {o : Oper} {r : Res} (h : aop1 C true ops o s = some r) (ho : ∀ t ∈ o.looksAt ops, s'.sl t = s.sl t) (hs : qbg s s' r.dl.foot) :
 ∃ r', aop1 C true ops o s' = some r' ∧ (r.ok → r'.ok) ∧ Wk (r'.dl.app C o.dst s') (r.dl.app C o.dst s') := by
 have hop : qd3 s s' o.op.operands.toList := fun t ht => ho t (by
  unfold Oper.looksAt
  exact List.mem_append_left _ (List.mem_filterMap.2 ⟨.tmp t, ht, rfl⟩))
 unfold aop1 at h ⊢
 split at h
 ·exact ⟨r, ql3 h hop hs, id, Wk.refl _⟩
 ·rename_i j want hg
  have hgs : (qbx ops j).bind s'.sl = (qbx ops j).bind s.sl := by
   cases hb : qbx ops j with
   | none => rfl
   | some t =>
     simp only [Option.bind_some]
     refine ho t ?_
     unfold Oper.looksAt
     refine List.mem_append_right _ ?_
     unfold qbx at hb
     simp [hg, hb]
  rw [hgs]
  split at h
  rotate_left
  ·cases h
  rename_i g hx
  unfold qcc at h
  split at h
  ·rename_i ok v rd hra
   cases h
   rw [ql3 hra hop hs]
   exact ⟨_, rfl, id, Wk.refl _⟩
  ·rename_i hne
   cases g
   ·simp only [Option.some.injEq] at h
    subst h
    unfold qcc
    split
    ·refine ⟨_, rfl, (fun _ e => by cases e), ?_⟩
     exact Wk.none s' rfl
    ·exact ⟨_, rfl, id, Wk.refl _⟩
   ·simp only at h
    rw [ql3 h hop hs]
    refine ⟨r, ?_, id, Wk.refl _⟩
    unfold qcc
    split
    ·rename_i ok v rd he
     cases he
     exact absurd h (hne ok v rd)
    ·rfl
def drun (C : Cfg) (ops : Array Oper) : List Oper → St → Option (List Res × St)
 | [], s => some ([], s)
 | o :: os, s => match aop1 C true ops o s with
   | none => none
   | some r => match drun C ops os (r.dl.app C o.dst s) with
     | none => none
     | some (rs, s') => some (r :: rs, s')
def qgj (o : Oper) : List Nat := (o.after.toList.filter (Region.binds .any)).map (·.on)
def addN (r : List Nat) (j : Nat) : List Nat := bif r.contains j then r else j :: r
def befs : List (List Nat) → List Oper → List (List Nat)
 | acc, [] => acc
 | acc, o :: os => befs (acc ++ [((qgj o).flatMap fun j => j :: acc.getD j []).foldl addN []]) os
def qpb (ops : List Oper) (bf : List (List Nat)) : Bool :=
 (List.range ops.length).all fun i => match ops[i]? with
   | some o => ((qgj o).all fun j => decide (j < i)) && ((bf.getD i []).all fun j => (qgj o).any fun k => k == j || (bf.getD k []).contains j)
   | none => true
def qpc (n : Nat) (bf : List (List Nat)) : List (Nat × Nat) :=
 (List.range n).flatMap fun j => ((List.range j).filter fun i => !(bf.getD j []).contains i).map fun i => (i, j)
def qmy (ops : Array Oper) (p : Nat × Nat) : Bool := match ops[p.1]?, ops[p.2]? with
 | some x, some y => x.apart ops y
 | _, _ => true
def qgk (ops : Array Oper) : List (Nat × Nat) := qpc ops.size (befs [] ops.toList)
def qj9 (ops : Array Oper) : Bool := qpb ops.toList (befs [] ops.toList) && (qgk ops).all (qmy ops)
def disj (a b : List Nat) : Bool := a.all fun x => !b.contains x
def qi9 (rs : List Res) : List (List Nat × List Nat) := rs.map fun r => (r.dl.rd, r.dl.hp.map (·.1))
def q5c (f : List (List Nat × List Nat)) (p : Nat × Nat) : Bool := match f[p.1]?, f[p.2]? with
 | some (ri, ki), some (rj, kj) => disj ki (rj ++ kj) && disj kj ri
 | _, _ => true
def qe7 (un : List (Nat × Nat)) (f : List (List Nat × List Nat)) : Bool := (f.all fun x => x.2.isEmpty) || un.all (q5c f)
def oks : List Res → Prop
 | [] => True
 | r :: rs => r.ok ∧ oks rs
def qtu (C : Cfg) (ops : Array Oper) (s : St) : Option (Prop × St) :=
 match qj9 ops with
 | false => none
 | true => match drun C ops ops.toList s with
   | none => none
   | some (rs, s') => match qe7 (qgk ops) (qi9 rs) with
     | false => none
     | true => some (oks rs, s')
def qc2 {β : Type} (δ : Nat → Nat → Option β) (L : Nat → Bool) (init : Nat → β) : Nat → Nat → β
 | 0, l => init l
 | n + 1, l => if L n then (δ n l).getD (qc2 δ L init n l) else qc2 δ L init n l
theorem qnq {β : Type} {δ : Nat → Nat → Option β} {L : Nat → Bool} {init : Nat → β} {l j : Nat} (h1 : ∀ i, i < j → L i = false → δ i l = none) : ∀ n, j ≤ n → (∀ i, j ≤ i → i < n → L i = true → δ i l = none) →
 qc2 δ L init n l = qc2 δ (fun _ => true) init j l := by
 have low : ∀ m, m ≤ j → qc2 δ L init m l = qc2 δ (fun _ => true) init m l := by
  intro m hm
  induction m with
  | zero => rfl
  | succ m ih =>
    simp only [qc2, if_true]
    cases hL : L m
    ·simp [h1 m hm hL, ih (by omega)]
    ·simp [ih (by omega)]
 intro n hn h2
 induction n with
 | zero => have : j = 0 := by omega
           subst this; rfl
 | succ n ih =>
   by_cases e : j = n + 1
   ·subst e; exact low _ (Nat.le_refl _)
   ·simp only [qc2]
    cases hL : L n
    ·simpa using ih (by omega) fun i a b => h2 i a (by omega)
    ·simpa [h2 n (by omega) (by omega) hL] using ih (by omega) fun i a b => h2 i a (by omega)
theorem qhr {β : Type} {δ : Nat → Nat → Option β} {L L' : Nat → Bool} {init : Nat → β} {l : Nat} : ∀ n, (∀ i, i < n → L i = L' i) → qc2 δ L init n l = qc2 δ L' init n l
 | 0, _ => rfl
 | n + 1, h => by simp only [qc2, h n (by omega), qhr n fun i hi => h i (by omega)]
theorem ql4 {β : Type} {δ : Nat → Nat → Option β} {L L' : Nat → Bool} {init : Nat → β} {l j : Nat} (hj : L j = false) (hj' : L' j = true) (hL : ∀ i, i ≠ j → L' i = L i) : ∀ n, j < n →
 (∀ i, j < i → i < n → L i = true → (δ j l).isSome = true → δ i l = none) → qc2 δ L' init n l = (δ j l).getD (qc2 δ L init n l)
 | 0, h, _ => by omega
 | n + 1, h, h2 => by
   simp only [qc2]
   by_cases e : j = n
   ·subst e
    rw [hj, hj', qhr j fun i hi => hL i (by omega)]
    simp
   ·have ih := ql4 hj hj' hL n (by omega) (init := init) fun i a b => h2 i a (by omega)
    rw [hL n (by omega), ih]
    cases hl : L n
    ·simp
    ·cases hd : δ j l with
     | none => simp
     | some x => simp [h2 n (by omega) (by omega) hl (by simp [hd])]
def lk : List (Nat × HS) → Nat → Option HS
 | [], _ => none
 | (j, o) :: r, i => if i = j then some o else lk r i
theorem qn7 (h : Nat → HS) : ∀ (l : List (Nat × HS)) (i : Nat), q0e h l i = (lk l i).getD (h i)
 | [], i => rfl
 | (j, o) :: r, i => by
   simp only [q0e, lk]
   split
   ·rfl
   ·exact qn7 h r i
theorem q001 {l : List (Nat × HS)} {i : Nat} (h : (lk l i).isSome = true) : i ∈ l.map (·.1) := by
 induction l with
 | nil => simp [lk] at h
 | cons p r ih =>
   obtain ⟨j, o⟩ := p
   simp only [lk] at h
   split at h
   ·rename_i e; simp [e]
   ·simp [ih h]
def dSl (C : Cfg) (dst : Option Tmp) (v : Option V) (t : Nat) : Option (Option V) := match dst with
 | some d => if t = d then some (if d < C.N then v else none) else none
 | none => none
theorem qsa (sl : Nat → Option V) (dst : Option Tmp) (v : Option V) (t : Nat) : qfi C.N sl dst v t = (dSl C dst v t).getD (sl t) := by
 cases dst with
 | none => rfl
 | some d =>
   simp only [qfi, dSl]
   split <;> rfl
theorem qxk {dst : Option Tmp} {v : Option V} {t : Nat} (h : (dSl C dst v t).isSome = true) : dst = some t := by
 cases dst with
 | none => simp [dSl] at h
 | some d =>
   simp only [dSl] at h
   split at h
   ·rename_i e; rw [e]
   ·cases h
def δs (C : Cfg) (ops : Array Oper) (rs : List Res) (i t : Nat) : Option (Option V) := match ops[i]?, rs[i]? with
 | some o, some r => dSl C o.dst r.dl.v t
 | _, _ => none
def δh (rs : List Res) (i id : Nat) : Option HS := match rs[i]? with
 | some r => lk r.dl.hp id
 | none => none
def stOf (C : Cfg) (ops : Array Oper) (rs : List Res) (L : Nat → Bool) (s : St) (n : Nat) : St := ⟨qc2 (δs C ops rs) L s.sl n, qc2 (δh rs) L s.hp n⟩
theorem qsb {ops : Array Oper} : ∀ {l : List Oper} {s : St} {rs : List Res} {s' : St}, drun C ops l s = some (rs, s') → rs.length = l.length ∧
 ∃ S : Nat → St, S 0 = s ∧ S l.length = s' ∧ ∀ (i : Nat) (o : Oper) (r : Res), l[i]? = some o → rs[i]? = some r → aop1 C true ops o (S i) = some r ∧ S (i + 1) = r.dl.app C o.dst (S i)
 | [], s, rs, s', h => by
   cases h
   exact ⟨rfl, fun _ => s, rfl, rfl, fun i o r hi => by simp at hi⟩
 | o :: l, s, rs, s', h => by
   unfold drun at h
   split at h
   ·cases h
   ·rename_i r hr
    split at h
    ·cases h
    ·rename_i rs' s'' hd
     cases h
     obtain ⟨h1, S, h2, h3, h4⟩ := qsb hd
     refine ⟨by simp [h1], fun i => match i with | 0 => s | i + 1 => S i, rfl, by simpa using h3, fun i o' r' ho hr' => ?_⟩
     cases i with
     | zero => simp at ho hr'; subst ho; subst hr'; exact ⟨hr, h2⟩
     | succ i => simp at ho hr'; exact h4 i o' r' ho hr'
theorem qn8 {ops : Array Oper} {rs : List Res} {S : Nat → St} (hlen : rs.length = ops.size) (h4 : ∀ (i : Nat) (o : Oper) (r : Res), ops.toList[i]? = some o → rs[i]? = some r → aop1 C true ops o (S i) = some r ∧ S (i + 1) = r.dl.app C o.dst (S i)) :
 ∀ i, i ≤ ops.size → (∀ t, (S i).sl t = qc2 (δs C ops rs) (fun _ => true) (S 0).sl i t) ∧ (∀ t, (S i).hp t = qc2 (δh rs) (fun _ => true) (S 0).hp i t)
 | 0, _ => ⟨fun _ => rfl, fun _ => rfl⟩
 | i + 1, hi => by
   obtain ⟨i1, i2⟩ := qn8 hlen h4 i (by omega)
   have ho : ops[i]? = some ops[i] := by simp
   have hr : rs[i]? = some (rs[i]'(by omega)) := by simp
   obtain ⟨_, h5⟩ := h4 i ops[i] (rs[i]'(by omega)) (by simp) hr
   refine ⟨fun t => ?_, fun t => ?_⟩
   ·rw [h5]
    simp only [Delta.app, qsa, qc2, if_true, δs, ho, hr, i1]
   ·rw [h5]
    simp only [Delta.app, qn7, qc2, if_true, δh, hr, i2]
theorem qsc {n i j : Nat} {bf : List (List Nat)} (hij : i < j) (hj : j < n) (h : i ∉ bf.getD j []) : (i, j) ∈ qpc n bf := by
 unfold qpc
 simp only [List.mem_flatMap, List.mem_range, List.mem_map, List.mem_filter]
 exact ⟨j, hj, i, ⟨hij, by simpa using h⟩, rfl⟩
theorem qpd {ops : List Oper} {bf : List (List Nat)} (h : qpb ops bf = true) {i : Nat} {o : Oper} (ho : ops[i]? = some o) :
 (∀ j ∈ qgj o, j < i) ∧ ∀ j ∈ bf.getD i [], ∃ k ∈ qgj o, k = j ∨ j ∈ bf.getD k [] := by
 unfold qpb at h
 rw [List.all_eq_true] at h
 have := h i (List.mem_range.2 (List.getElem?_eq_some_iff.1 ho).1)
 rw [ho] at this
 simp only [Bool.and_eq_true, List.all_eq_true, decide_eq_true_eq, List.any_eq_true, Bool.or_eq_true, beq_iff_eq, List.contains_iff_mem] at this
 exact this
def q002 (ops : Array Oper) (L : Nat → Bool) : Prop := ∀ i o, ops[i]? = some o → L i = true → ∀ j ∈ qgj o, L j = true
theorem qpe {ops : Array Oper} {bf : List (List Nat)} (hb : qpb ops.toList bf = true) {L : Nat → Bool} (hc : q002 ops L) :
 ∀ (i : Nat) (o : Oper), ops[i]? = some o → (∀ j ∈ qgj o, L j = true) → ∀ j ∈ bf.getD i [], L j = true := by
 intro i
 induction i using Nat.strongRecOn with
 | _ i ih =>
   intro o ho hl j hj
   obtain ⟨h1, h2⟩ := qpd hb (by simpa using ho : ops.toList[i]? = some o)
   obtain ⟨k, hk, e⟩ := h2 j hj
   rcases e with rfl | e
   ·exact hl k hk
   ·have hki := h1 k hk
    have hlt : i < ops.size := (Array.getElem?_eq_some_iff.1 ho).1
    have hok : ops[k]? = some (ops[k]'(by omega)) := by simp
    exact ih k hki _ hok (hc k _ hok (hl k hk)) j e
theorem qxl : ∀ {rs : List Res} {i : Nat} {r : Res}, oks rs → rs[i]? = some r → r.ok
 | [], i, r, _, h => by simp at h
 | q :: rs, 0, r, ho, h => by simp at h; subst h; exact ho.1
 | q :: rs, i + 1, r, ho, h => qxl ho.2 (by simpa using h)
theorem qnr {un : List (Nat × Nat)} {rs : List Res} (h : qe7 un (qi9 rs) = true) {i j : Nat} (hp : (i, j) ∈ un) {r q : Res} (hi : rs[i]? = some r) (hj : rs[j]? = some q) :
 (∀ k ∈ r.dl.hp.map (·.1), k ∉ q.dl.foot) ∧ ∀ k ∈ q.dl.hp.map (·.1), k ∉ r.dl.foot := by
 unfold qe7 at h
 simp only [Bool.or_eq_true] at h
 rcases h with h | h
 ·rw [List.all_eq_true] at h
  have e : ∀ {i : Nat} {r : Res}, rs[i]? = some r → r.dl.hp.map (·.1) = [] := fun {i r} hi => by
   have := h (r.dl.rd, r.dl.hp.map (·.1)) (List.mem_map.2 ⟨r, List.mem_of_getElem? hi, rfl⟩)
   simpa using this
  rw [e hi, e hj]
  simp
 ·rw [List.all_eq_true] at h
  have := h (i, j) hp
  simp only [q5c, qi9, List.getElem?_map, hi, hj, Option.map_some, disj, Bool.and_eq_true, List.all_eq_true, Bool.not_eq_true', List.contains_eq_mem, decide_eq_false_iff_not] at this
  refine ⟨fun k hk => by simpa [Delta.foot] using this.1 k hk, fun k hk => ?_⟩
  simp only [Delta.foot, List.mem_append, not_or]
  exact ⟨this.2 k hk, fun hk' => this.1 k hk' (List.mem_append_right _ hk)⟩
end
section
variable {C : Cfg} {E : Env}
theorem q6r (hT : TOk C) (hE : TEnter C) {ops : Array Oper} (Q : Exit → Act → World → Prop) {s : St} {rs : List Res} {S : Nat → St} (hS0 : S 0 = s) (hlen : rs.length = ops.size)
 (hS : ∀ (i : Nat) (o : Oper) (r : Res), ops.toList[i]? = some o → rs[i]? = some r → aop1 C true ops o (S i) = some r ∧ S (i + 1) = r.dl.app C o.dst (S i))
 {bf : List (List Nat)} (hbf : qpb ops.toList bf = true) (hap : (qpc ops.size bf).all (qmy ops) = true) (hh : qe7 (qpc ops.size bf) (qi9 rs) = true) (hok : oks rs)
 (hk : ∀ bt' a' w', Rel C E bt' (S ops.size) a' w' → Q .normal a' w') :
 ∀ (fuel : Nat) (listed : Array Bool) (bt : Nat → Option Nat) (a : Act) (w : World), listed.size = ops.size → ((List.range ops.size).countP fun i => !listed.getD i true) ≤ fuel → q002 ops (fun i => listed.getD i false) →
   Rel C E bt (stOf C ops rs (fun i => listed.getD i false) s ops.size) a w → wpAny C.P .any ops Q fuel listed a w := by
 have hdone : ∀ (listed : Array Bool) (bt : Nat → Option Nat) (a : Act) (w : World), listed.size = ops.size → Rel C E bt (stOf C ops rs (fun i => listed.getD i false) s ops.size) a w → Region.ready .any ops listed = [] → Q .normal a w := by
  intro listed bt a w hsz h hr
  have hall : ∀ i, i < ops.size → listed.getD i false = true := by
   intro i
   induction i using Nat.strongRecOn with
   | _ i ih =>
     intro hi
     refine Classical.byContradiction fun hn => ?_
     have : i ∈ Region.ready .any ops listed := mem_ready.2 ⟨by
      have : i < listed.size := by omega
      simp [this] at hn ⊢
      exact hn, ops[i], by simp, fun e he hb => ?_⟩
     ·rw [hr] at this; cases this
     ·have hl := (qpd hbf (by simp : ops.toList[i]? = some ops[i])).1 e.on (List.mem_map.2 ⟨e, List.mem_filter.2 ⟨by simpa using he, hb⟩, rfl⟩)
      exact ih e.on hl (by omega)
  refine hk bt a w ?_
  have e : stOf C ops rs (fun i => listed.getD i false) s ops.size = S ops.size := by
   obtain ⟨l1, l2⟩ := qn8 hlen hS ops.size (Nat.le_refl _)
   have e1 : (stOf C ops rs (fun i => listed.getD i false) s ops.size).sl = (S ops.size).sl := funext fun t => by
    rw [l1, hS0]
    exact qhr _ fun i hi => hall i hi
   have e2 : (stOf C ops rs (fun i => listed.getD i false) s ops.size).hp = (S ops.size).hp := funext fun t => by
    rw [l2, hS0]
    exact qhr _ fun i hi => hall i hi
   cases hq : S ops.size
   rw [hq] at e1 e2
   simp only [stOf] at e1 e2 ⊢
   rw [e1, e2]
  rwa [e] at h
 intro fuel
 induction fuel with
 | zero =>
   intro listed bt a w hsz hcnt hcl h
   have hr : Region.ready .any ops listed = [] := by
    cases hr : Region.ready .any ops listed with
    | nil => rfl
    | cons x xs =>
      have hx : x ∈ Region.ready .any ops listed := by rw [hr]; simp
      obtain ⟨hx1, o, ho, _⟩ := mem_ready.1 hx
      have hlt : x < ops.size := (Array.getElem?_eq_some_iff.1 ho).1
      have : 0 < (List.range ops.size).countP fun i => !listed.getD i true := List.countP_pos_iff.2 ⟨x, List.mem_range.2 hlt, by simp only [hx1]; rfl⟩
      omega
   exact ⟨hr, hdone listed bt a w hsz h hr⟩
 | succ fuel ih =>
   intro listed bt a w hsz hcnt hcl h
   refine ⟨hdone listed bt a w hsz h, fun j hj => ?_⟩
   obtain ⟨hj1, o, ho, hj2⟩ := mem_ready.1 hj
   have hjlt : j < ops.size := (Array.getElem?_eq_some_iff.1 ho).1
   have hjr : rs[j]? = some (rs[j]'(by omega)) := by simp
   generalize rs[j]'(by omega) = r at hjr
   obtain ⟨hrun, hnext⟩ := hS j o r (by simpa using ho) hjr
   have hjl : j < listed.size := by omega
   have hj0 : listed.getD j false = false := by simpa [hjl] using hj1
   have hbind : ∀ k ∈ qgj o, listed.getD k false = true := fun k hk => by
    obtain ⟨e, he, rfl⟩ := List.mem_map.1 hk
    obtain ⟨he1, he2⟩ := List.mem_filter.1 he
    exact hj2 e (by simpa using he1) he2
   have hbefj : ∀ k ∈ bf.getD j [], listed.getD k false = true := qpe hbf hcl j o ho hbind
   -- what is not ordered
   have hun : ∀ i oi ri, ops[i]? = some oi → rs[i]? = some ri → (i < j ∧ listed.getD i false = false) ∨ (j < i ∧ listed.getD i false = true) →
    (∀ d, oi.dst = some d → d ∉ o.looksAt ops ∧ o.dst ≠ some d) ∧ (∀ k ∈ ri.dl.hp.map (·.1), k ∉ r.dl.foot) := by
    intro i oi ri hi hri hc
    have hilt : i < ops.size := (Array.getElem?_eq_some_iff.1 hi).1
    rw [List.all_eq_true] at hap
    rcases hc with ⟨hc, hl⟩ | ⟨hc, hl⟩
    ·have hm := qsc hc hjlt (fun hb => by rw [hbefj i hb] at hl; cases hl)
     have ha := hap _ hm
     simp only [qmy, hi, ho] at ha
     obtain ⟨a1, a2, _⟩ := Oper.apart_spec ha
     exact ⟨fun d hd => ⟨a1 d hd, fun e => a2 d hd e⟩, (qnr hh hm hri hjr).1⟩
    ·have hb : j ∉ bf.getD i [] := fun hb => by
      have := qpe hbf hcl i oi hi (hcl i oi hi hl) j hb
      rw [hj0] at this; cases this
     have hm := qsc hc hilt hb
     have ha := hap _ hm
     simp only [qmy, hi, ho] at ha
     obtain ⟨_, a2, a3⟩ := Oper.apart_spec ha
     exact ⟨fun d hd => ⟨a3 d hd, fun e => a2 d e hd⟩, (qnr hh hm hjr hri).2⟩
   have hδs : ∀ t, (t ∈ o.looksAt ops ∨ o.dst = some t) → ∀ i, (i < j ∧ listed.getD i false = false) ∨ (j < i ∧ listed.getD i false = true) → δs C ops rs i t = none := by
    intro t ht i hc
    unfold δs
    split
    ·rename_i oi ri hi hri
     cases hd : dSl C oi.dst ri.dl.v t with
     | none => rfl
     | some x =>
       have hdst := qxk (by rw [hd]; rfl)
       obtain ⟨u1, _⟩ := hun i oi ri hi hri hc
       rcases ht with ht | ht
       ·exact absurd ht (u1 t hdst).1
       ·exact absurd ht (u1 t hdst).2
    ·rfl
   have hδh : ∀ t ∈ r.dl.foot, ∀ i, i < ops.size → (i < j ∧ listed.getD i false = false) ∨ (j < i ∧ listed.getD i false = true) → δh rs i t = none := by
    intro t ht i hi hc
    unfold δh
    split
    ·rename_i ri hri
     cases hd : lk ri.dl.hp t with
     | none => rfl
     | some x =>
       obtain ⟨_, u2⟩ := hun i ops[i] ri (by simp) hri hc
       exact absurd ht (u2 t (q001 (by rw [hd]; rfl)))
    ·rfl
   obtain ⟨l1, l2⟩ := qn8 hlen hS j (by omega)
   have e1 : ∀ t ∈ o.looksAt ops, (stOf C ops rs (fun i => listed.getD i false) s ops.size).sl t = (S j).sl t := fun t ht => by
    rw [l1, hS0]
    refine qnq (fun i hi hl => hδs t (.inl ht) i (.inl ⟨hi, hl⟩)) _ (by omega) (fun i hi hi2 hl => ?_)
    by_cases e : i = j
    ·subst e; rw [hj0] at hl; cases hl
    ·exact hδs t (.inl ht) i (.inr ⟨by omega, hl⟩)
   have e2 : qbg (S j) (stOf C ops rs (fun i => listed.getD i false) s ops.size) r.dl.foot := fun t ht => by
    rw [l2, hS0]
    refine qnq (fun i hi hl => hδh t ht i (by omega) (.inl ⟨hi, hl⟩)) _ (by omega) (fun i hi hi2 hl => ?_)
    by_cases e : i = j
    ·subst e; rw [hj0] at hl; cases hl
    ·exact hδh t ht i hi2 (.inr ⟨by omega, hl⟩)
   obtain ⟨r', hr', hrok, hwk⟩ := q000 hrun e1 e2
   unfold wpOp
   rw [ho]
   refine qmx hT hE h hr' (hrok (qxl hok hjr)) _ Q fun bt' a' w' hrel => ?_
   have hset : ∀ i, i ≠ j → (listed.setIfInBounds j true).getD i false = listed.getD i false := fun i hi => getD_set_ne false (Ne.symm hi)
   have hsetj : (listed.setIfInBounds j true).getD j false = true := by simp [hjl]
   refine ih (listed.setIfInBounds j true) bt' a' w' (by simpa using hsz) ?_ ?_ ?_
   ·have hlt : (List.range ops.size).countP (fun i => !(listed.setIfInBounds j true).getD i true) < (List.range ops.size).countP (fun i => !listed.getD i true) := by
     rw [List.countP_eq_length_filter, List.countP_eq_length_filter]
     have hsub : (List.range ops.size).filter (fun i => !(listed.setIfInBounds j true).getD i true) = ((List.range ops.size).filter (fun i => !listed.getD i true)).erase j := by
      rw [List.Nodup.erase_eq_filter (List.Pairwise.filter _ List.nodup_range), List.filter_filter]
      refine List.filter_congr fun i hi => ?_
      by_cases e : i = j
      ·subst e; simp [hjl]
      ·rw [getD_set_ne true (Ne.symm e)]; simp [e]
     rw [hsub, List.length_erase_of_mem (List.mem_filter.2 ⟨List.mem_range.2 hjlt, by simp only [hj1]; rfl⟩)]
     have : 0 < ((List.range ops.size).filter (fun i => !listed.getD i true)).length := List.length_pos_of_mem (List.mem_filter.2 ⟨List.mem_range.2 hjlt, by simp only [hj1]; rfl⟩)
     omega
    omega
   ·intro i oi hi hl k hkb
    by_cases e : i = j
    ·subst e
     rw [ho] at hi; cases hi
     have := hbind k hkb
     by_cases ek : k = i
     ·subst ek; exact hsetj
     ·exact (hset k ek).trans this
    ·simp only at hl
     rw [hset i e] at hl
     have := hcl i oi hi hl k hkb
     by_cases ek : k = j
     ·subst ek; exact hsetj
     ·exact (hset k ek).trans this
   ·have hadd := hrel.wk hwk
    have : r.dl.app C o.dst (stOf C ops rs (fun i => listed.getD i false) s ops.size) = stOf C ops rs (fun i => (listed.setIfInBounds j true).getD i false) s ops.size := by
     have f1 : ∀ t, δs C ops rs j t = dSl C o.dst r.dl.v t := fun t => by simp [δs, ho, hjr]
     have f2 : ∀ t, δh rs j t = lk r.dl.hp t := fun t => by simp [δh, hjr]
     unfold stOf Delta.app
     congr 1
     ·funext t
      rw [qsa, ← f1]
      refine (ql4 (L := fun i => listed.getD i false) (L' := fun i => (listed.setIfInBounds j true).getD i false) hj0 hsetj hset ops.size hjlt (fun i hi hi2 hl hs => ?_)).symm
      rw [f1] at hs
      exact hδs t (.inr (qxk hs)) i (.inr ⟨hi, hl⟩)
     ·funext t
      rw [qn7, ← f2]
      refine (ql4 (L := fun i => listed.getD i false) (L' := fun i => (listed.setIfInBounds j true).getD i false) hj0 hsetj hset ops.size hjlt (fun i hi hi2 hl hs => ?_)).symm
      rw [f2] at hs
      exact hδh t (List.mem_append_right _ (q001 hs)) i hi2 (.inr ⟨hi, hl⟩)
    rwa [this] at hadd
theorem q3c (hT : TOk C) (hE : TEnter C) (hm : C.P.follows .mixedOrders = true) {ops : Array Oper} {id : Nat} (Q : Exit → Act → World → Prop) {bt : Nat → Option Nat} {s s' : St} {a : Act} {w : World} {p : Prop} (h : Rel C E bt s a w)
 (hr : qtu C ops s = some (p, s')) (hp : p) (hk : ∀ bt' a' w', Rel C E bt' s' a' w' → Q .normal a' w') : (Code.region id ops true).wp C.P Q a w := by
 unfold qtu at hr
 split at hr
 ·cases hr
 ·rename_i hs
  split at hr
  ·cases hr
  ·rename_i rs s'' hd
   split at hr
   ·cases hr
   ·rename_i hh
    cases hr
    obtain ⟨d1, S, d2, d3, d4⟩ := qsb hd
    simp only [qj9, Bool.and_eq_true] at hs
    refine wp_region_any hm ?_
    have d3' : S ops.size = s' := by simpa using d3
    refine q6r hT hE Q d2 (by simpa using d1) d4 hs.1 hs.2 hh hp (by rw [d3']; exact hk) ops.size _ bt a _ (by simp) ?_ ?_ ?_
    ·exact Nat.le_trans List.countP_le_length (by simp)
    ·intro i o hi hl
     by_cases e : i < ops.size <;> simp [e] at hl
    ·have : stOf C ops rs (fun i => (Array.replicate ops.size false).getD i false) s ops.size = s := by
      have e : ∀ {β : Type} (δ : Nat → Nat → Option β) (init : Nat → β) (n t : Nat), qc2 δ (fun i => (Array.replicate ops.size false).getD i false) init n t = init t := by
       intro β δ init n t
       induction n with
       | zero => rfl
       | succ n ih =>
         simp only [qc2]
         have : (Array.replicate ops.size false).getD n false = false := by
          by_cases e : n < ops.size <;> simp [e]
         rw [if_neg (by simp only [this]; decide)]
         exact ih
      cases s
      unfold stOf
      congr 1
      ·funext t; exact e _ _ _ _
      ·funext t; exact e _ _ _ _
     rw [this]
     exact h.heap rfl rfl rfl rfl
end
end Go.Ev
namespace Go.Ev
structure COk (C : Cfg) : Prop where
 t : TOk C
 e : TEnter C
 m : C.P.follows .mixedOrders = true
def AW (C : Cfg) (c : Code) (s : St) (Q : Exit → St → Prop) : Prop :=
 ∀ (E : Env) (bt : Nat → Option Nat) (a : Act) (w : World), Rel C E bt s a w → c.wp C.P (fun e a' w' => ∃ s' bt', Q e s' ∧ Rel C E bt' s' a' w') a w
def Sub (C : Cfg) (s s' : St) : Prop := ∀ (E : Env) (bt : Nat → Option Nat) (a : Act) (w : World), Rel C E bt s a w → ∃ bt', Rel C E bt' s' a w
theorem Sub.refl (C : Cfg) (s : St) : Sub C s s := fun _ bt _ _ h => ⟨bt, h⟩
theorem Sub.trans {C : Cfg} {a b c : St} (h : Sub C a b) (k : Sub C b c) : Sub C a c := fun E bt x w hr => let ⟨_, h1⟩ := h E bt x w hr; k E _ x w h1
def qie (next : St → Prop) (Q : Exit → St → Prop) : Exit → St → Prop
 | .normal, s => next s
 | e, s => Q e s
def qe0 (id : Nat) (Q : Exit → St → Prop) : Exit → St → Prop
 | .exit id', s => if id' = id then Q .normal s else Q (.exit id') s
 | e, s => Q e s
section
variable {C : Cfg} {s : St} {Q : Exit → St → Prop}
theorem AW.mono {c : Code} {Q' : Exit → St → Prop} (h : AW C c s Q) (hq : ∀ e s, Q e s → Q' e s) : AW C c s Q' :=
 fun E bt a w hr => Go.wp_mono (h E bt a w hr) fun _ _ _ ⟨s', bt', q, r⟩ => ⟨s', bt', hq _ _ q, r⟩
theorem AW.sub {c : Code} {s' : St} (hs : Sub C s s') (h : AW C c s' Q) : AW C c s Q := fun E bt a w hr => let ⟨bt', hr'⟩ := hs E bt a w hr; h E bt' a w hr'
theorem Wsk (h : Q .normal s) : AW C .skip s Q := fun _ bt _ _ hr => wp_skip ⟨s, bt, h, hr⟩
theorem Wex {id : Nat} (h : Q (.exit id) s) : AW C (.exit id) s Q := fun _ bt _ _ hr => wp_exit ⟨s, bt, h, hr⟩
theorem Wrt (h : Q .ret s) : AW C .ret s Q := fun _ bt _ _ hr => wp_ret ⟨s, bt, h, hr⟩
theorem Wsq {x y : Code} (h : AW C x s (qie (fun s' => AW C y s' Q) Q)) : AW C (.seq x y) s Q := fun E bt a w hr =>
 wp_seq (Go.wp_mono (h E bt a w hr) fun e a' w' ⟨s', bt', q, r⟩ => by
  cases e with
  | normal => exact q E bt' a' w' r
  | _ => exact ⟨s', bt', q, r⟩)
theorem Wbk {id : Nat} {x : Code} (h : AW C x s (qe0 id Q)) : AW C (.block id x) s Q := fun E bt a w hr =>
 wp_block (Go.wp_mono (h E bt a w hr) fun e a' w' ⟨s', bt', q, r⟩ => by
  cases e with
  | exit i =>
    simp only [qe0, Exit.inBlock] at q ⊢
    split
    ·rename_i e; rw [if_pos e] at q; exact ⟨s', bt', q, r⟩
    ·rename_i e; rw [if_neg e] at q; exact ⟨s', bt', q, r⟩
  | _ => exact ⟨s', bt', q, r⟩)
theorem AW.region (hC : COk C) {id : Nat} {ops : Array Oper} {p : Prop} {s' : St} (h : aops C ops ops.toList s = some (p, s')) (hp : p) (hq : Q .normal s') : AW C (.region id ops false) s Q := fun _ _ _ _ hr =>
 wp_region_list (qxj hC.t hC.e _ ops.toList hr h hp fun bt' _ _ r => ⟨s', bt', hq, r⟩)
theorem AW.draw (hC : COk C) {id : Nat} {ops : Array Oper} {p : Prop} {s' : St} (h : qtu C ops s = some (p, s')) (hp : p) (hq : Q .normal s') : AW C (.region id ops true) s Q := fun _ _ _ _ hr =>
 q3c hC.t hC.e hC.m _ hr h hp fun bt' _ _ r => ⟨s', bt', hq, r⟩
theorem Wcd {c : Operand} {x y : Code} {t : Bool} (hc : s.val c = some (.d (.b t))) (h1 : t = true → AW C x s Q) (h2 : t = false → AW C y s Q) : AW C (.cond c x y) s Q := fun E bt a w hr => by
 have hv := q0z (q0s hr hc)
 generalize hvx : a.eval c = u at hv
 cases hv
 exact wp_cond_split hvx (fun e => h1 e E bt a w hr) (fun e => h2 e E bt a w hr)
theorem Wcu {c : Operand} {x y : Code} {t : Bool} (hc : s.val c = some (.ub t)) (h1 : t = true → AW C x s Q) (h2 : AW C y s Q) : AW C (.cond c x y) s Q := fun E bt a w hr => by
 have hv := q0s hr hc
 generalize hvx : a.eval c = u at hv
 cases hv with
 | ub _ _ hh => exact wp_cond_split hvx (fun e => h1 (hh e) E bt a w hr) (fun e => h2 E bt a w hr)
theorem Wcn {c : Operand} {x y : Code} {t : Bool} (hc : s.val c = some (.nb t)) (h1 : AW C x s Q) (h2 : t = true → AW C y s Q) : AW C (.cond c x y) s Q := fun E bt a w hr => by
 have hv := q0s hr hc
 generalize hvx : a.eval c = u at hv
 cases hv with
 | nb _ _ hh => exact wp_cond_split hvx (fun e => h1 E bt a w hr) (fun e => h2 (hh e) E bt a w hr)
theorem AW.loop {ι : Type} (I : ι → St) (J : ι → Prop) (μ : ι → Nat) {c : Code} (i0 : ι) (hj : J i0) (h0 : Sub C s (I i0))
 (round : ∀ i, J i → AW C c (I i) (qie (fun s' => ∃ j, J j ∧ μ j < μ i ∧ Sub C s' (I j)) Q)) : AW C (.loop c) s Q := fun E bt a w hr => by
 let R : Act → World → Nat → Prop := fun a w n => ∃ i bt, J i ∧ μ i = n ∧ Rel C E bt (I i) a w
 have ex : ∀ a w, (∃ n, R a w n) → ∃ n, R a w n ∧ ∀ m, R a w m → n ≤ m := fun a w h => by
  obtain ⟨n, hn⟩ := h
  induction n using Nat.strongRecOn with
  | _ n ih =>
    by_cases e : ∃ m, m < n ∧ R a w m
    ·obtain ⟨m, h1, h2⟩ := e; exact ih m h1 h2
    ·exact ⟨n, hn, fun m hm => Nat.le_of_not_lt fun hl => e ⟨m, hl, hm⟩⟩
 classical
 refine wp_loop (fun a w => ∃ n, R a w n) (fun a w => if h : ∃ n, R a w n then Classical.choose (ex a w h) else 0) ?_ ?_
 ·obtain ⟨bt', hr'⟩ := h0 E bt a w hr
  exact ⟨μ i0, i0, bt', hj, rfl, hr'⟩
 ·intro a w hR
  have hc := Classical.choose_spec (ex a w hR)
  rw [dif_pos hR]
  generalize Classical.choose (ex a w hR) = n at hc ⊢
  obtain ⟨⟨i, bt1, hJ, hn, hrel⟩, hmin⟩ := hc
  refine Go.wp_mono (round i hJ E bt1 a w hrel) fun e a' w' ⟨s', bt', q, r⟩ => ?_
  cases e with
  | normal =>
    obtain ⟨j, hJ', hlt, hs⟩ := q
    obtain ⟨bt2, r2⟩ := hs E bt' a' w' r
    have hR' : ∃ n, R a' w' n := ⟨μ j, j, bt2, hJ', rfl, r2⟩
    refine ⟨hR', ?_⟩
    rw [dif_pos hR']
    have := (Classical.choose_spec (ex a' w' hR')).2 (μ j) ⟨j, bt2, hJ', rfl, r2⟩
    omega
  | _ => exact ⟨s', bt', q, r⟩
end
end Go.Ev
namespace Go.Ev
def aget {α : Type} : List (Nat × α) → Nat → Option α
 | [], _ => none
 | (j, x) :: r, i => if i = j then some x else aget r i
def mkS (sl : List (Nat × V)) (hp : List (Nat × HS)) : St := ⟨aget sl, fun i => (aget hp i).getD .free⟩
theorem qfq {α : Type} {l : List (Nat × α)} {i : Nat} {x : α} (h : aget l i = some x) : (i, x) ∈ l := by
 induction l with
 | nil => cases h
 | cons p r ih =>
   obtain ⟨j, y⟩ := p
   simp only [aget] at h
   split at h
   ·rename_i e; cases h; simp [e]
   ·simp [ih h]
theorem qsd {α : Type} {l : List (Nat × α)} {i : Nat} (h : i ∈ l.map (·.1)) : ∃ x, aget l i = some x := by
 induction l with
 | nil => cases h
 | cons p r ih =>
   obtain ⟨j, y⟩ := p
   simp only [aget]
   split
   ·exact ⟨y, rfl⟩
   ·rename_i e
    simp only [List.map_cons, List.mem_cons] at h
    exact ih (h.resolve_left e)
def qgl : Nat → List O → List (Nat × V)
 | _, [] => []
 | j, o :: r => (j, (inO (16 * j) o).1) :: qgl (j + 1) r
def qc6 : Nat → List O → List (Nat × HS)
 | _, [] => []
 | j, o :: r => (inO (16 * j) o).2.1 ++ qc6 (j + 1) r
def qka (args : List O) : St := mkS (qgl 0 args) (qc6 0 args)
def qk0 (o : O) : Bool := o.ok && decide ((inO 0 o).2.2 ≤ 16)
theorem qns : ∀ {args : List O} {j i : Nat} {v : V}, aget (qgl j args) i = some v → ∃ o, j ≤ i ∧ args[i - j]? = some o ∧ v = (inO (16 * i) o).1
 | [], j, i, v, h => by cases h
 | o :: r, j, i, v, h => by
   simp only [qgl, aget] at h
   split at h
   ·rename_i e; subst e; cases h; exact ⟨o, by omega, by simp, rfl⟩
   ·rename_i e
    obtain ⟨o', h1, h2, h3⟩ := qns h
    exact ⟨o', by omega, by rw [show i - j = (i - (j + 1)) + 1 by omega]; simpa using h2, h3⟩
theorem qjs : ∀ {args : List O} {j : Nat} {p : Nat × HS}, p ∈ qc6 j args → ∃ i o, j ≤ i ∧ args[i - j]? = some o ∧ p ∈ (inO (16 * i) o).2.1
 | [], j, p, h => by cases h
 | o :: r, j, p, h => by
   rcases List.mem_append.1 h with h | h
   ·exact ⟨j, o, by omega, by simp, h⟩
   ·obtain ⟨i, o', h1, h2, h3⟩ := qjs h
    exact ⟨i, o', by omega, by rw [show i - j = (i - (j + 1)) + 1 by omega]; simpa using h2, h3⟩
theorem qpf : ∀ {args : List O} {j i : Nat} {o : O} {p : Nat × HS}, args[i]? = some o → p ∈ (inO (16 * (j + i)) o).2.1 → p ∈ qc6 j args
 | [], j, i, o, p, h, _ => by simp at h
 | o' :: r, j, 0, o, p, h, hp => by simp at h; subst h; exact List.mem_append_left _ (by simpa using hp)
 | o' :: r, j, i + 1, o, p, h, hp => List.mem_append_right _ (qpf (j := j + 1) (i := i) (by simpa using h) (by rwa [show j + 1 + i = j + (i + 1) by omega]))
theorem q6s {w : World} {X : Nat → Prop} {v : Value} {o : O} {os : List (Option Nat)} (h : RO w X v o os) (ho : o.ok = true) (b : Nat) : (inO b o).2.2 = os.length := by
 have := (qj8 (bt := fun i => (os[i - b]?).join) (nf := fun _ => True) (b := b) h ho (fun k q hk => by simp [hk]) (fun _ _ => trivial)).cnt
 omega
theorem qpg : ∀ {oss : List (List (Option Nat))} {i k i' k' b : Nat} {q q' : List (Option Nat)}, qh9 oss.flatten → oss[i]? = some q → q[k]? = some (some b) → oss[i']? = some q' → q'[k']? = some (some b) → i = i' ∧ k = k'
 | [], i, k, i', k', b, q, q', _, h, _, _, _ => by simp at h
 | p :: oss, i, k, i', k', b, q, q', ha, h1, h2, h3, h4 => by
   have hin : ∀ {i k : Nat} {q : List (Option Nat)}, oss[i]? = some q → q[k]? = some (some b) → ∃ m, oss.flatten[m]? = some (some b) := fun hi hk => by
    obtain ⟨m, hm, e⟩ := List.getElem_of_mem (List.mem_flatten.2 ⟨_, List.mem_of_getElem? hi, List.mem_of_getElem? hk⟩)
    exact ⟨m, by rw [List.getElem?_eq_getElem hm, e]⟩
   have sub : qh9 oss.flatten := fun x y c hx hy => by
    have := ha (p.length + x) (p.length + y) c (by rw [List.flatten_cons, List.getElem?_append_right (by omega)]; simpa using hx) (by rw [List.flatten_cons, List.getElem?_append_right (by omega)]; simpa using hy)
    omega
   have clash : ∀ {k m : Nat}, p[k]? = some (some b) → oss.flatten[m]? = some (some b) → False := fun {k m} hk hm => by
    have hlt := (List.getElem?_eq_some_iff.1 hk).1
    have := ha k (p.length + m) b (by rw [List.flatten_cons, List.getElem?_append_left hlt]; exact hk) (by rw [List.flatten_cons, List.getElem?_append_right (by omega)]; simpa using hm)
    omega
   match i, i' with
   | 0, 0 =>
     simp at h1 h3; subst h1; subst h3
     have l1 := (List.getElem?_eq_some_iff.1 h2).1
     have l2 := (List.getElem?_eq_some_iff.1 h4).1
     exact ⟨rfl, ha k k' b (by rw [List.flatten_cons, List.getElem?_append_left l1]; exact h2) (by rw [List.flatten_cons, List.getElem?_append_left l2]; exact h4)⟩
   | 0, i' + 1 =>
     simp at h1 h3; subst h1
     obtain ⟨m, hm⟩ := hin h3 h4
     exact (clash h2 hm).elim
   | i + 1, 0 =>
     simp at h1 h3; subst h3
     obtain ⟨m, hm⟩ := hin h1 h2
     exact (clash h4 hm).elim
   | i + 1, i' + 1 =>
     simp at h1 h3
     obtain ⟨e1, e2⟩ := qpg sub h1 h2 h3 h4
     exact ⟨by omega, e2⟩
section
variable {C : Cfg}
def qbw : Nat → List O → List Nat
 | _, [] => []
 | j, o :: r => match o with
   | .bx _ _ => 16 * j :: qbw (j + 1) r
   | _ => qbw (j + 1) r
theorem qja : ∀ (args : List O) (vs : List Value) (j : Nat), vs.length = args.length → (qbw j args).length = (qbj args vs).length ∧
 ∀ (m p : Nat) (q : Value), (qbw j args)[m]? = some p → (qbj args vs)[m]? = some q → ∃ i t l, args[i]? = some (.bx t l) ∧ vs[i]? = some q ∧ p = 16 * (j + i)
 | [], vs, j, _ => by cases vs <;> simp [qbw, qbj]
 | o :: args, v :: vs, j, h => by
   obtain ⟨h1, h2⟩ := qja args vs (j + 1) (by simpa using h)
   by_cases ho : ∃ t l, o = .bx t l
   ·obtain ⟨t, l, rfl⟩ := ho
    refine ⟨by simp [qbw, qbj, h1], fun m p q hp hq => ?_⟩
    cases m with
    | zero => simp [qbw, qbj] at hp hq; exact ⟨0, t, l, rfl, by simp [hq], by omega⟩
    | succ m =>
      simp [qbw, qbj] at hp hq
      obtain ⟨i, t', l', q1, q2, q3⟩ := h2 m p q hp hq
      exact ⟨i + 1, t', l', by simpa using q1, by simpa using q2, by omega⟩
   ·have e1 : qbw j (o :: args) = qbw (j + 1) args := by cases o <;> first | rfl | exact absurd ⟨_, _, rfl⟩ ho
    have e2 : qbj (o :: args) (v :: vs) = qbj args vs := by cases o <;> first | rfl | exact absurd ⟨_, _, rfl⟩ ho
    rw [e1, e2]
    refine ⟨h1, fun m p q hp hq => ?_⟩
    obtain ⟨i, t', l', q1, q2, q3⟩ := h2 m p q hp hq
    exact ⟨i + 1, t', l', by simpa using q1, by simpa using q2, by omega⟩
theorem q003 {args : List O} {w : World} {vs : Array Value} {X : Nat → Prop} {os : List (Option Nat)} (hX : ∀ b, X b → b < w.heap.size) (hgi : GI w (fun b => X b ∨ Blk os b)) (hap : qh9 os) (hBX : ∀ b, Blk os b → ¬ X b)
 (har : AR w (fun b => X b ∨ Blk os b) vs args os) (hok : args.all qk0 = true) (hpins : C.pins = qbw 0 args) {n : Nat} (hn : args.length ≤ n) (hN : n = C.N) :
 ∃ pin bt, Rel C ⟨X, Blk os, w, hX, pin, hgi⟩ bt (qka args) { tmps := vs ++ Array.replicate (n - vs.size) undef, defers := [] } w ∧
   ∀ (m p : Nat) (q : Value), C.pins[m]? = some p → (qbj args vs.toList)[m]? = some q → ∃ bk, pin p = some bk ∧ q = .pointer (some ⟨bk, 0, none⟩) := by
 obtain ⟨hsz, oss, hl, rfl, hro⟩ := har
 have hvn : vs.size = args.length := hsz
 rw [List.all_eq_true] at hok
 let bt : Nat → Option Nat := fun i => ((oss[i / 16]?).bind (·[i % 16]?)).join
 -- each argument's rows
 have hq' : ∀ {i : Nat} {o : O}, args[i]? = some o → ∃ q v, oss[i]? = some q ∧ vs[i]? = some v ∧ RO w (fun b => X b ∨ Blk oss.flatten b) v o q ∧ o.ok = true ∧ q.length ≤ 16 ∧ ∀ b, (inO b o).2.2 = q.length := by
  intro i o hi
  have hlt := (List.getElem?_eq_some_iff.1 hi).1
  have h1 : oss[i]? = some (oss[i]'(by omega)) := by simp
  have h2 : vs[i]? = some (vs[i]'(by omega)) := by simp
  have ho := hok o (List.mem_of_getElem? hi)
  simp only [qk0, Bool.and_eq_true, decide_eq_true_eq] at ho
  have h3 := hro i _ o _ h2 hi h1
  have hc := fun b => q6s h3 ho.1 b
  exact ⟨_, _, h1, h2, h3, ho.1, by rw [← hc 0]; exact ho.2, hc⟩
 have hbt : ∀ {i k : Nat} {q : List (Option Nat)} {x : Option Nat}, oss[i]? = some q → q.length ≤ 16 → q[k]? = some x → bt (16 * i + k) = x := by
  intro i k q x h1 h2 h3
  have := (List.getElem?_eq_some_iff.1 h3).1
  show ((oss[(16 * i + k) / 16]?).bind (·[(16 * i + k) % 16]?)).join = x
  rw [show (16 * i + k) / 16 = i by omega, show (16 * i + k) % 16 = k by omega, h1]
  simp [h3]
 have hlive : ∀ {i : Nat} {h : HS}, (i, h) ∈ qc6 0 args → ∃ o, h = .live o := by
  intro i h hm
  obtain ⟨j, o, _, ho, hp⟩ := qjs hm
  obtain ⟨q, v, e1, _, e3, e4, e5, _⟩ := hq' (by simpa using ho)
  obtain ⟨k, ob, _, e, _⟩ := (qj8 (bt := fun i => (q[i - 16 * j]?).join) (nf := fun _ => True) (b := 16 * j) e3 e4 (fun k q hk => by simp [hk]) (fun _ _ => trivial)).rows _ hp
  exact ⟨_, by injection e⟩
 have hnf : ∀ {i o : Nat}, True → ∀ (h : HS), (i, h) ∈ qc6 0 args → Nf (qka args).hp i := by
  intro i o _ h hm
  obtain ⟨x, hx⟩ := qsd (List.mem_map.2 ⟨(i, h), hm, rfl⟩ : i ∈ (qc6 0 args).map (·.1))
  obtain ⟨ob, rfl⟩ := hlive (qfq hx)
  show ((aget (qc6 0 args) i).getD .free).isFree = false
  rw [hx]; rfl
 have hin : ∀ {i : Nat} {o : O} {q : List (Option Nat)} {v : Value}, args[i]? = some o → oss[i]? = some q → vs[i]? = some v → RO w (fun b => X b ∨ Blk oss.flatten b) v o q → o.ok = true → q.length ≤ 16 →
  InOk w (fun b => X b ∨ Blk oss.flatten b) bt (Nf (qka args).hp) (16 * i) 0 v q (inO (16 * i) o).1 (inO (16 * i) o).2.1 (inO (16 * i) o).2.2 := by
  intro i o q v h0 h1 h2 h3 h4 h5
  refine qj8 h3 h4 (fun k x hk => hbt h1 h5 hk) (fun k hk => ?_)
  have := (qj8 (bt := fun j => (q[j - 16 * i]?).join) (nf := fun _ => True) (b := 16 * i) h3 h4 (fun k q hk => by simp [hk]) (fun _ _ => trivial)).all k hk
  obtain ⟨p, hp, e⟩ := this
  obtain ⟨i', h'⟩ := p
  simp only at e
  subst e
  refine hnf (o := 0) trivial h' (qpf (j := 0) h0 (by simpa using hp))
 have hpos : ∀ {i b : Nat}, bt i = some b → ∃ q, oss[i / 16]? = some q ∧ q[i % 16]? = some (some b) := by
  intro i b h
  have h : ((oss[i / 16]?).bind (·[i % 16]?)).join = some b := h
  cases h1 : oss[i / 16]? with
  | none => rw [h1] at h; cases h
  | some q =>
    rw [h1] at h
    simp only [Option.bind_some] at h
    cases h2 : q[i % 16]? with
    | none => rw [h2] at h; cases h
    | some x => rw [h2] at h; simp only [Option.join_some] at h; subst h; exact ⟨q, rfl, h2⟩
 have hblk : ∀ {i b : Nat}, bt i = some b → Blk oss.flatten b := fun h => by
  obtain ⟨q, h1, h2⟩ := hpos h
  exact List.mem_flatten.2 ⟨q, List.mem_of_getElem? h1, List.mem_of_getElem? h2⟩
 have hXs : ∀ b, Xs X (qka args).hp bt b → X b ∨ Blk oss.flatten b := fun b hb => by
  rcases hb with hb | ⟨i, _, hi⟩
  ·exact .inl hb
  ·exact .inr (hblk hi)
 have hpin : ∀ (m p : Nat) (q : Value), C.pins[m]? = some p → (qbj args vs.toList)[m]? = some q → ∃ bk, bt p = some bk ∧ q = .pointer (some ⟨bk, 0, none⟩) ∧ Nf (qka args).hp p := fun m p q hp hq => by
  rw [hpins] at hp
  obtain ⟨i, t, l, q1, q2, q3⟩ := (qja args vs.toList 0 (by simpa using hvn)).2 m p q hp hq
  obtain ⟨os', v, h1, h2, h3, h4, h5, _⟩ := hq' q1
  rw [show vs.toList[i]? = vs[i]? from by simp] at q2
  rw [h2] at q2; cases q2
  have hin2 := hin q1 h1 h2 h3 h4 h5
  cases h3 with
  | bx _ bk cs _ oss' hb hn hm hh =>
    refine ⟨bk, ?_, rfl, ?_⟩
    ·rw [q3, Nat.zero_add]
     exact hbt (k := 0) h1 h5 rfl
    ·have := hin2.val
     rw [show (inO (16 * i) (.bx t l)).1 = .ptr (16 * i + 0) 0 from rfl] at this
     obtain ⟨_, _, hnf', _⟩ := qet this
     rw [q3, Nat.zero_add]
     exact hnf'
 refine ⟨fun p => if p ∈ C.pins then bt p else none, bt, ⟨rfl, by simp; omega, ?_, ?_, ?_, ?_, ?_, Fr.refl _ _, ?_⟩, fun m p q hp hq => ?_⟩
 rotate_left 5
 ·intro p b hp
  simp only at hp
  split at hp
  ·rename_i hm
   refine ⟨hm, hp, ?_⟩
   obtain ⟨m, hlt, rfl⟩ := List.getElem_of_mem hm
   have hl := (qja args vs.toList 0 (by simpa using hvn)).1
   rw [← hpins] at hl
   obtain ⟨bk, _, _, hh⟩ := hpin m _ ((qbj args vs.toList)[m]'(by omega)) (List.getElem?_eq_getElem hlt) (by simp)
   exact hh
  ·cases hp
 ·obtain ⟨bk, h1, h2, _⟩ := hpin m p q hp hq
  exact ⟨bk, (if_pos (List.mem_of_getElem? hp)).trans h1, h2⟩
 ·intro i v hv
  obtain ⟨o, _, ho, rfl⟩ := qns hv
  have ho : args[i]? = some o := by simpa using ho
  obtain ⟨q, u, h1, h2, h3, h4, h5, _⟩ := hq' ho
  have hlt := (Array.getElem?_eq_some_iff.1 h2).1
  have hu : (vs ++ Array.replicate (n - vs.size) undef).getD i undef = u := by
   simp only [Array.getD_eq_getD_getElem?]
   rw [Array.getElem?_append_left hlt, h2]; rfl
  show VR w _ bt _ ((vs ++ Array.replicate (n - vs.size) undef).getD i undef) _
  rw [hu]
  exact (hin ho h1 h2 h3 h4 h5).val.ext (Ext.refl _ w) (fun b _ hb => hXs b hb) (fun _ _ => rfl) (fun _ h => h)
 ·intro i ob hob
  have : ∃ h, aget (qc6 0 args) i = some h ∧ h.obj? = some ob := by
   have hob : ((aget (qc6 0 args) i).getD .free).obj? = some ob := hob
   cases hg : aget (qc6 0 args) i with
   | none => rw [hg] at hob; cases hob
   | some h => rw [hg] at hob; exact ⟨h, rfl, hob⟩
  obtain ⟨h, hg, hh⟩ := this
  obtain ⟨j, o, _, ho, hp⟩ := qjs (qfq hg)
  have ho : args[j]? = some o := by simpa using ho
  obtain ⟨q, u, h1, h2, h3, h4, h5, _⟩ := hq' ho
  obtain ⟨k, ob', q1, q2, q3⟩ := (hin ho h1 h2 h3 h4 h5).rows _ hp
  simp only [Prod.mk.injEq] at q2
  obtain ⟨rfl, rfl⟩ := q2
  cases hh
  exact q3.ext (Ext.refl _ w) (fun b _ hb => hXs b hb) (fun _ _ => rfl) (fun _ h => h) (by simpa using hnf (o := 0) trivial _ (qfq hg)) (fun _ _ => rfl)
 ·intro i j bk _ _ hi hj
  obtain ⟨q, h1, h2⟩ := hpos hi
  obtain ⟨q', h3, h4⟩ := hpos hj
  have := qpg hap h1 h2 h3 h4
  omega
 ·intro i bk _ hi
  exact ⟨.inr (hblk hi), hBX _ (hblk hi)⟩
 ·intro i bk _ hi
  exact hBX _ (hblk hi)
end
end Go.Ev
namespace Go.Ev
mutual
def dle : D → D → Prop
 | .nil, .sl _ l => l = []
 | .nil, d => d = .nil
 | .agg l, .agg m => dles l m
 | .agg _, _ => False
 | .sl z l, .sl z' m => z = z' ∧ dles l m
 | .sl _ _, _ => False
 | .cp l, .cp m => dles l m
 | .cp _, _ => False
 | .fn f l, .fn g m => f = g ∧ dles l m
 | .fn _ _, _ => False
 | .mp a b, .mp c d => dles a c ∧ dles b d
 | .mp _ _, _ => False
 | .b x, d => d = .b x
 | .i k x, d => d = .i k x
 | .s x, d => d = .s x
 | .np, d => d = .np
def dles : List D → List D → Prop
 | [], [] => True
 | x :: l, y :: m => dle x y ∧ dles l m
 | _, _ => False
end
mutual
theorem qbz : ∀ d, dle d d
 | .nil => by simp [dle]
 | .agg l => by simp only [dle]; exact q00 l
 | .sl z l => by simp only [dle]; exact ⟨trivial, q00 l⟩
 | .cp l => by simp only [dle]; exact q00 l
 | .fn f l => by simp only [dle]; exact ⟨trivial, q00 l⟩
 | .mp a b => by simp only [dle]; exact ⟨q00 a, q00 b⟩
 | .b x => by simp [dle]
 | .i k x => by simp [dle]
 | .s x => by simp [dle]
 | .np => by simp [dle]
theorem q00 : ∀ l, dles l l
 | [] => by simp [dles]
 | x :: l => by simp only [dles]; exact ⟨qbz x, q00 l⟩
end
theorem qby : ∀ {l m : List D}, dles l m → l.length = m.length ∧ ∀ (j : Nat) (x y : D), l[j]? = some x → m[j]? = some y → dle x y
 | [], [], _ => ⟨rfl, fun j x y h => by simp at h⟩
 | x :: l, y :: m, h => by
   simp only [dles] at h
   obtain ⟨h1, h2⟩ := qby h.2
   refine ⟨by simp [h1], fun j a b ha hb => ?_⟩
   cases j with
   | zero => simp at ha hb; subst ha; subst hb; exact h.1
   | succ j => simp at ha hb; exact h2 j a b ha hb
 | [], _ :: _, h => by simp [dles] at h
 | _ :: _, [], h => by simp [dles] at h
theorem qse {x y : D} (h : dle x y) : dles x.cells y.cells := by
 cases x with
 | agg l =>
   cases y with
   | agg m => simpa only [dle, D.cells] using h
   | _ => simp [dle] at h
 | nil =>
   cases y with
   | sl z m => simp only [dle] at h; subst h; simp [D.cells, dles, dle]
   | nil => simp [D.cells, dles, dle]
   | _ => simp [dle] at h
 | sl z l =>
   cases y with
   | sl z m => simp only [D.cells, dles, and_true]; exact h
   | _ => simp [dle] at h
 | cp l =>
   cases y with
   | cp m => simp only [D.cells, dles, and_true]; exact h
   | _ => simp [dle] at h
 | fn f l =>
   cases y with
   | fn g m => simp only [D.cells, dles, and_true]; exact h
   | _ => simp [dle] at h
 | mp a b =>
   cases y with
   | mp a' b' => simp only [D.cells, dles, and_true]; exact h
   | _ => simp [dle] at h
 | b x => simp only [dle] at h; subst h; exact q00 _
 | i k x => simp only [dle] at h; subst h; exact q00 _
 | s x => simp only [dle] at h; subst h; exact q00 _
 | np => simp only [dle] at h; subst h; exact q00 _
theorem qnt : ∀ {a b c d : List D}, dles a b → dles c d → dles (a ++ c) (b ++ d)
 | [], [], c, d, _, h => h
 | x :: a, y :: b, c, d, h, k => by
   simp only [dles] at h
   simp only [List.cons_append, dles]
   exact ⟨h.1, qnt h.2 k⟩
 | [], _ :: _, _, _, h, _ => by simp [dles] at h
 | _ :: _, [], _, _, h, _ => by simp [dles] at h
theorem qjb : ∀ {l m : List D}, dles l m → dles (flat l) (flat m)
 | [], [], _ => by simp [flat, dles]
 | x :: l, y :: m, h => by
   simp only [dles] at h
   rw [qc0, qc0]
   exact qnt (qse h.1) (qjb h.2)
 | [], _ :: _, h => by simp [dles] at h
 | _ :: _, [], h => by simp [dles] at h
theorem q6t {x y : D} (h : dle x y) (h1 : x.one = true) : y.one = true := by
 cases x with
 | agg l => cases h1
 | nil =>
   cases y with
   | agg l => simp [dle] at h
   | _ => rfl
 | sl z l =>
   cases y with
   | sl z m => rfl
   | _ => simp [dle] at h
 | cp l =>
   cases y with
   | cp m => rfl
   | _ => simp [dle] at h
 | fn f l =>
   cases y with
   | fn g m => rfl
   | _ => simp [dle] at h
 | mp a b =>
   cases y with
   | mp a' b' => rfl
   | _ => simp [dle] at h
 | b x => simp only [dle] at h; subst h; rfl
 | i k x => simp only [dle] at h; subst h; rfl
 | s x => simp only [dle] at h; subst h; rfl
 | np => simp only [dle] at h; subst h; rfl
theorem qn9 {x y : D} {sz : Nat} (h : dle x y) (hf : x.fits sz) : y.fits sz := by
 obtain ⟨h1, h2⟩ := hf
 obtain ⟨e, hp⟩ := qby (qse h)
 refine ⟨by omega, fun c hc => ?_⟩
 obtain ⟨j, hj, rfl⟩ := List.getElem_of_mem hc
 have hx : x.cells[j]? = some (x.cells[j]'(by omega)) := by simp
 exact q6t (hp j _ _ hx (by simp)) (h2 _ (List.getElem_mem _))
theorem RD.le {w : World} {X : Nat → Prop} {v : Value} {d : D} (h : RD w X v d) : ∀ {d' : D}, dle d d' → RD w X v d' := by
 induction h with
 | b x => intro d' hd; simp only [dle] at hd; subst hd; exact .b x
 | i k n => intro d' hd; simp only [dle] at hd; subst hd; exact .i k n
 | s x => intro d' hd; simp only [dle] at hd; subst hd; exact .s x
 | np => intro d' hd; simp only [dle] at hd; subst hd; exact .np
 | agg cs l hn _ ih =>
   intro d' hd
   cases d' with
   | agg m =>
     simp only [dle] at hd
     obtain ⟨e, hp⟩ := qby hd
     refine .agg cs m (by omega) fun j v d hj hm => ?_
     have hl : j < l.length := by have := (List.getElem?_eq_some_iff.1 hm).1; omega
     exact ih j v l[j] hj (by simp [hl]) (hp j _ _ (by simp [hl]) hm)
   | _ => simp [dle] at hd
 | nil =>
   intro d' hd
   cases d' with
   | nil => exact .nil
   | sl z m => simp only [dle] at hd; subst hd; exact .sl0 z
   | _ => simp [dle] at hd
 | sl0 sz =>
   intro d' hd
   cases d' with
   | sl z m =>
     simp only [dle] at hd
     obtain ⟨rfl, hd⟩ := hd
     cases m with
     | nil => exact .sl0 _
     | cons => simp [dles] at hd
   | _ => simp [dle] at hd
 | sl a cap sz l u hc hsz hs ha hw _ ih =>
   intro d' hd
   cases d' with
   | sl z m =>
     simp only [dle] at hd
     obtain ⟨rfl, hd⟩ := hd
     obtain ⟨e, hp⟩ := qby hd
     obtain ⟨e2, hp2⟩ := qby (qjb hd)
     rw [e]
     have back : ∀ {j : Nat} {d : D}, (Ev.flat m)[j]? = some d → ∃ d0, (Ev.flat l)[j]? = some d0 := fun {j d} hj => by
      have := (List.getElem?_eq_some_iff.1 hj).1
      exact ⟨(Ev.flat l)[j]'(by omega), by simp⟩
     refine .sl a cap _ m u (by omega) hsz (fun d hd' => ?_) (fun hl => ha (fun h0 => hl ?_)) (fun j d hj => ?_) (fun j d hj => ?_)
     ·obtain ⟨j, hj, rfl⟩ := List.getElem_of_mem hd'
      exact qn9 (hp j (l[j]'(by omega)) _ (by simp) (by simp)) (hs _ (List.getElem_mem _))
     ·subst h0; exact List.eq_nil_of_length_eq_zero (by simpa using e.symm)
     ·obtain ⟨d0, h0⟩ := back hj; exact hw j d0 h0
     ·obtain ⟨d0, h0⟩ := back hj; exact ih j d0 h0 (hp2 j d0 d h0 hj)
   | _ => simp [dle] at hd
 | cp a l u ha hw _ ih =>
   intro d' hd
   cases d' with
   | cp m =>
     simp only [dle] at hd
     obtain ⟨e, hp⟩ := qby hd
     have back : ∀ {j : Nat} {d : D}, m[j]? = some d → ∃ d0, l[j]? = some d0 := fun {j d} hj => by
      have := (List.getElem?_eq_some_iff.1 hj).1
      exact ⟨l[j]'(by omega), by simp⟩
     refine .cp a m u ⟨ha.1, fun hm => ha.2 (fun h0 => hm ?_)⟩ (fun j d hj => ?_) (fun j d hj => ?_)
     ·subst h0; exact List.eq_nil_of_length_eq_zero (by simpa using e.symm)
     ·obtain ⟨d0, h0⟩ := back hj; exact hw j d0 h0
     ·obtain ⟨d0, h0⟩ := back hj; exact ih j d0 h0 (hp j d0 d h0 hj)
   | _ => simp [dle] at hd
 | fn f cs l hn _ ih =>
   intro d' hd
   cases d' with
   | fn g m =>
     simp only [dle] at hd
     obtain ⟨rfl, hd⟩ := hd
     obtain ⟨e, hp⟩ := qby hd
     refine .fn f cs m (by omega) fun j v d hj hm => ?_
     have hl : j < l.length := by have := (List.getElem?_eq_some_iff.1 hm).1; omega
     exact ih j v l[j] hj (by simp [hl]) (hp j _ _ (by simp [hl]) hm)
   | _ => simp [dle] at hd
 | mp bk es clock ks vs hX hb hs hk hv _ _ ih1 ih2 =>
   intro d' hd
   cases d' with
   | mp ks' vs' =>
     simp only [dle] at hd
     obtain ⟨e1, p1⟩ := qby hd.1
     obtain ⟨e2, p2⟩ := qby hd.2
     refine .mp bk es clock ks' vs' hX hb hs (by omega) (by omega) (fun j e d hj hm => ?_) (fun j e d hj hm => ?_)
     ·have hl : j < ks.length := by have := (List.getElem?_eq_some_iff.1 hm).1; omega
      exact ih1 j e ks[j] hj (by simp [hl]) (p1 j _ _ (by simp [hl]) hm)
     ·have hl : j < vs.length := by have := (List.getElem?_eq_some_iff.1 hm).1; omega
      exact ih2 j e vs[j] hj (by simp [hl]) (p2 j _ _ (by simp [hl]) hm)
   | _ => simp [dle] at hd
 | mp0 =>
   intro d' hd
   cases d' with
   | mp ks' vs' =>
     simp only [dle] at hd
     obtain ⟨e1, _⟩ := qby hd.1
     obtain ⟨e2, _⟩ := qby hd.2
     have a1 : ks' = [] := List.eq_nil_of_length_eq_zero (by simpa using e1.symm)
     have a2 : vs' = [] := List.eq_nil_of_length_eq_zero (by simpa using e2.symm)
     subst a1; subst a2
     exact .mp0
   | _ => simp [dle] at hd
mutual
def ole : O → O → Prop
 | .d x, .d y => dle x y
 | .own t z l, .own t' z' m => t = t' ∧ z = z' ∧ dles l m
 | .agg l, .agg m => oles l m
 | .tup l, .tup m => oles l m
 | .bx t l, .bx t' m => t = t' ∧ oles l m
 | _, _ => False
def oles : List O → List O → Prop
 | [], [] => True
 | x :: l, y :: m => ole x y ∧ oles l m
 | _, _ => False
end
mutual
theorem q0y : ∀ d, ole d d
 | .d x => by simp only [ole]; exact qbz x
 | .own t z l => by simp only [ole]; exact ⟨trivial, trivial, q00 l⟩
 | .agg l => by simp only [ole]; exact qjc l
 | .tup l => by simp only [ole]; exact qjc l
 | .bx t l => by simp only [ole]; exact ⟨trivial, qjc l⟩
theorem qjc : ∀ l, oles l l
 | [] => by simp [oles]
 | x :: l => by simp only [oles]; exact ⟨q0y x, qjc l⟩
end
theorem qhy : ∀ {l m : List O}, oles l m → l.length = m.length ∧ ∀ (j : Nat) (x y : O), l[j]? = some x → m[j]? = some y → ole x y
 | [], [], _ => ⟨rfl, fun j x y h => by simp at h⟩
 | x :: l, y :: m, h => by
   simp only [oles] at h
   obtain ⟨h1, h2⟩ := qhy h.2
   refine ⟨by simp [h1], fun j a b ha hb => ?_⟩
   cases j with
   | zero => simp at ha hb; subst ha; subst hb; exact h.1
   | succ j => simp at ha hb; exact h2 j a b ha hb
 | [], _ :: _, h => by simp [oles] at h
 | _ :: _, [], h => by simp [oles] at h
theorem RO.le {w : World} {X : Nat → Prop} {v : Value} {o : O} {os : List (Option Nat)} (h : RO w X v o os) : ∀ {o' : O}, ole o o' → RO w X v o' os := by
 induction h with
 | d v x h =>
   intro o' ho
   cases o' with
   | d y => simp only [ole] at ho; exact .d v y (h.le ho)
   | _ => simp [ole] at ho
 | nil t sz h0 =>
   intro o' ho
   cases o' with
   | own t' z' m =>
     simp only [ole] at ho
     obtain ⟨rfl, rfl, ho⟩ := ho
     cases m with
     | nil => exact .nil _ _ h0
     | cons => simp [dles] at ho
   | _ => simp [ole] at ho
 | own t sz bk cap ad cs l had hcap hcs hb h0 hs hc =>
   intro o' ho
   cases o' with
   | own t' z' m =>
     simp only [ole] at ho
     obtain ⟨rfl, rfl, ho⟩ := ho
     obtain ⟨e, hp⟩ := qby ho
     obtain ⟨e2, hp2⟩ := qby (qjb ho)
     rw [e]
     refine .own _ _ bk cap ad cs m had (by omega) hcs hb h0 (fun d hd' => ?_) (fun j v x hj hx => ?_)
     ·obtain ⟨j, hj, rfl⟩ := List.getElem_of_mem hd'
      exact qn9 (hp j (l[j]'(by omega)) _ (by simp) (by simp)) (hs _ (List.getElem_mem _))
     ·have := (List.getElem?_eq_some_iff.1 hx).1
      have h0 : (Ev.flat l)[j]? = some ((Ev.flat l)[j]'(by omega)) := by simp
      exact (hc j v _ hj h0).le (hp2 j _ x h0 hx)
   | _ => simp [ole] at ho
 | agg cs l oss hn hm _ ih =>
   intro o' ho
   cases o' with
   | agg m =>
     simp only [ole] at ho
     obtain ⟨e, hp⟩ := qhy ho
     refine .agg cs m oss (by omega) (by omega) fun j v o os hj hx ho => ?_
     have hl : j < l.length := by have := (List.getElem?_eq_some_iff.1 hx).1; omega
     exact ih j v l[j] os hj (by simp [hl]) ho (hp j _ _ (by simp [hl]) hx)
   | _ => simp [ole] at ho
 | tup cs l oss hn hm _ ih =>
   intro o' ho
   cases o' with
   | tup m =>
     simp only [ole] at ho
     obtain ⟨e, hp⟩ := qhy ho
     refine .tup cs m oss (by omega) (by omega) fun j v o os hj hx ho => ?_
     have hl : j < l.length := by have := (List.getElem?_eq_some_iff.1 hx).1; omega
     exact ih j v l[j] os hj (by simp [hl]) ho (hp j _ _ (by simp [hl]) hx)
   | _ => simp [ole] at ho
 | bx t bk cs l oss hb hn hm _ ih =>
   intro o' ho
   cases o' with
   | bx t' m =>
     simp only [ole] at ho
     obtain ⟨rfl, ho⟩ := ho
     obtain ⟨e, hp⟩ := qhy ho
     refine .bx _ bk cs m oss hb (by omega) (by omega) fun j v o os hj hx ho => ?_
     have hl : j < l.length := by have := (List.getElem?_eq_some_iff.1 hx).1; omega
     exact ih j v l[j] os hj (by simp [hl]) ho (hp j _ _ (by simp [hl]) hx)
   | _ => simp [ole] at ho
theorem qsf : ∀ {args args' : List O} {vs : List Value}, oles args args' → qbj args' vs = qbj args vs
 | [], [], vs, _ => rfl
 | x :: l, y :: m, [], _ => by cases x <;> cases y <;> rfl
 | x :: l, y :: m, v :: vs, h => by
   simp only [oles] at h
   have ih := qsf (vs := vs) h.2
   cases x <;> cases y <;> first | (simp only [ole] at h; exact h.1.elim) | (simp only [qbj]; rw [ih]) | (simp only [ole, false_and] at h)
 | [], _ :: _, _, h => by simp [oles] at h
 | _ :: _, [], _, h => by simp [oles] at h
theorem Sem.le {P : Program} {f : FuncId} {args args' : List O} {r r' : O} (h : Sem P f args' r') (ha : oles args args') (hr : ole r' r) : Sem P f args r := by
 intro w vs X os hX hap hBX har hgi
 obtain ⟨e, hp⟩ := qhy ha
 obtain ⟨hsz, oss, hl, ho, hro⟩ := har
 refine Calls.mono (h w vs X os hX hap hBX ⟨by omega, oss, by omega, ho, fun j v o q hj hx hq => ?_⟩ hgi) fun en w' he => ?_
 ·have hl : j < args.length := by have := (List.getElem?_eq_some_iff.1 hx).1; omega
  exact (hro j v args[j] q hj (by simp [hl]) hq).le (hp j _ _ (by simp [hl]) hx)
 ·obtain ⟨v, u, os', h1, h0, h2, h3⟩ := he
  unfold Ret at h0
  rw [qsf ha] at h0
  exact ⟨v, u, os', h1, h0, h2.le hr, h3⟩
end Go.Ev
namespace Go.Ev
def vd1 (ρ : Nat → Option Nat) (nf : Nat → Prop) (x : D) : V → Prop
 | .d y => dle x y
 | .row b _ off n => x = .nil ∧ ρ b = none ∧ nf b ∧ off = 0 ∧ n = 0
 | _ => False
def vds (ρ : Nat → Option Nat) (nf : Nat → Prop) : List D → List V → Prop
 | [], [] => True
 | x :: l, y :: m => vd1 ρ nf x y ∧ vds ρ nf l m
 | _, _ => False
mutual
def vs (ρ : Nat → Option Nat) (nf : Nat → Prop) : V → V → Prop
 | .d x, .d y => dle x y
 | .d x, .row b _ off n => x = .nil ∧ ρ b = none ∧ nf b ∧ off = 0 ∧ n = 0
 | .d (.agg l), .agg m => vds ρ nf l m
 | .d (.fn f l), .fn g m => f = g ∧ vds ρ nf l m
 | .d _, _ => False
 | .agg l, .agg m => vss ρ nf l m
 | .agg _, _ => False
 | .ptr a o, y => ∃ b, y = .ptr b o ∧ ρ b = some a ∧ nf b
 | .row a z off n, y => ∃ b, y = .row b z off n ∧ ρ b = some a ∧ nf b
 | .rp a z j off, y => ∃ b, y = .rp b z j off ∧ ρ b = some a ∧ nf b
 | .fn f l, .fn g m => f = g ∧ vss ρ nf l m
 | .fn _ _, _ => False
 | .tup l, .tup m => vss ρ nf l m
 | .tup _, _ => False
 | .opt g x, .opt g' y => g = g' ∧ vs ρ nf x y
 | .opt _ _, _ => False
 | .ub x, y => y = .ub x
 | .nb x, y => y = .nb x
 | .mref a, y => ∃ b, y = .mref b ∧ ρ b = some a ∧ nf b
def vss (ρ : Nat → Option Nat) (nf : Nat → Prop) : List V → List V → Prop
 | [], [] => True
 | x :: l, y :: m => vs ρ nf x y ∧ vss ρ nf l m
 | _, _ => False
end
theorem qg7 {ρ : Nat → Option Nat} {nf : Nat → Prop} : ∀ {l m : List V}, vss ρ nf l m → l.length = m.length ∧ ∀ (j : Nat) (x y : V), l[j]? = some x → m[j]? = some y → vs ρ nf x y
 | [], [], _ => ⟨rfl, fun j x y h => by simp at h⟩
 | x :: l, y :: m, h => by
   simp only [vss] at h
   obtain ⟨h1, h2⟩ := qg7 h.2
   refine ⟨by simp [h1], fun j a b ha hb => ?_⟩
   cases j with
   | zero => simp at ha hb; subst ha; subst hb; exact h.1
   | succ j => simp at ha hb; exact h2 j a b ha hb
 | [], _ :: _, h => by simp [vss] at h
 | _ :: _, [], h => by simp [vss] at h
theorem qoa {ρ : Nat → Option Nat} {nf : Nat → Prop} : ∀ {l : List D} {m : List V}, vds ρ nf l m → l.length = m.length ∧ ∀ (j : Nat) (x : D) (y : V), l[j]? = some x → m[j]? = some y → vd1 ρ nf x y
 | [], [], _ => ⟨rfl, fun j x y h => by simp at h⟩
 | x :: l, y :: m, h => by
   simp only [vds] at h
   obtain ⟨h1, h2⟩ := qoa h.2
   refine ⟨by simp [h1], fun j a b ha hb => ?_⟩
   cases j with
   | zero => simp at ha hb; subst ha; subst hb; exact h.1
   | succ j => simp at ha hb; exact h2 j a b ha hb
 | [], _ :: _, h => by simp [vds] at h
 | _ :: _, [], h => by simp [vds] at h
section
variable {w : World} {X X' : Nat → Prop} {bt : Nat → Option Nat} {nf nf' : Nat → Prop} {ρ : Nat → Option Nat}
theorem qmz (hX : ∀ b, X' b → X b) {v : Value} {x : D} {y : V} (h : RD w X v x) (hv : vd1 ρ nf' x y) : VR w X' (fun i => (ρ i).bind bt) nf' v y := by
 cases y with
 | d y => exact .d _ _ ((h.mono hX).le hv)
 | row b z off n =>
   simp only [vd1] at hv
   obtain ⟨rfl, h1, h2, rfl, rfl⟩ := hv
   cases h
   exact .row0 b z h2 (by simp [h1])
 | _ => simp [vd1] at hv
theorem VR.ren (hX : ∀ b, X' b → X b) {v : Value} {x : V} (h : VR w X bt nf v x) : ∀ {y : V}, vs ρ nf' x y → VR w X' (fun i => (ρ i).bind bt) nf' v y := by
 induction h with
 | d v x h =>
   intro y hv
   cases y with
   | d y => exact qmz hX h (by simpa only [vs, vd1] using hv)
   | row b z off n => exact qmz hX h (by simpa only [vs, vd1] using hv)
   | agg m =>
     cases x with
     | agg l =>
       simp only [vs] at hv
       obtain ⟨e, hp⟩ := qoa hv
       cases h with
       | agg cs _ hn hh =>
         refine .agg cs m (by omega) fun j u y hj hy => ?_
         have hl : j < l.length := by have := (List.getElem?_eq_some_iff.1 hy).1; omega
         exact qmz hX (hh j u l[j] hj (by simp [hl])) (hp j l[j] y (by simp [hl]) hy)
     | _ => simp [vs] at hv
   | fn g m =>
     cases x with
     | fn f l =>
       simp only [vs] at hv
       obtain ⟨rfl, hv⟩ := hv
       obtain ⟨e, hp⟩ := qoa hv
       cases h with
       | fn _ cs _ hn hh =>
         refine .fn f cs m (by omega) fun j u y hj hy => ?_
         have hl : j < l.length := by have := (List.getElem?_eq_some_iff.1 hy).1; omega
         exact qmz hX (hh j u l[j] hj (by simp [hl])) (hp j l[j] y (by simp [hl]) hy)
     | _ => simp [vs] at hv
   | _ => cases x <;> simp [vs] at hv
 | agg cs l hn _ ih =>
   intro y hv
   cases y with
   | agg m =>
     simp only [vs] at hv
     obtain ⟨e, hp⟩ := qg7 hv
     refine .agg cs m (by omega) fun j u y hj hy => ?_
     have hl : j < l.length := by have := (List.getElem?_eq_some_iff.1 hy).1; omega
     exact ih j u l[j] hj (by simp [hl]) (hp j l[j] y (by simp [hl]) hy)
   | _ => simp [vs] at hv
 | ptr id off bk hf hb =>
   intro y hv
   simp only [vs] at hv
   obtain ⟨b, rfl, h1, h2⟩ := hv
   exact .ptr b off bk h2 (by simp [h1, hb])
 | row id sz off n bk cap ad had hf hb hn hk =>
   intro y hv
   simp only [vs] at hv
   obtain ⟨b, rfl, h1, h2⟩ := hv
   exact .row b sz off n bk cap ad had h2 (by simp [h1, hb]) hn hk
 | row0 id sz hf hb =>
   intro y hv
   simp only [vs] at hv
   obtain ⟨b, rfl, h1, h2⟩ := hv
   exact .row0 b sz h2 (by simp [h1, hb])
 | rp id sz j off bk hf hb =>
   intro y hv
   simp only [vs] at hv
   obtain ⟨b, rfl, h1, h2⟩ := hv
   exact .rp b sz j off bk h2 (by simp [h1, hb])
 | fn f cs l hn _ ih =>
   intro y hv
   cases y with
   | fn g m =>
     simp only [vs] at hv
     obtain ⟨rfl, hv⟩ := hv
     obtain ⟨e, hp⟩ := qg7 hv
     refine .fn f cs m (by omega) fun j u y hj hy => ?_
     have hl : j < l.length := by have := (List.getElem?_eq_some_iff.1 hy).1; omega
     exact ih j u l[j] hj (by simp [hl]) (hp j l[j] y (by simp [hl]) hy)
   | _ => simp [vs] at hv
 | tup cs l hn _ ih =>
   intro y hv
   cases y with
   | tup m =>
     simp only [vs] at hv
     obtain ⟨e, hp⟩ := qg7 hv
     refine .tup cs m (by omega) fun j u y hj hy => ?_
     have hl : j < l.length := by have := (List.getElem?_eq_some_iff.1 hy).1; omega
     exact ih j u l[j] hj (by simp [hl]) (hp j l[j] y (by simp [hl]) hy)
   | _ => simp [vs] at hv
 | opt v g x _ hb ih =>
   intro y hv
   cases y with
   | opt g' y =>
     simp only [vs] at hv
     obtain ⟨rfl, hv⟩ := hv
     exact .opt v _ y (fun hg => ih hg hv) hb
   | _ => simp [vs] at hv
 | mref id bk hf hb =>
   intro y hv
   simp only [vs] at hv
   obtain ⟨b, rfl, h1, h2⟩ := hv
   exact .mref b bk h2 (by simp [h1, hb])
 | ub b x h => intro y hv; simp only [vs] at hv; subst hv; exact .ub b x h
 | nb b x h => intro y hv; simp only [vs] at hv; subst hv; exact .nb b x h
end
def os (ρ : Nat → Option Nat) (nf : Nat → Prop) : Obj' → Obj' → Prop
 | .box t c, .box t' c' => t = t' ∧ vss ρ nf c c'
 | .row t z b l, .row t' z' b' l' => t = t' ∧ z = z' ∧ (b' = true → b = true ∨ l ≠ []) ∧ dles l l'
 | .mp t k v, .mp t' k' v' => t = t' ∧ dles k k' ∧ vss ρ nf v v'
 | _, _ => False
theorem OR.ren {w : World} {X X' : Nat → Prop} {bt : Nat → Option Nat} {nf nf' : Nat → Prop} {ρ : Nat → Option Nat} (hX : ∀ b, X' b → X b) {a b : Nat} {o o' : Obj'} (h : OR w X bt nf a o) (ho : os ρ nf' o o') (hb : ρ b = some a) :
 OR w X' (fun i => (ρ i).bind bt) nf' b o' := by
 cases o with
 | mp t ks vs =>
   cases o' with
   | mp t' ks' vs' =>
     simp only [os] at ho
     obtain ⟨rfl, ho1, ho2⟩ := ho
     obtain ⟨e1, p1⟩ := qby ho1
     obtain ⟨e2, p2⟩ := qg7 ho2
     obtain ⟨bk, es, clock, h1, h2, h0, h3, h4, h5, h6⟩ := h
     refine ⟨bk, es, clock, by simp [hb, h1], h2, h0, by omega, by omega, fun j e d hj hd => ?_, fun j e x hj hx => ?_⟩
     ·have hl : j < ks.length := by have := (List.getElem?_eq_some_iff.1 hd).1; omega
      exact ((h5 j e ks[j] hj (by simp [hl])).mono hX).le (p1 j ks[j] d (by simp [hl]) hd)
     ·have hl : j < vs.length := by have := (List.getElem?_eq_some_iff.1 hx).1; omega
      exact (h6 j e vs[j] hj (by simp [hl])).ren hX (p2 j vs[j] x (by simp [hl]) hx)
   | _ => simp [os] at ho
 | box t c =>
   cases o' with
   | mp => simp [os] at ho
   | box t' c' =>
     simp only [os] at ho
     obtain ⟨rfl, ho⟩ := ho
     obtain ⟨e, hp⟩ := qg7 ho
     obtain ⟨bk, cs, h1, h2, h3, h4⟩ := h
     refine ⟨bk, cs, by simp [hb, h1], h2, by omega, fun j v x hj hx => ?_⟩
     have hl : j < c.length := by have := (List.getElem?_eq_some_iff.1 hx).1; omega
     exact (h4 j v c[j] hj (by simp [hl])).ren hX (hp j c[j] x (by simp [hl]) hx)
   | row => simp [os] at ho
 | row t z zb l =>
   cases o' with
   | box => simp [os] at ho
   | mp => simp [os] at ho
   | row t' z' zb' l' =>
     simp only [os] at ho
     obtain ⟨rfl, rfl, hz, ho⟩ := ho
     obtain ⟨e, hp⟩ := qby ho
     obtain ⟨e2, hp2⟩ := qby (qjb ho)
     have nil : l = [] → l' = [] := fun h => List.eq_nil_of_length_eq_zero (by rw [← e, h]; rfl)
     have nil' : l' = [] → l = [] := fun h => List.eq_nil_of_length_eq_zero (by rw [e, h]; rfl)
     obtain ⟨h0, h1, h2⟩ := h
     refine ⟨h0, fun d hd => ?_, ?_⟩
     ·obtain ⟨j, hj, rfl⟩ := List.getElem_of_mem hd
      exact qn9 (hp j (l[j]'(by omega)) _ (by simp) (by simp)) (h1 _ (List.getElem_mem _))
     ·rcases h2 with ⟨h3, h4⟩ | ⟨bk, cs, h3, h4, h5, h6, h7⟩
      ·exact .inl ⟨by simp [hb, h3], nil h4⟩
      ·refine .inr ⟨bk, cs, by simp [hb, h3], h4, fun hz' => ?_, by omega, fun j v x hj hx => ?_⟩
       ·rcases hz hz' with h | h
        ·exact fun hn => h5 h (nil' hn)
        ·exact fun hn => h (nil' hn)
       ·have := (List.getElem?_eq_some_iff.1 hx).1
        have hl : (flat l)[j]? = some ((flat l)[j]'(by omega)) := by simp
        exact ((h7 j v _ hj hl).mono hX).le (hp2 j _ x hl hx)
structure SubBy (ρ : Nat → Option Nat) (s s' : St) : Prop where
 slots : ∀ i y, s'.sl i = some y → ∃ x, s.sl i = some x ∧ vs ρ (Nf s'.hp) x y
 objs : ∀ i o', (s'.hp i).obj? = some o' → (∃ a o, ρ i = some a ∧ (s.hp a).obj? = some o ∧ os ρ (Nf s'.hp) o o' ∧ ((s'.hp i).isLive = true → (s.hp a).isLive = true)) ∨ (ρ i = none ∧ ∃ t sz z, o' = .row t sz z [] ∧ 0 < sz)
 inj : ∀ i j a, ρ i = some a → ρ j = some a → i = j
theorem SubBy.sub {C : Cfg} {ρ : Nat → Option Nat} {s s' : St} (h : SubBy ρ s s') (hpin : ∀ p ∈ C.pins, ρ p = some p ∧ Nf s'.hp p) : Sub C s s' := by
 intro E bt a w hr
 have live : ∀ i bk, (s'.hp i).isLive = true → (ρ i).bind bt = some bk → ∃ a, ρ i = some a ∧ (s.hp a).isLive = true ∧ bt a = some bk := by
  intro i bk hl hb
  obtain ⟨o', ho'⟩ := Option.isSome_iff_exists.1 (qc5 hl)
  rcases h.objs i o' ho' with ⟨a, o, h1, h2, h3, h4⟩ | ⟨h1, _⟩
  ·exact ⟨a, h1, h4 hl, by simpa [h1] using hb⟩
  ·rw [h1] at hb; cases hb
 have obj : ∀ i bk, (s'.hp i).obj?.isSome = true → (ρ i).bind bt = some bk → ∃ a, ρ i = some a ∧ (s.hp a).obj?.isSome = true ∧ bt a = some bk := by
  intro i bk hl hb
  obtain ⟨o', ho'⟩ := Option.isSome_iff_exists.1 hl
  rcases h.objs i o' ho' with ⟨a, o, h1, h2, h3, h4⟩ | ⟨h1, _⟩
  ·exact ⟨a, h1, by rw [h2]; rfl, by simpa [h1] using hb⟩
  ·rw [h1] at hb; cases hb
 have hX : ∀ b, Xs E.X0 s'.hp (fun i => (ρ i).bind bt) b → Xs E.X0 s.hp bt b := by
  intro b hb
  rcases hb with hb | ⟨i, hi, hb⟩
  ·exact .inl hb
  ·obtain ⟨a, _, h2, h3⟩ := live i b hi hb
   exact qb7 h2 h3
 refine ⟨fun i => (ρ i).bind bt, hr.df, hr.sz, ?_, ?_, ?_, ?_, ?_, hr.fr, fun p b hp => let ⟨h1, h2, _⟩ := hr.pin p b hp; ⟨h1, by rw [(hpin p h1).1]; exact h2, (hpin p h1).2⟩⟩
 ·intro i y hy
  obtain ⟨x, hx, hv⟩ := h.slots i y hy
  exact (hr.slots i x hx).ren hX hv
 ·intro i o' ho'
  rcases h.objs i o' ho' with ⟨a, o, h1, h2, h3, h4⟩ | ⟨h1, t, sz, z, rfl, h2⟩
  ·exact (hr.objs a o h2).ren hX h3 h1
  ·exact ⟨h2, by simp, .inl ⟨by simp [h1], rfl⟩⟩
 ·intro i j bk hi hj hbi hbj
  obtain ⟨a, a1, a2, a3⟩ := live i bk hi hbi
  obtain ⟨b, b1, b2, b3⟩ := obj j bk hj hbj
  have := hr.inj a b bk a2 b2 a3 b3
  subst this
  exact h.inj i j a a1 b1
 ·intro i bk hi hb
  obtain ⟨a, a1, a2, a3⟩ := live i bk hi hb
  exact hr.own a bk a2 a3
 ·intro i bk hi hb
  obtain ⟨a, a1, a2, a3⟩ := obj i bk hi hb
  exact hr.nx a bk a2 a3
def qm0 (ρ : Nat → Option Nat) (nf : Nat → Prop) (sl : List (Nat × V)) : List (Nat × V) → Prop
 | [] => True
 | (i, y) :: r => (match aget sl i with | some x => vs ρ nf x y | none => False) ∧ qm0 ρ nf sl r
def qph (ρ : Nat → Option Nat) (nf : Nat → Prop) (hp : List (Nat × HS)) (i : Nat) (h : HS) : Prop :=
 match h.obj? with
 | none => True
 | some o' => match ρ i with
   | some a => (match aget hp a with
     | some g => (match g.obj? with | some o => os ρ nf o o' | none => False) ∧ (h.isLive = true → g.isLive = true)
     | none => False)
   | none => match o' with | .row _ sz _ l => l = [] ∧ 0 < sz | _ => False
def qm1 (ρ : Nat → Option Nat) (nf : Nat → Prop) (hp : List (Nat × HS)) : List (Nat × HS) → Prop
 | [] => True
 | (i, h) :: r => qph ρ nf hp i h ∧ qm1 ρ nf hp r
def nfL (hp : List (Nat × HS)) (i : Nat) : Prop := match aget hp i with | some h => h.isFree = false | none => False
theorem qsg {ρ : Nat → Option Nat} {nf : Nat → Prop} {sl : List (Nat × V)} : ∀ {l : List (Nat × V)} {i : Nat} {y : V}, qm0 ρ nf sl l → (i, y) ∈ l → ∃ x, aget sl i = some x ∧ vs ρ nf x y
 | [], _, _, _, h => by cases h
 | (j, z) :: r, i, y, h, hm => by
   simp only [qm0] at h
   rcases List.mem_cons.1 hm with e | hm
   ·cases e
    have h := h.1
    split at h
    ·rename_i x hx; exact ⟨x, hx, h⟩
    ·exact h.elim
   ·exact qsg h.2 hm
theorem qsh {ρ : Nat → Option Nat} {nf : Nat → Prop} {hp : List (Nat × HS)} : ∀ {l : List (Nat × HS)} {i : Nat} {h : HS}, qm1 ρ nf hp l → (i, h) ∈ l → qph ρ nf hp i h
 | [], _, _, _, h => by cases h
 | (j, z) :: r, i, y, h, hm => by
   simp only [qm1] at h
   rcases List.mem_cons.1 hm with e | hm
   ·cases e; exact h.1
   ·exact qsh h.2 hm
theorem q9c {C : Cfg} (ρ : List (Nat × Nat)) {sl sl' : List (Nat × V)} {hp hp' : List (Nat × HS)} (h1 : qm0 (aget ρ) (nfL hp') sl sl') (h2 : qm1 (aget ρ) (nfL hp') hp hp') (h3 : (ρ.map (·.2)).Nodup) (h4 : ∀ p ∈ C.pins, aget ρ p = some p ∧ nfL hp' p) :
 Sub C (mkS sl hp) (mkS sl' hp') := by
 have enf : Nf (mkS sl' hp').hp = nfL hp' := by
  funext i
  simp only [Nf, mkS, nfL]
  cases aget hp' i with
  | none => simp [HS.isFree]
  | some h => simp
 refine SubBy.sub (ρ := aget ρ) ⟨fun i y hy => ?_, fun i o' ho' => ?_, fun i j a hi hj => ?_⟩ (by rw [enf]; exact h4)
 ·rw [enf]; exact qsg h1 (qfq hy)
 ·rw [enf]
  have : ∃ h, aget hp' i = some h ∧ h.obj? = some o' ∧ (mkS sl' hp').hp i = h := by
   simp only [mkS] at ho' ⊢
   cases hg : aget hp' i with
   | none => rw [hg] at ho'; cases ho'
   | some h => rw [hg] at ho'; exact ⟨h, rfl, ho', rfl⟩
  obtain ⟨h, hg, ho, e⟩ := this
  have hs := qsh h2 (qfq hg)
  unfold qph at hs
  rw [ho] at hs
  simp only at hs
  cases hρ : aget ρ i with
  | some a =>
    rw [hρ] at hs
    simp only at hs
    cases hga : aget hp a with
    | none => rw [hga] at hs; exact hs.elim
    | some g =>
      rw [hga] at hs
      simp only at hs
      obtain ⟨k1, k2⟩ := hs
      cases hgo : g.obj? with
      | none => rw [hgo] at k1; exact k1.elim
      | some o =>
        rw [hgo] at k1
        exact .inl ⟨a, o, rfl, by simp [mkS, hga, hgo], k1, by rw [e]; simpa [mkS, hga] using k2⟩
  | none =>
    rw [hρ] at hs
    simp only at hs
    cases o' with
    | box => exact hs.elim
    | mp => exact hs.elim
    | row t sz z l => obtain ⟨rfl, h0⟩ := hs; exact .inr ⟨rfl, t, sz, z, rfl, h0⟩
 ·have m1 := qfq hi
  have m2 := qfq hj
  clear h1 h2 h4 enf hi hj
  induction ρ with
  | nil => cases m1
  | cons p r ih =>
    obtain ⟨k, b⟩ := p
    simp only [List.map_cons, List.nodup_cons, List.mem_map, not_exists, not_and] at h3
    rcases List.mem_cons.1 m1 with e1 | k1 <;> rcases List.mem_cons.1 m2 with e2 | k2
    ·cases e1; cases e2; rfl
    ·cases e1; exact (h3.1 (j, a) k2 rfl).elim
    ·cases e2; exact (h3.1 (i, a) k1 rfl).elim
    ·exact ih h3.2 k1 k2
end Go.Ev
namespace Go.Ev
def resV (C : Cfg) (s : St) : ResultVar → Option V
 | .tmp t => s.sl t
 | .cell a t => match aggT C.P t, q0u C.P t, s.sl a with
   | some g, some n, some (.ptr id off) => (qda s id).bind fun c => ldV g n c off
   | _, _, _ => none
def qhs (C : Cfg) (s : St) : List ResultVar → Option (List V)
 | [] => some []
 | x :: r => match resV C s x, qhs C s r with
   | some v, some vs => some (v :: vs)
   | _, _ => none
def qpi (C : Cfg) (s : St) (mv : Nat → List (Nat × TypeId × Nat)) (rs : List ResultVar) : Option (O × List Nat × List (Option Nat)) :=
 match qhs C s rs with
 | none => none
 | some vs => match C.pins with
   | [] => match vs with
     | [v] => argO s (mv 0) v
     | vs => (qc1 s mv 0 vs).map fun (os, rd, tk) => (.tup os, rd, tk)
   | ps => (qc1 s mv 0 (vs ++ ps.map fun p => .ptr p 0)).map fun (os, rd, tk) => (.tup os, rd, tk)
def qfy (C : Cfg) (mv : Nat → List (Nat × TypeId × Nat)) (rs : List ResultVar) (r : O) (s : St) : Prop :=
 match qpi C s mv rs with
 | none => False
 | some (o, rd, tk) => (tk.filterMap id).Nodup ∧ ((tk.filterMap id).any fun i => rd.contains i) = false ∧ ole o r
def qm2 (C : Cfg) (mv : Nat → List (Nat × TypeId × Nat)) (rs : List ResultVar) (r : O) (e : Exit) (s : St) : Prop :=
 match e with
 | .normal | .ret => qfy C mv rs r s
 | _ => False
section
variable {C : Cfg} {E : Env} {bt : Nat → Option Nat} {s : St} {a : Act} {w : World}
theorem q3d (h : Rel C E bt s a w) {x : ResultVar} {v : V} (hv : resV C s x = some v) :
 ∃ u, ((match x with | .tmp t => pure (a.tmps.getD t undef) | .cell ad t => do loadVar t (← asAddr (a.tmps.getD ad undef))) : Go.Sem Value).run C.P w = .ok u w ∧ VR w (Xs E.X0 s.hp bt) bt (Nf s.hp) u v := by
 cases x with
 | tmp t => exact ⟨_, by simp, h.slots t v hv⟩
 | cell ad t =>
   simp only [resV] at hv
   split at hv
   ·rename_i g n id off hg hn hs
    simp only [Option.bind_eq_some_iff] at hv
    obtain ⟨c, hc, hv⟩ := hv
    obtain ⟨bk, hb, _, he⟩ := qet (h.slots ad _ hs)
    obtain ⟨t', hob⟩ := qh8 hc
    obtain ⟨bk', cs, h1, h2, h3, h4⟩ := h.objs id _ hob
    rw [hb] at h1; cases h1
    obtain ⟨r, hr, hvr⟩ := qh7 (X := Xs E.X0 s.hp bt) (bt := bt) (nf := Nf s.hp) hg hn bk off c off (fun j => cs.getD (off + j) undef) hv (fun j x hx => by
     have hlt := (List.getElem?_eq_some_iff.1 hx).1
     have hcs : cs[off + j]? = some (cs.getD (off + j) undef) := by
      have : off + j < cs.size := by omega
      simp [Array.getD, this]
     exact ⟨by rw [qea h2]; exact hcs, h4 _ _ _ hcs hx⟩)
    refine ⟨r, ?_, hvr⟩
    simp only [he, asAddr, Go.Sem.run_bind, Go.Sem.run_pure, Result.andThen_ok]
    exact hr
   ·cases hv
theorem qsi (h : Rel C E bt s a w) (f : ResultVar → Go.Sem Value) (hf : ∀ x, f x = (match x with | .tmp t => pure (a.tmps.getD t undef) | .cell ad t => do loadVar t (← asAddr (a.tmps.getD ad undef)))) :
 ∀ {l : List ResultVar} {vs : List V}, qhs C s l = some vs →
 ∃ us : List Value, (l.mapM f).run C.P w = .ok us w ∧ us.length = vs.length ∧ ∀ (j : Nat) (u : Value) (v : V), us[j]? = some u → vs[j]? = some v → VR w (Xs E.X0 s.hp bt) bt (Nf s.hp) u v
 | [], vs, hv => by
   cases hv
   exact ⟨[], by simp, rfl, fun j u v hj => by simp at hj⟩
 | x :: l, vs, hv => by
   simp only [qhs] at hv
   split at hv
   ·rename_i v vs' h1 h2
    cases hv
    obtain ⟨u, hu1, hu2⟩ := q3d h h1
    obtain ⟨us, g1, g2, g3⟩ := qsi h f hf h2
    refine ⟨u :: us, ?_, by simp [g2], fun j a b ha hb => ?_⟩
    ·rw [List.mapM_cons]
     rw [← hf] at hu1
     simp [hu1, g1]
    ·cases j with
     | zero => simp at ha hb; subst ha; subst hb; exact hu2
     | succ j => simp at ha hb; exact g3 j a b ha hb
   ·cases hv
theorem q6u (h : Rel C E bt s a w) {mv : Nat → List (Nat × TypeId × Nat)} {fn : Func} {r : O} (hx : qfy C mv fn.results.toList r s) (ps : List Value) (hpl : ps.length = C.pins.length)
 (hpp : ∀ (m p : Nat) (q : Value), C.pins[m]? = some p → ps[m]? = some q → ∃ bk, E.pin p = some bk ∧ q = .pointer (some ⟨bk, 0, none⟩)) :
 ∃ v u os', (results fn a.tmps).run C.P w = .ok v w ∧ (match ps with
   | [] => u = v
   | ps => ∃ us : List Value, u = .tuple (us ++ ps).toArray ∧ v = match us with | [x] => x | us => .tuple us.toArray) ∧ RO w (fun b => E.X0 b ∨ Blk os' b) u r os' ∧ qh9 os' ∧ (∀ b, Blk os' b → ¬ E.X0 b ∧ (E.Mv b ∨ E.w0.heap.size ≤ b)) := by
 unfold qfy at hx
 split at hx
 ·exact hx.elim
 rename_i o rd tk hex
 obtain ⟨hnd, hany, hle⟩ := hx
 unfold qpi at hex
 -- facts of the rows that go out
 have facts : (∀ i, some i ∈ tk → (s.hp i).isLive = true) → (∀ i ∈ rd, (s.hp i).obj?.isSome = true) →
  qo3 bt rd (fun b => E.X0 b ∨ Blk (tk.map (·.bind bt)) b) ∧ (∀ b, (E.X0 b ∨ Blk (tk.map (·.bind bt)) b) → Xs E.X0 s.hp bt b) ∧ qh9 (tk.map (·.bind bt)) ∧
  (∀ b, Blk (tk.map (·.bind bt)) b → ¬ E.X0 b ∧ (E.Mv b ∨ E.w0.heap.size ≤ b)) := by
  intro htk hrd
  have hblk : ∀ {b}, Blk (tk.map (·.bind bt)) b → ∃ i, some i ∈ tk ∧ bt i = some b := fun {b} hb => by
   unfold Blk at hb
   simp only [List.mem_map] at hb
   obtain ⟨x, hx, e⟩ := hb
   cases x with
   | none => cases e
   | some i => exact ⟨i, hx, e⟩
  refine ⟨fun b hb i hi he => ?_, fun b hb => ?_, fun i j b hi hj => ?_, fun b hb => ?_⟩
  ·rcases hb with hb | hb
   ·exact h.nx i b (hrd i hi) he hb
   ·obtain ⟨k, hk, hkb⟩ := hblk hb
    have := h.inj k i b (htk k hk) (hrd i hi) hkb he
    subst this
    have : ((tk.filterMap id).any fun i => rd.contains i) = true := by
     rw [List.any_eq_true]
     exact ⟨k, by simp [List.mem_filterMap, hk], by simpa using hi⟩
    rw [hany] at this; cases this
  ·rcases hb with hb | hb
   ·exact .inl hb
   ·obtain ⟨k, hk, hkb⟩ := hblk hb
    exact qb7 (htk k hk) hkb
  ·simp only [List.getElem?_map, Option.map_eq_some_iff] at hi hj
   obtain ⟨x, hx, e1⟩ := hi
   obtain ⟨y, hy, e2⟩ := hj
   cases x with
   | none => cases e1
   | some p =>
     cases y with
     | none => cases e2
     | some q =>
       have := h.inj p q b (htk p (List.mem_of_getElem? hx)) (qc5 (htk q (List.mem_of_getElem? hy))) e1 e2
       subst this
       exact qfk hnd hx hy
  ·obtain ⟨k, hk, hkb⟩ := hblk hb
   obtain ⟨o1, o2⟩ := h.own k b (htk k hk) hkb
   exact ⟨o2, o1.symm⟩
 have hres : ∀ {vs}, qhs C s fn.results.toList = some vs → ∃ us : List Value, (results fn a.tmps).run C.P w = .ok (if h : us.toArray.size = 1 then us.toArray[0] else .tuple us.toArray) w ∧ us.length = vs.length ∧
  ∀ (j : Nat) (u : Value) (v : V), us[j]? = some u → vs[j]? = some v → VR w (Xs E.X0 s.hp bt) bt (Nf s.hp) u v := by
  intro vs hvs
  obtain ⟨us, g1, g2, g3⟩ := qsi h (fun x => match x with | .tmp t => pure (a.tmps.getD t undef) | .cell ad t => do loadVar t (← asAddr (a.tmps.getD ad undef))) (fun x => rfl) hvs
  refine ⟨us, ?_, g2, g3⟩
  unfold results
  rw [← Array.toArray_toList (xs := fn.results), List.mapM_toArray]
  simp only [Go.Sem.run_bind, Go.Sem.run_map, Go.Sem.run_pure]
  exact (congrArg (fun z => Result.andThen (Result.andThen z _) _) g1).trans rfl
 split at hex
 ·cases hex
 rename_i vs0 hvs
 split at hex
 ·rename_i hpins
  have hps : ps = [] := List.eq_nil_of_length_eq_zero (by rw [hpl, hpins]; rfl)
  subst hps
  split at hex
  ·rename_i v
   obtain ⟨us, g1, g2, g3⟩ := hres hvs
   match us, g2 with
   | [u], _ =>
     have hv := g3 0 u v rfl rfl
     have ids : (∀ i, some i ∈ tk → (s.hp i).isLive = true) ∧ (∀ i ∈ rd, (s.hp i).obj?.isSome = true) := by
      obtain ⟨_, k2, k3⟩ := qq8 h (X' := fun _ => False) (fun _ hf => hf.elim) hv hex (fun _ hf => hf.elim)
      exact ⟨k2, k3⟩
     obtain ⟨f1, f2, f3, f4⟩ := facts ids.1 ids.2
     obtain ⟨k1, _, _⟩ := qq8 h f2 hv hex f1
     exact ⟨u, u, _, by simpa using g1, rfl, k1.le hle, f3, f4⟩
  ·rename_i vs hne
   obtain ⟨us, g1, g2, g3⟩ := hres hvs
   simp only [Option.map_eq_some_iff] at hex
   obtain ⟨⟨os, rd', tk'⟩, ha, e⟩ := hex
   simp only [Prod.mk.injEq] at e
   obtain ⟨rfl, rfl, rfl⟩ := e
   have ids := qlx ha
   obtain ⟨f1, f2, f3, f4⟩ := facts ids.1 ids.2
   obtain ⟨k1, oss, k2, k3, k4⟩ := qkw h mv f2 vs0 0 us os _ _ ha g2 g3 f1
   have hlen : ¬ us.toArray.size = 1 := by
    intro hl
    have hl : vs0.length = 1 := by rw [← g2]; simpa using hl
    match vs0, hl with
    | [v], _ => exact hne v rfl
   rw [dif_neg hlen] at g1
   refine ⟨_, _, _, g1, rfl, ?_, f3, f4⟩
   have ht := RO.tup us.toArray os oss (by simp [k1, g2]) (by omega) fun j v o q hj hx hq => k4 j v o q (by simpa using hj) hx hq
   rw [← k3] at ht
   exact RO.le ht hle
 ·rename_i pns hne
  obtain ⟨us, g1, g2, g3⟩ := hres hvs
  simp only [Option.map_eq_some_iff] at hex
  obtain ⟨⟨os, rd', tk'⟩, ha, e⟩ := hex
  simp only [Prod.mk.injEq] at e
  obtain ⟨rfl, rfl, rfl⟩ := e
  have ids := qlx ha
  obtain ⟨f1, f2, f3, f4⟩ := facts ids.1 ids.2
  have hne' : ps ≠ [] := fun e => by
   subst e
   exact hne (List.eq_nil_of_length_eq_zero hpl.symm)
  obtain ⟨k1, oss, k2, k3, k4⟩ := qkw h mv f2 (vs0 ++ C.pins.map fun p => V.ptr p 0) 0 (us ++ ps) os _ _ ha (by simp [g2, hpl]) (fun k v x hk hx => by
   by_cases hl : k < us.length
   ·rw [List.getElem?_append_left hl] at hk
    rw [List.getElem?_append_left (by omega)] at hx
    exact g3 k v x hk hx
   ·rw [List.getElem?_append_right (by omega)] at hk
    rw [List.getElem?_append_right (by omega), List.getElem?_map, Option.map_eq_some_iff] at hx
    obtain ⟨p, hp, rfl⟩ := hx
    rw [← g2] at hp
    obtain ⟨bk, q1, q2⟩ := hpp _ p v hp hk
    obtain ⟨_, q3, q4⟩ := h.pin p bk q1
    subst q2
    exact .ptr p 0 bk q4 q3) f1
  refine ⟨_, .tuple (us ++ ps).toArray, _, g1, ?_, ?_, f3, f4⟩
  ·cases ps with
   | nil => exact absurd rfl hne'
   | cons p ps =>
     refine ⟨us, rfl, ?_⟩
     match us with
     | [] => rfl
     | [x] => rfl
     | _ :: _ :: _ => simp
  ·have ht := RO.tup (us ++ ps).toArray os oss (by simp [k1, g2, hpl]) (by omega) fun j v o q hj hx hq => k4 j v o q (by simpa using hj) hx hq
   rw [← k3] at ht
   exact RO.le ht hle
theorem qsj {f : FuncId} {fn : Func} {c : Code} {args : List O} {r : O} (mv : Nat → List (Nat × TypeId × Nat)) (hf : C.P.funcs[f]? = some fn) (hb : fn.body = some c) (hN : fn.ntmps = C.N) (hn : args.length ≤ fn.ntmps) (hok : args.all qk0 = true) (hpins : C.pins = qbw 0 args)
 (h : AW C c (qka args) (qm2 C mv fn.results.toList r)) : Sem C.P f args r := by
 intro w vs X os hX hap hBX har hgi
 obtain ⟨pin, bt, hrel, hpp⟩ := q003 (C := C) hX hgi hap hBX har hok hpins hn hN
 have hpl : (qbj args vs.toList).length = C.pins.length := by rw [hpins]; exact (qja args vs.toList 0 (by simpa using har.n)).1.symm
 refine calls_of_wp hf hb (Go.wp_mono (h _ bt _ w hrel) fun e a' w' ⟨s', bt', hq, hr⟩ => ?_)
 have fin : qfy C mv fn.results.toList r s' → a'.defers = [] ∧ ∃ v, (results fn a'.tmps).run C.P w' = .ok v w' ∧ (fun e w' => ∃ v u os', e = Ending.returned v ∧ Ret args vs.toList v u ∧ RO w' (fun b => X b ∨ Blk os' b) u r os' ∧ qh9 os' ∧ (∀ b, Blk os' b → ¬ X b ∧ (Blk os b ∨ w.heap.size ≤ b)) ∧ Fr (Blk os) w w') (.returned v) w' := fun hx => by
  obtain ⟨v, u, os', g1, g0, g2, g3, g4⟩ := q6u hr hx (qbj args vs.toList) hpl hpp
  exact ⟨hr.df, v, g1, v, u, os', rfl, g0, g2, g3, g4, hr.fr⟩
 cases e with
 | normal => exact fin hq
 | ret => exact fin hq
 | _ => exact hq.elim
end
end Go.Ev
namespace Go.Ev
def adel {α : Type} (i : Nat) : List (Nat × α) → List (Nat × α)
 | [] => []
 | (j, y) :: r => if i = j then adel i r else (j, y) :: adel i r
theorem qgm {α : Type} (i k : Nat) : ∀ l : List (Nat × α), aget (adel i l) k = if k = i then none else aget l k
 | [] => by simp [adel, aget]
 | (j, y) :: r => by
   simp only [adel]
   by_cases e : i = j
   ·subst e
    rw [if_pos rfl, qgm i k r]
    by_cases e2 : k = i <;> simp [aget, e2]
   ·rw [if_neg e]
    simp only [aget]
    rw [qgm i k r]
    by_cases e2 : k = j
    ·subst e2; simp; intro h; exact absurd h.symm e
    ·simp [e2]
def putL (N : Nat) (sl : List (Nat × V)) (dst : Option Tmp) (v : Option V) : List (Nat × V) := match dst with
 | none => sl
 | some d => match v with
   | some x => if d < N then (d, x) :: sl else adel d sl
   | none => adel d sl
theorem quy {C : Cfg} {dst : Option Tmp} {d : List (Nat × HS)} {v : Option V} {rd : List Nat} {sl : List (Nat × V)} {hp : List (Nat × HS)} :
 Delta.app C dst ⟨d, v, rd⟩ (mkS sl hp) = mkS (putL C.N sl dst v) (d ++ hp) := by
 unfold Delta.app mkS
 congr 1
 ·funext i
  cases dst with
  | none => rfl
  | some d =>
    simp only [qfi, putL]
    cases v with
    | none =>
      simp only [ite_self, qgm]
    | some x =>
      simp only
      by_cases e : i = d
      ·subst e
       by_cases hl : i < C.N
       ·simp [hl, aget]
       ·simp [hl, qgm]
      ·by_cases hl : d < C.N
       ·simp [hl, aget, e]
       ·simp [hl, qgm, e]
 ·funext i
  induction d with
  | nil => rfl
  | cons p r ih =>
    obtain ⟨j, o⟩ := p
    simp only [q0e, List.cons_append, aget]
    split
    ·rfl
    ·exact ih
def qbm (p : Prop) : Option Res → Option Res
 | none => none
 | some r => some ⟨p ∧ r.ok, r.dl⟩
theorem qys {p : Prop} : qbm p none = none := rfl
theorem qyt {p ok : Prop} {d : Delta} : qbm p (some ⟨ok, d⟩) = some ⟨p ∧ ok, d⟩ := rfl
def q06 (g : Bool) (sl : List (Nat × V)) : List Operand → Option (Prop × List (Nat × V))
 | [] => some (True, [])
 | .tmp t :: r => match aget sl t with
   | none => none
   | some (.opt g' v) => (match v with
     | .opt _ _ => none
     | v => match q06 g sl r with
       | none => none
       | some (p, m) => some ((g = true → g' = true) ∧ p, (t, v) :: m))
   | some v => match q06 g sl r with
     | none => none
     | some (p, m) => some (p, (t, v) :: m)
 | _ :: r => q06 g sl r
def eU (C : Cfg) (q : Bool) (g : Bool) (o : Oper) (sl : List (Nat × V)) (hp : List (Nat × HS)) : Option Res :=
 match qlp o with
 | true => aop C q o (mkS sl hp)
 | false => match q06 g sl o.op.operands.toList with
   | none => none
   | some (p, m) => qbm p (aop C q o (mkS m hp))
def qfr (q g : Bool) : Option Res → Option Res
 | none => match q with | true => none | false => qcc g none
 | r => qcc g r
def e1 (C : Cfg) (q : Bool) (ops : Array Oper) (o : Oper) (sl : List (Nat × V)) (hp : List (Nat × HS)) : Option Res :=
 match o.guard with
 | none => eU C q true o sl hp
 | some (j, want) => match qey want ((qbx ops j).bind (aget sl)) with
   | some g => qfr q g (eU C q g o sl hp)
   | none => none
def erun (C : Cfg) (ops : Array Oper) (K : St → Prop) : List Oper → List (Nat × V) → List (Nat × HS) → Prop
 | [], sl, hp => K (mkS sl hp)
 | o :: l, sl, hp => match e1 C false ops o sl hp with
   | none => False
   | some r => r.ok ∧ erun C ops K l (putL C.N sl o.dst r.dl.v) (r.dl.hp ++ hp)
theorem q004 {C : Cfg} {q : Bool} {o : Oper} {s s' : St} {r : Res} (h : aop C q o s = some r) (ho : qd3 s s' o.op.operands.toList) (hs : s'.hp = s.hp) : aop C q o s' = some r := by
 cases q with
 | true => exact qkz h ho fun id _ => by rw [hs]
 | false =>
   by_cases hc : ∃ c x, o.op = .call c ∧ c.callee = .value x
   ·obtain ⟨⟨callee, args, ts⟩, x, e, e2⟩ := hc
    simp only at e2
    subst e2
    have hv : s'.val x = s.val x := qg6 fun t et => ho t (by simp [e, Op.operands, Call.operands, et])
    have hva : vals s' args.toList = vals s args.toList := qhx fun t ht => ho t (by
     simp [e, Op.operands, Call.operands] at ht ⊢
     simp [ht])
    have hcall : ∀ f vs, qbt C false s' o.dst f vs = qbt C false s o.dst f vs := fun f vs => by
     have ha : ∀ vs, qc1 s' (C.mv f) 0 vs = qc1 s (C.mv f) 0 vs := fun vs => by
      cases h1 : qc1 s (C.mv f) 0 vs with
      | some x => exact qic (os := x.1) (rd := x.2.1) (tk := x.2.2) h1 (fun id _ => by rw [hs]) (fun id _ => by rw [hs])
      | none =>
        cases h2 : qc1 s' (C.mv f) 0 vs with
        | none => rfl
        | some x =>
          have := qic (s := s') (s' := s) (os := x.1) (rd := x.2.1) (tk := x.2.2) h2 (fun id _ => by rw [hs]) (fun id _ => by rw [hs])
          rw [h1] at this; cases this
     have hl : ∀ id, qb5 s' id = qb5 s id := fun id => by unfold qb5; rw [hs]
     unfold qbt qd5 qcw
     simp only [ha, hl, hs, q0t]
    unfold aop at h ⊢
    rw [e] at h ⊢
    simp only [hva, hv, hcall] at h ⊢
    exact h
   ·have e : ∀ s, aop C false o s = aop C true o s := fun s => by
     unfold aop
     split <;> rfl
    rw [e] at h ⊢
    exact qkz h ho fun id _ => by rw [hs]
def V.isOpt : V → Bool
 | .opt _ _ => true
 | _ => false
def UV (sl : List (Nat × V)) (t : Nat) (v : V) : Prop := v.isOpt = false ∧ (aget sl t = some v ∨ ∃ g, aget sl t = some (.opt g v))
theorem UV.one {sl : List (Nat × V)} {t : Nat} {v u : V} (h : UV sl t v) (k : UV sl t u) : u = v := by
 obtain ⟨h0, h1⟩ := h
 obtain ⟨k0, k1⟩ := k
 rcases h1 with h1 | ⟨g, h1⟩ <;> rcases k1 with k1 | ⟨g', k1⟩ <;> rw [h1] at k1 <;> cases k1
 ·rfl
 ·cases h0
 ·cases k0
 ·rfl
theorem qdv {g : Bool} {t : Nat} {v : V} (hv : v.isOpt = false) : ∀ {l : List Operand} {s : St}, s.sl t = some v → (qbp g s l).2.sl t = some v
 | [], s, h => h
 | .tmp k :: r, s, h => by
   unfold qbp
   split
   ·rename_i g' u hs
    refine qdv hv (l := r) ?_
    have : t ≠ k := fun e => by subst e; rw [h] at hs; cases hs; cases hv
    simpa [this] using h
   ·exact qdv hv h
 | .const _ :: r, s, h => qdv hv (l := r) h
 | .global _ :: r, s, h => qdv hv (l := r) h
 | .func _ :: r, s, h => qdv hv (l := r) h
theorem qg8 {g : Bool} : ∀ {l : List Operand} {sl : List (Nat × V)} {p : Prop} {m : List (Nat × V)}, q06 g sl l = some (p, m) →
 (∀ t, .tmp t ∈ l → t ∈ m.map (·.1)) ∧ (∀ q ∈ m, UV sl q.1 q.2) ∧ ∀ {s : St}, (∀ t, s.sl t = aget sl t ∨ ∃ v, UV sl t v ∧ s.sl t = some v) →
   (p → (qbp g s l).1) ∧ ∀ t, .tmp t ∈ l → ∃ v, UV sl t v ∧ (qbp g s l).2.sl t = some v
 | [], sl, p, m, h => by
   cases h
   exact ⟨by simp, by simp, fun _ => ⟨fun _ => trivial, by simp⟩⟩
 | .tmp k :: r, sl, p, m, h => by
   unfold q06 at h
   split at h
   ·cases h
   ·rename_i g' v hk
    split at h
    ·cases h
    ·rename_i hno
     split at h
     ·cases h
     ·rename_i p' m' hr
      cases h
      have hv : v.isOpt = false := by
       cases v <;> first | rfl | exact absurd rfl (hno _ _)
      have uv : UV sl k v := ⟨hv, .inr ⟨g', hk⟩⟩
      obtain ⟨i1, i2, i3⟩ := qg8 hr
      refine ⟨fun t ht => ?_, fun q hq => ?_, fun {s} hs => ?_⟩
      ·rcases List.mem_cons.1 ht with e | ht
       ·cases e; simp
       ·simp [i1 t ht]
      ·rcases List.mem_cons.1 hq with rfl | hq
       ·exact uv
       ·exact i2 q hq
      ·unfold qbp
       split
       ·rename_i g2 v2 hs2
        have e : g2 = g' ∧ v2 = v := by
         rcases hs k with e | ⟨u, hu, e⟩
         ·rw [hk, hs2] at e; cases e; exact ⟨rfl, rfl⟩
         ·rw [hs2] at e; cases e; cases hu.1
        obtain ⟨rfl, rfl⟩ := e
        obtain ⟨j1, j2⟩ := i3 (s := ⟨fun i => if i = k then some v2 else s.sl i, s.hp⟩) (fun t => by
         by_cases e : t = k
         ·subst e; exact .inr ⟨v2, uv, by simp⟩
         ·simpa [e] using hs t)
        refine ⟨fun hp => ⟨hp.1, j1 hp.2⟩, fun t ht => ?_⟩
        rcases List.mem_cons.1 ht with e | ht
        ·cases e
         exact ⟨v2, uv, qdv hv (by simp)⟩
        ·exact j2 t ht
       ·rename_i hns
        have e : s.sl k = some v := by
         rcases hs k with e | ⟨u, hu, e⟩
         ·rw [hk] at e; exact absurd e (hns _ _)
         ·rw [e, UV.one uv hu]
        obtain ⟨j1, j2⟩ := i3 hs
        refine ⟨fun hp => j1 hp.2, fun t ht => ?_⟩
        rcases List.mem_cons.1 ht with e' | ht
        ·cases e'
         exact ⟨v, uv, qdv hv e⟩
        ·exact j2 t ht
   ·rename_i v hno hk
    split at h
    ·cases h
    ·rename_i p' m' hr
     cases h
     have hv : v.isOpt = false := by
      cases v <;> first | rfl | exact absurd rfl (hno _ _)
     have uv : UV sl k v := ⟨hv, .inl hk⟩
     obtain ⟨i1, i2, i3⟩ := qg8 hr
     refine ⟨fun t ht => ?_, fun q hq => ?_, fun {s} hs => ?_⟩
     ·rcases List.mem_cons.1 ht with e | ht
      ·cases e; simp
      ·simp [i1 t ht]
     ·rcases List.mem_cons.1 hq with rfl | hq
      ·exact uv
      ·exact i2 q hq
     ·have e : s.sl k = some v := by
       rcases hs k with e | ⟨u, hu, e⟩
       ·rw [e, hk]
       ·rw [e, UV.one uv hu]
      unfold qbp
      split
      ·rename_i g2 v2 hs2
       rw [e] at hs2; cases hs2; cases hv
      ·obtain ⟨j1, j2⟩ := i3 hs
       refine ⟨j1, fun t ht => ?_⟩
       rcases List.mem_cons.1 ht with e' | ht
       ·cases e'
        exact ⟨v, uv, qdv hv e⟩
       ·exact j2 t ht
 | .const _ :: r, sl, p, m, h => by
   obtain ⟨i1, i2, i3⟩ := qg8 (l := r) h
   exact ⟨fun t ht => i1 t (by simpa using ht), i2, fun {s} hs => ⟨(i3 hs).1, fun t ht => (i3 hs).2 t (by simpa using ht)⟩⟩
 | .global _ :: r, sl, p, m, h => by
   obtain ⟨i1, i2, i3⟩ := qg8 (l := r) h
   exact ⟨fun t ht => i1 t (by simpa using ht), i2, fun {s} hs => ⟨(i3 hs).1, fun t ht => (i3 hs).2 t (by simpa using ht)⟩⟩
 | .func _ :: r, sl, p, m, h => by
   obtain ⟨i1, i2, i3⟩ := qg8 (l := r) h
   exact ⟨fun t ht => i1 t (by simpa using ht), i2, fun {s} hs => ⟨(i3 hs).1, fun t ht => (i3 hs).2 t (by simpa using ht)⟩⟩
theorem qxm {C : Cfg} {q g : Bool} {o : Oper} {sl : List (Nat × V)} {hp : List (Nat × HS)} {r : Res} (h : eU C q g o sl hp = some r) :
 ∃ r', aopU C q g o (mkS sl hp) = some r' ∧ (r.ok → r'.ok) ∧ r'.dl = r.dl := by
 unfold eU at h
 unfold aopU
 split at h
 ·rename_i hpk
  rw [if_pos hpk]
  exact ⟨r, h, id, rfl⟩
 ·rename_i hpk
  rw [if_neg (by simp [hpk])]
  split at h
  ·cases h
  ·rename_i p m hl
   cases ha : aop C q o (mkS m hp) with
   | none => rw [ha] at h; cases h
   | some r0 =>
     rw [ha] at h
     simp only [qbm, Option.some.injEq] at h
     subst h
     obtain ⟨i1, i2, i3⟩ := qg8 hl
     obtain ⟨j1, j2⟩ := i3 (s := mkS sl hp) (fun t => .inl rfl)
     have u2 := qgh g o.op.operands.toList (mkS sl hp)
     have := q004 ha (s' := (qbp g (mkS sl hp) o.op.operands.toList).2) (fun t ht => by
      obtain ⟨v, hv, e⟩ := j2 t ht
      obtain ⟨u, hu⟩ := qsd (i1 t ht)
      rw [e]
      show some v = aget m t
      rw [hu]
      exact congrArg some (UV.one (i2 (t, u) (qfq hu)) hv)) (by rw [u2]; rfl)
     rw [this]
     exact ⟨_, rfl, fun hh => ⟨j1 hh.1, hh.2⟩, rfl⟩
theorem qre {C : Cfg} {ops : Array Oper} {o : Oper} {q : Bool} {sl : List (Nat × V)} {hp : List (Nat × HS)} {r : Res} (h : e1 C q ops o sl hp = some r) :
 ∃ r', aop1 C q ops o (mkS sl hp) = some r' ∧ (r.ok → r'.ok) ∧ (r'.dl = r.dl ∨ (q = false ∧ r.dl = ⟨[], none, []⟩ ∧ ∃ v rd, r'.dl = ⟨[], some (.opt false v), rd⟩)) := by
 unfold e1 at h
 unfold aop1
 split at h
 ·rename_i hg
  simp only [hg]
  obtain ⟨r', h1, h2, h3⟩ := qxm h
  exact ⟨r', h1, h2, .inl h3⟩
 ·rename_i j want hg
  simp only [hg]
  split at h
  ·rename_i g hx
   have hx' : qey want ((qbx ops j).bind (mkS sl hp).sl) = some g := hx
   simp only [hx']
   cases he : eU C q g o sl hp with
   | some r0 =>
     obtain ⟨r', h1, h2, h3⟩ := qxm he
     rw [he] at h
     rw [h1]
     simp only [qfr] at h
     obtain ⟨ok, dl⟩ := r0
     obtain ⟨ok', dl'⟩ := r'
     simp only at h2 h3
     subst h3
     unfold qcc at h ⊢
     split at h
     ·rename_i a b rd e
      cases e
      cases h
      exact ⟨_, rfl, fun hh hg => h2 (hh hg), .inl rfl⟩
     ·rename_i hne
      have hne' : ∀ (ok : Prop) (v : V) (rd : List Nat), dl' ≠ ⟨[], some v, rd⟩ := fun ok v rd e => by
       subst e; exact hne _ _ _ rfl
      split
      ·rename_i a b rd e
       cases e
       exact absurd rfl (hne' True _ _)
      ·cases g
       ·cases h; exact ⟨_, rfl, id, .inl rfl⟩
       ·cases h; exact ⟨_, rfl, h2, .inl rfl⟩
   | none =>
     rw [he] at h
     cases q with
     | true => cases h
     | false =>
     cases g with
     | true => simp [qfr, qcc] at h
     | false =>
       simp only [qfr, qcc, Option.some.injEq] at h
       subst h
       unfold qcc
       split
       ·exact ⟨_, rfl, fun _ e => (by cases e), .inr ⟨rfl, rfl, _, _, rfl⟩⟩
       ·exact ⟨_, rfl, id, .inl rfl⟩
  ·cases h
theorem qxn {C : Cfg} {E : Env} (hC : COk C) {ops : Array Oper} {K : St → Prop} {Q : Exit → Act → World → Prop} (hQ : ∀ s', K s' → ∀ bt' a' w', Rel C E bt' s' a' w' → Q .normal a' w') :
 ∀ (l : List Oper) {sl : List (Nat × V)} {hp : List (Nat × HS)} {bt : Nat → Option Nat} {a : Act} {w : World}, Rel C E bt (mkS sl hp) a w → erun C ops K l sl hp → wpList C.P ops Q l a w
 | [], sl, hp, bt, a, w, h, hr => hQ _ hr bt a w h
 | o :: l, sl, hp, bt, a, w, h, hr => by
   unfold erun at hr
   split at hr
   ·exact hr.elim
   ·rename_i r he
    obtain ⟨r', h1, h2, h3⟩ := qre he
    unfold wpList
    refine qmx hC.t hC.e h h1 (h2 hr.1) _ Q fun bt' a' w' hh => ?_
    have hh2 : Rel C E bt' (r.dl.app C o.dst (mkS sl hp)) a' w' := by
     rcases h3 with h3 | ⟨_, h3, v, rd, h4⟩
     ·rw [← h3]; exact hh
     ·rw [h4] at hh
      rw [h3]
      exact hh.wk (Wk.none _ rfl)
    obtain ⟨ok, ⟨d, v, rd⟩⟩ := r
    rw [quy] at hh2
    exact qxn hC hQ l hh2 hr.2
theorem AW.run {C : Cfg} {sl : List (Nat × V)} {hp : List (Nat × HS)} {Q : Exit → St → Prop} (hC : COk C) {id : Nat} {l : List Oper} (h : erun C l.toArray (Q .normal) l sl hp) : AW C (.region id l.toArray false) (mkS sl hp) Q :=
 fun E _ _ _ hr => wp_region_list (by
  have := qxn (E := E) hC (Q := fun e a' w' => ∃ s' bt', Q e s' ∧ Rel C E bt' s' a' w') (fun s' hs bt' a' w' hh => ⟨s', bt', hs, hh⟩) l hr h
  simpa using this)
def qht (C : Cfg) (ops : Array Oper) : List Oper → List (Nat × V) → List (Nat × HS) → List (List Nat × List Nat) → Prop → Option (List (List Nat × List Nat) × Prop × List (Nat × V) × List (Nat × HS))
 | [], sl, hp, acc, p => some (acc.reverse, p, sl, hp)
 | o :: l, sl, hp, acc, p => match e1 C true ops o sl hp with
   | none => none
   | some r => qht C ops l (putL C.N sl o.dst r.dl.v) (r.dl.hp ++ hp) ((r.dl.rd, r.dl.hp.map (·.1)) :: acc) (p ∧ r.ok)
theorem qyu (r : Res) (rs : List Res) : qi9 (r :: rs) = (r.dl.rd, r.dl.hp.map (·.1)) :: qi9 rs := rfl
theorem qsk {C : Cfg} {ops : Array Oper} : ∀ {l : List Oper} {sl sl' : List (Nat × V)} {hp hp' : List (Nat × HS)} {acc f : List (List Nat × List Nat)} {p p' : Prop}, qht C ops l sl hp acc p = some (f, p', sl', hp') →
 (p' → p) ∧ ∃ qs, f = acc.reverse ++ qi9 qs ∧ drun C ops l (mkS sl hp) = some (qs, mkS sl' hp') ∧ (p' → oks qs)
 | [], sl, sl', hp, hp', acc, f, p, p', h => by
   cases h
   exact ⟨id, [], by simp [qi9], rfl, fun _ => trivial⟩
 | o :: l, sl, sl', hp, hp', acc, f, p, p', h => by
   unfold qht at h
   split at h
   ·cases h
   ·rename_i r he
    obtain ⟨r', h1, h2, h3⟩ := qre he
    obtain ⟨e0, qs, e, k1, k2⟩ := qsk h
    rcases h3 with h3 | ⟨h3, _⟩
    ·refine ⟨fun hp => (e0 hp).1, r' :: qs, by rw [qyu, h3, e]; simp, ?_, fun ho => ⟨h2 (e0 ho).2, k2 ho⟩⟩
     unfold drun
     rw [h1]
     simp only
     obtain ⟨ok, ⟨d, v, rd⟩⟩ := r
     rw [h3, quy, k1]
    ·cases h3
def qjd (C : Cfg) (K : St → Prop) (ops : Array Oper) (l : List Oper) (sl : List (Nat × V)) (hp : List (Nat × HS)) : Prop :=
 match qht C ops l sl hp [] True with
 | none => False
 | some (f, p, sl', hp') => qe7 (qgk ops) f = true ∧ p ∧ K (mkS sl' hp')
theorem AW.drawL {C : Cfg} {sl : List (Nat × V)} {hp : List (Nat × HS)} {Q : Exit → St → Prop} (hC : COk C) {id : Nat} {l : List Oper} (hs : qj9 l.toArray = true) (h : qjd C (Q .normal) l.toArray l sl hp) :
 AW C (.region id l.toArray true) (mkS sl hp) Q := by
 unfold qjd at h
 split at h
 ·exact h.elim
 ·rename_i f p sl' hp' he
  obtain ⟨e0, qs, e, k1, k2⟩ := qsk he
  simp only [List.reverse_nil, List.nil_append] at e
  subst e
  refine AW.draw hC (p := oks qs) (s' := mkS sl' hp') ?_ (k2 h.2.1) h.2.2
  unfold qtu
  rw [hs]
  simp only [k1]
  rw [h.1]
end Go.Ev
namespace Go.Ev
section
variable {C : Cfg} {q g : Bool} {dst : Option Tmp} {ty : TypeId} {pos : String} {aft : Array Edge} {gd : Option (Nat × Bool)} {ops : Array Oper} {sl m : List (Nat × V)} {hp : List (Nat × HS)}
 {x y z c : Operand} {t t2 t3 : TypeId} {n i f : Nat} {r : List Operand} {K : St → Prop} {l : List Oper}
theorem q3e : erun C ops K [] sl hp = K (mkS sl hp) := rfl
theorem q005 {o : Oper} : erun C ops K (o :: l) sl hp = (match e1 C false ops o sl hp with
 | none => False
 | some r => r.ok ∧ erun C ops K l (putL C.N sl o.dst r.dl.v) (r.dl.hp ++ hp)) := rfl
theorem q006 {acc : List (List Nat × List Nat)} {p : Prop} : qht C ops [] sl hp acc p = some (acc.reverse, p, sl, hp) := rfl
theorem qyv {o : Oper} {acc : List (List Nat × List Nat)} {p : Prop} : qht C ops (o :: l) sl hp acc p = (match e1 C true ops o sl hp with
 | none => none
 | some r => qht C ops l (putL C.N sl o.dst r.dl.v) (r.dl.hp ++ hp) ((r.dl.rd, r.dl.hp.map (·.1)) :: acc) (p ∧ r.ok)) := rfl
theorem q3f {l2 : List Oper} : qjd C K ops l2 sl hp = (match qht C ops l2 sl hp [] True with
 | none => False
 | some (f, p, sl', hp') => qe7 (qgk ops) f = true ∧ p ∧ K (mkS sl' hp')) := rfl
theorem e1_n {op : Op} : e1 C q ops ⟨dst, op, ty, pos, aft, none⟩ sl hp = eU C q true ⟨dst, op, ty, pos, aft, none⟩ sl hp := rfl
theorem e1_g {op : Op} {j : Nat} {want : Bool} : e1 C q ops ⟨dst, op, ty, pos, aft, some (j, want)⟩ sl hp = (match qey want ((qbx ops j).bind (aget sl)) with
 | some g => qfr q g (eU C q g ⟨dst, op, ty, pos, aft, some (j, want)⟩ sl hp)
 | none => none) := rfl
theorem quz {j : Nat} : qbx l.toArray j = (l[j]?).bind (·.dst) := by simp [qbx]
theorem q007 : q06 g sl [] = some (True, []) := rfl
theorem qw6 {v : Value} : q06 g sl (.const v :: r) = q06 g sl r := rfl
theorem qyw {v : FuncId} : q06 g sl (.func v :: r) = q06 g sl r := rfl
theorem q008 {k : Nat} : q06 g sl (.tmp k :: r) = (match aget sl k with
 | none => none
 | some (.opt g' v) => (match v with
   | .opt _ _ => none
   | v => match q06 g sl r with
     | none => none
     | some (p, m) => some ((g = true → g' = true) ∧ p, (k, v) :: m))
 | some v => match q06 g sl r with
   | none => none
   | some (p, m) => some (p, (k, v) :: m)) := rfl
theorem q6v {k : Nat} : (mkS sl hp).val (.tmp k) = aget sl k := rfl
theorem q009 {c : Value} : (mkS sl hp).val (.const c) = (cval c).map .d := rfl
theorem q3g {f : FuncId} : (mkS sl hp).val (.func f) = some (.d (.fn f [])) := rfl
theorem q1a : qda (mkS sl hp) i = (match aget hp i with | some (.live (.box _ c)) => some c | some (.fz (.box _ c)) => some c | _ => none) := by
 unfold qda mkS
 simp only
 cases aget hp i with
 | none => rfl
 | some h => cases h <;> (try rfl) <;> rename_i o <;> cases o <;> rfl
theorem q1b : qbk (mkS sl hp) i = (match aget hp i with | some (.live (.row t z b l)) => some (t, z, b, l) | some (.fz (.row t z b l)) => some (t, z, b, l) | _ => none) := by
 unfold qbk mkS
 simp only
 cases aget hp i with
 | none => rfl
 | some h => cases h <;> (try rfl) <;> rename_i o <;> cases o <;> rfl
theorem qyx : qb5 (mkS sl hp) i = (match aget hp i with | some (.live (.row t z b l)) => some (t, z, b, l) | _ => none) := by
 unfold qb5 mkS
 simp only
 cases aget hp i with
 | none => rfl
 | some h => cases h <;> (try rfl) <;> rename_i o <;> cases o <;> rfl
theorem qbbc : (mkS sl hp).hp i = (match aget hp i with | some h => h | none => .free) := by
 unfold mkS
 simp only
 cases aget hp i <;> rfl
theorem q1c : eU C q g ⟨dst, .move x, ty, pos, aft, none⟩ sl hp = ((mkS sl hp).val x).bind q01 := rfl
theorem qw7 : eU C q g ⟨dst, .assign x, ty, pos, aft, none⟩ sl hp = ((mkS sl hp).val x).bind q01 := rfl
theorem q6w {gd : Nat × Bool} : eU C q g ⟨dst, .move x, ty, pos, aft, some gd⟩ sl hp = (match q06 g sl [x] with | none => none | some (p, m) => qbm p (((mkS m hp).val x).bind q01)) := rfl
theorem q1d {gd : Nat × Bool} : eU C q g ⟨dst, .assign x, ty, pos, aft, some gd⟩ sl hp = (match q06 g sl [x] with | none => none | some (p, m) => qbm p (((mkS m hp).val x).bind q01)) := rfl
theorem q6x : eU C q g ⟨dst, .pick c x y, ty, pos, aft, gd⟩ sl hp = (match ((mkS sl hp).val c).bind optB with
 | none => none
 | some (g0, b) => match ((mkS sl hp).val x).bind optB, ((mkS sl hp).val y).bind optB with
   | some (g1, p), some (g2, q) => qb2 (g0 = true ∧ (b = true → g1 = true) ∧ (b = false → g2 = true)) (.d (.b (bif b then p else q)))
   | va, vb => match b with
     | true => va.bind fun p => qb2 (g0 = true ∧ p.1 = true) (.d (.b p.2))
     | false => vb.bind fun p => qb2 (g0 = true ∧ p.1 = true) (.d (.b p.2))) := rfl
theorem q3h : eU C q g ⟨dst, .alloc t, ty, pos, aft, gd⟩ sl hp = (match qbb C.P t with
 | some z => qbm True (newObj (mkS [] hp) dst True (.box t (z.map .d)) (.ptr (nm dst 0) 0))
 | none => none) := by
 show qbm True (match qbb C.P t with | some z => newObj (mkS [] hp) dst True (.box t (z.map .d)) (.ptr (nm dst 0) 0) | none => none) = _
 cases qbb C.P t <;> rfl
theorem q9d : eU C q g ⟨dst, .box t x, ty, pos, aft, gd⟩ sl hp = (match q06 g sl [x] with | none => none | some (p, m) => qbm p (match (mkS m hp).val x with
 | some v => v.cells.bind fun c => newObj (mkS m hp) dst True (.box t c) (.ptr (nm dst 0) 0)
 | none => none)) := rfl
theorem q6y : eU C q g ⟨dst, .load t x, ty, pos, aft, gd⟩ sl hp = (match q06 g sl [x] with | none => none | some (p, m) => qbm p (match aggT C.P t, q0u C.P t, (mkS m hp).val x with
 | some g, some n, some p => loadAt (zD C.P) (mkS m hp) g n p
 | _, _, _ => none)) := rfl
theorem q3i : eU C q g ⟨dst, .store t x y, ty, pos, aft, gd⟩ sl hp = (match q06 g sl [x, y] with | none => none | some (p, m) => qbm p (match q0u C.P t, (mkS m hp).val x, (mkS m hp).val y with
 | some n, some p, some v => storeAt (zD C.P) (mkS m hp) n p v
 | _, _, _ => none)) := rfl
theorem qw8 : eU C q g ⟨dst, .nilCheck x, ty, pos, aft, gd⟩ sl hp = (match q06 g sl [x] with | none => none | some (p, m) => qbm p (match (mkS m hp).val x with
 | some v => match v with
   | .ptr _ _ | .rp _ _ _ _ | .d (.cp _) => q01 v
   | _ => none
 | none => none)) := rfl
theorem q3j {op : BinOp} : eU C q g ⟨dst, .binOp op t x y t2, ty, pos, aft, gd⟩ sl hp = (match q06 g sl [x, y] with | none => none | some (p, m) => qbm p (match (mkS m hp).val x, (mkS m hp).val y with
 | some a, some b => qf2 C (mkS m hp) op t a b
 | _, _ => none)) := rfl
theorem q6z {op : UnOp} : eU C q g ⟨dst, .unOp op t x, ty, pos, aft, gd⟩ sl hp = (match q06 g sl [x] with | none => none | some (p, m) => qbm p (match (mkS m hp).val x with
 | some (.d a) => (unD op a).bind fun d => q01 (.d d)
 | some (.ub a) => if op = .not then q01 (.nb a) else none
 | some (.nb a) => if op = .not then q01 (.ub a) else none
 | _ => none)) := rfl
theorem qu0 : eU C q g ⟨dst, .fieldAddr t x f, ty, pos, aft, gd⟩ sl hp = (match q06 g sl [x] with | none => none | some (p, m) => qbm p (match offT C.P t f, (mkS m hp).val x with
 | some (off, _), some (.ptr id o) => q01 (.ptr id (o + off))
 | some (off, _), some (.rp id sz j o) => q01 (.rp id sz j (o + off))
 | some (off, _), some (.d (.cp l)) => q01 (.d (.cp (l.drop off)))
 | _, _ => none)) := rfl
theorem q3k : eU C q g ⟨dst, .field t x f, ty, pos, aft, gd⟩ sl hp = (match q06 g sl [x] with | none => none | some (p, m) => qbm p (match offT C.P t f, (qcv C.P t f).bind (aggT C.P), (mkS m hp).val x with
 | some (off, n), some g, some (.d (.agg l)) => (ldD g n l off).bind q01
 | some (off, n), some g, some (.agg l) => (ldV g n l off).bind q01
 | _, _, _ => none)) := rfl
theorem qu1 : eU C q g ⟨dst, .indexAddr t x y, ty, pos, aft, gd⟩ sl hp = (match q06 g sl [x, y] with | none => none | some (p, m) => qbm p (match qcj C.P t, (mkS m hp).val x, (mkS m hp).val y with
 | some e, some (.d (.sl sz l)), some (.d (.i _ i)) => if q0u C.P e = some sz then qb2 (0 ≤ i ∧ i < (l.length : Int)) (.d (.cp (l.getD i.toNat (zD C.P e)).cells)) else none
 | some e, some (.row id sz off n), some (.d (.i _ i)) => if q0u C.P e = some sz then qb2 (0 ≤ i ∧ i < (n : Int)) (.rp id sz (off + i.toNat) 0) else none
 | _, _, _ => none)) := rfl
theorem q3l : eU C q g ⟨dst, .index t x y, ty, pos, aft, gd⟩ sl hp = (match q06 g sl [x, y] with | none => none | some (p, m) => qbm p (match C.P.underlying t, (mkS m hp).val x, (mkS m hp).val y with
 | some .string, some (.d (.s b)), some (.d (.i _ i)) => qb2 (0 ≤ i ∧ i < (b.size : Int)) (.d (.i .u8 (b.data.toList.getD i.toNat 0).toNat))
 | _, _, _ => none)) := rfl
theorem q3m {parts : Array (Nat × Operand)} : eU C q g ⟨dst, .build t parts, ty, pos, aft, gd⟩ sl hp = (match q06 g sl (parts.toList.map (·.2)) with | none => none | some (p, m) => qbm p (match qbb C.P t, qfa C.P t with
 | some z, some pl => (qe5 (mkS m hp) pl (z.map .d) parts.toList).bind fun c => q01 (mkAgg c)
 | _, _ => none)) := rfl
theorem qts {parts : Array (Nat × Operand)} : eU C q g ⟨dst, .buildSlice t n parts, ty, pos, aft, gd⟩ sl hp = (match q06 g sl (parts.toList.map (·.2)) with | none => none | some (p, m) => qbm p (match qcj C.P t with
 | some e => match q0u C.P e, qbb C.P e, vals (mkS m hp) (parts.toList.map (·.2)) with
   | some (sz + 1), some z, some vs => match toDs (toD3 (mkS m hp)) vs with
     | some (ds, []) => if parts.toList.map (·.1) = List.range n ∧ n * (sz + 1) ≤ 16777216 ∧ z.length = sz + 1 then
        newObj (mkS m hp) dst (∀ d ∈ ds, d.fits (sz + 1)) (.row e (sz + 1) false ds) (.row (nm dst 0) (sz + 1) 0 n) else none
     | some (ds, k :: is) => if parts.toList.map (·.1) = List.range n ∧ n * (sz + 1) ≤ 16777216 ∧ z.length = sz + 1 then
        (newObj (mkS m hp) dst (∀ d ∈ ds, d.fits (sz + 1)) (.row e (sz + 1) false ds) (.row (nm dst 0) (sz + 1) 0 n)).map fun r => ⟨r.ok, r.dl.hp ++ q0t (mkS m hp) (k :: is) [], r.dl.v, k :: is⟩ else none
     | _ => none
   | _, _, _ => none
 | none => none)) := rfl
theorem q3n {lo hi mx : Option Operand} : eU C q g ⟨dst, .slice t x lo hi mx, ty, pos, aft, gd⟩ sl hp = (match q06 g sl ([x] ++ lo.toList ++ hi.toList ++ mx.toList) with | none => none | some (p, m) => qbm p (match C.P.underlying t, (mkS m hp).val x with
 | some .string, some (.d (.s b)) => qd7 (mkS m hp) b lo hi mx
 | some (.slice e), some v => match q0u C.P e with
   | some n => qeo (mkS m hp) n v lo hi mx
   | none => none
 | _, _ => none)) := by
 cases lo <;> cases hi <;> cases mx <;> rfl
theorem qyy {t1 t2 : TypeId} : eU C q g ⟨dst, .convert t1 t2 x, ty, pos, aft, gd⟩ sl hp = (match q06 g sl [x] with | none => none | some (p, m) => qbm p (match (mkS m hp).val x with
 | some v => qfb C (mkS m hp) t1 t2 v
 | none => none)) := rfl
theorem qu2 : eU C q g ⟨dst, .makeSlice t x y, ty, pos, aft, gd⟩ sl hp = (match q06 g sl [x, y] with | none => none | some (p, m) => qbm p (match (mkS m hp).val x, (mkS m hp).val y with
 | some n, some c => qfc C (mkS m hp) dst t n c
 | _, _ => none)) := rfl
theorem qyz : eU C q g ⟨dst, .makeMap t none, ty, pos, aft, gd⟩ sl hp = qbm True (newObj (mkS [] hp) dst True (.mp t [] []) (.mref (nm dst 0))) := rfl
theorem q1e {cm : Bool} : eU C q g ⟨dst, .lookup t x y cm, ty, pos, aft, gd⟩ sl hp = (match q06 g sl [x, y] with | none => none | some (p, m) => qbm p (match (mkS m hp).val x, (mkS m hp).val y with
 | some a, some b => qds C (mkS m hp) t a b cm
 | _, _ => none)) := rfl
theorem qu3 : eU C q g ⟨dst, .mapUpdate t x y z, ty, pos, aft, gd⟩ sl hp = (match q06 g sl [x, y, z] with | none => none | some (p, m) => qbm p (match (mkS m hp).val x, (mkS m hp).val y, (mkS m hp).val z with
 | some a, some b, some c => qcg C (mkS m hp) t a b c
 | _, _, _ => none)) := rfl
theorem q3o : qhm (mkS sl hp) i = (match aget hp i with | some (.live (.mp _ ks vs)) => some (ks, vs) | some (.fz (.mp _ ks vs)) => some (ks, vs) | _ => none) := by
 unfold qhm mkS
 simp only
 cases aget hp i with
 | none => rfl
 | some h => cases h <;> (try rfl) <;> rename_i o <;> cases o <;> rfl
theorem qy0 : eU C q g ⟨dst, .extract x i, ty, pos, aft, gd⟩ sl hp = (match q06 g sl [x] with | none => none | some (p, m) => qbm p (match (mkS m hp).val x with
 | some (.tup l) => (l[i]?).bind q01
 | _ => none)) := rfl
theorem qw9 {fn : FuncId} {caps : Array Operand} : eU C q g ⟨dst, .makeFunc (.func fn) #[] caps, ty, pos, aft, gd⟩ sl hp = (match q06 g sl caps.toList with | none => none | some (p, m) => qbm p (match vals (mkS m hp) caps.toList with
 | some vs => q01 (match vs.mapM V.asD with | some ds => .d (.fn fn ds) | none => .fn fn vs)
 | none => none)) := by
 have : (#[] ++ caps : Array Operand).toList = caps.toList := by simp
 show (match q06 g sl (#[] ++ caps : Array Operand).toList with | none => none | some (p, m) => _) = _
 rw [this]
 rfl
theorem qy1 {b : Builtin} {args : Array Operand} {ts : Array TypeId} : eU C q g ⟨dst, .call ⟨.builtin b, args, ts⟩, ty, pos, aft, gd⟩ sl hp = (match q06 g sl args.toList with | none => none | some (p, m) => qbm p (match vals (mkS m hp) args.toList with
 | none => none
 | some vs => qep C (mkS m hp) dst b ts.toList vs)) := by
 have : (Op.call ⟨.builtin b, args, ts⟩).operands.toList = args.toList := by simp [Op.operands, Call.operands]
 show (match q06 g sl (Op.call ⟨.builtin b, args, ts⟩).operands.toList with | none => none | some (p, m) => _) = _
 rw [this]
 rfl
theorem q60 {fn : FuncId} {args : Array Operand} {ts : Array TypeId} : eU C q g ⟨dst, .call ⟨.value (.func fn), args, ts⟩, ty, pos, aft, gd⟩ sl hp = (match q06 g sl args.toList with | none => none | some (p, m) => qbm p (match vals (mkS m hp) args.toList with
 | none => none
 | some vs => qbt C q (mkS m hp) dst fn vs)) := by
 have : q06 g sl (Op.call ⟨.value (.func fn), args, ts⟩).operands.toList = q06 g sl args.toList := by
  simp [Op.operands, Call.operands, q06]
 show (match q06 g sl (Op.call ⟨.value (.func fn), args, ts⟩).operands.toList with | none => none | some (p, m) => qbm p (match vals (mkS m hp) args.toList with
  | none => none
  | some vs => qbt C q (mkS m hp) dst fn (vs ++ ([] : List D).map V.d))) = _
 rw [this]
 simp
theorem q3p {k : Nat} {args : Array Operand} {ts : Array TypeId} : eU C q g ⟨dst, .call ⟨.value (.tmp k), args, ts⟩, ty, pos, aft, gd⟩ sl hp = (match q06 g sl (.tmp k :: args.toList) with | none => none | some (p, m) => qbm p (match vals (mkS m hp) args.toList with
 | none => none
 | some vs => match aget m k with
    | some (.d (.fn f ds)) => qbt C q (mkS m hp) dst f (vs ++ ds.map .d)
    | some (.fn f caps) => qbt C q (mkS m hp) dst f (vs ++ caps)
    | _ => none)) := by
 have : q06 g sl (Op.call ⟨.value (.tmp k), args, ts⟩).operands.toList = q06 g sl (.tmp k :: args.toList) := by
  simp [Op.operands, Call.operands]
 show (match q06 g sl (Op.call ⟨.value (.tmp k), args, ts⟩).operands.toList with | none => none | some (p, m) => _) = _
 rw [this]
 rfl
theorem qu4 {n : St → Prop} {Q : Exit → St → Prop} {s : St} : qie n Q .normal s = n s := rfl
theorem q1f {n : St → Prop} {Q : Exit → St → Prop} {s : St} : qie n Q .ret s = Q .ret s := rfl
theorem qy2 {n : St → Prop} {Q : Exit → St → Prop} {s : St} {i : Nat} : qie n Q (.exit i) s = Q (.exit i) s := rfl
theorem qpj {i : Nat} {Q : Exit → St → Prop} {s : St} : qe0 i Q .normal s = Q .normal s := rfl
theorem qu5 {i : Nat} {Q : Exit → St → Prop} {s : St} : qe0 i Q .ret s = Q .ret s := rfl
theorem qf7 {i j : Nat} {Q : Exit → St → Prop} {s : St} : qe0 i Q (.exit j) s = (if j = i then Q .normal s else Q (.exit j) s) := rfl
theorem qu6 {mv : Nat → List (Nat × TypeId × Nat)} {rs : List ResultVar} {r : O} {s : St} : qm2 C mv rs r .normal s = qfy C mv rs r s := rfl
theorem q1g {mv : Nat → List (Nat × TypeId × Nat)} {rs : List ResultVar} {r : O} {s : St} : qm2 C mv rs r .ret s = qfy C mv rs r s := rfl
theorem q3q {mv : Nat → List (Nat × TypeId × Nat)} {rs : List ResultVar} {r : O} {s : St} : qfy C mv rs r s = (match qpi C s mv rs with
 | none => False
 | some (o, rd, tk) => (tk.filterMap id).Nodup ∧ ((tk.filterMap id).any fun i => rd.contains i) = false ∧ ole o r) := rfl
theorem q3r (d : D) : dle d d = True := eq_true (qbz d)
theorem q1h (l : List D) : dles l l = True := eq_true (q00 l)
theorem q3s (d : O) : ole d d = True := eq_true (q0y d)
theorem q3t {k : Nat} : resV C (mkS sl hp) (.tmp k) = aget sl k := rfl
theorem q1i {k t : Nat} : resV C (mkS sl hp) (.cell k t) = (match aggT C.P t, q0u C.P t, aget sl k with
 | some g, some n, some (.ptr id off) => (qda (mkS sl hp) id).bind fun c => ldV g n c off
 | _, _, _ => none) := rfl
end
end Go.Ev
namespace Go.Ev
def addT (T : FuncId → List O → Option (Prop × O)) (f : FuncId) (e : List O → Option (Prop × O)) : FuncId → List O → Option (Prop × O) := fun g args => if g = f then e args else T g args
structure TabOk (P : Program) (T : FuncId → List O → Option (Prop × O)) : Prop where
 t : ∀ f args p r, T f args = some (p, r) → p → Sem P f args r
 e : ∀ f args r, T f args = some r → qee P f
theorem TabOk.nil (P : Program) : TabOk P (fun _ _ => none) := ⟨fun _ _ _ _ h => (by cases h), fun _ _ _ h => (by cases h)⟩
theorem Tad {P : Program} {T : FuncId → List O → Option (Prop × O)} (h : TabOk P T) {f : FuncId} {e : List O → Option (Prop × O)} (he : qee P f) (hs : ∀ args p r, e args = some (p, r) → p → Sem P f args r) : TabOk P (addT T f e) := by
 refine ⟨fun g args p r hg hp => ?_, fun g args r hg => ?_⟩
 ·unfold addT at hg
  split at hg
  ·rename_i e'; subst e'; exact hs args p r hg hp
  ·exact h.t g args p r hg hp
 ·unfold addT at hg
  split at hg
  ·rename_i e'; subst e'; exact he
  ·exact h.e g args r hg
theorem q0v {C : Cfg} (h : TabOk C.P C.T) (hm : C.P.follows .mixedOrders = true) (ht : C.ti = fun _ => none := by rfl) : COk C := ⟨⟨h.t, fun f sz g e => by rw [ht] at e; cases e⟩, ⟨h.e, fun f x e => by rw [ht] at e; cases e⟩, hm⟩
def qpk : Code → Option Nat
 | .region n _ _ => some n
 | .seq x _ => qpk x
 | .block _ c => qpk c
 | .loop c => qpk c
 | _ => none
structure LoopNext (n : Nat) (C : Cfg) {ι : Type} (I : ι → St) (J : ι → Prop) (μ : ι → Nat) (i : ι) (s : St) : Prop where
 h : ∃ j, J j ∧ μ j < μ i ∧ Sub C s (I j)
theorem Wnx (n : Nat) {C : Cfg} {ι : Type} {I : ι → St} {J : ι → Prop} {μ : ι → Nat} {i : ι} {s : St} (j : ι) (h1 : J j) (h2 : μ j < μ i) (h3 : Sub C s (I j)) : LoopNext n C I J μ i s := ⟨⟨j, h1, h2, h3⟩⟩
theorem Wlp {C : Cfg} {s : St} {Q : Exit → St → Prop} {ι : Type} (n : Nat) {c : Code} (_ : qpk c = some n) (I : ι → St) (J : ι → Prop) (μ : ι → Nat) (i0 : ι) (hj : J i0) (h0 : Sub C s (I i0))
 (round : ∀ i, J i → AW C c (I i) (qie (LoopNext n C I J μ i) Q)) : AW C (.loop c) s Q := AW.loop I J μ i0 hj h0 fun i hi => (round i hi).mono fun e s h => by
 cases e with
 | normal => exact LoopNext.h h
 | _ => exact h
def q3u : Code → Option Nat
 | .region n _ _ => some n
 | _ => none
structure AWh (C : Cfg) (c : Code) (s : St) (Q : Exit → St → Prop) : Prop where
 h : AW C c s Q
theorem Wat {C : Cfg} {s : St} {Q : Exit → St → Prop} (n : Nat) {c : Code} (_ : q3u c = some n) (h : AWh C c s Q) : AW C c s Q := h.h
mutual
def rhoV : V → V → List (Nat × Nat)
 | .ptr a _, .ptr b _ => [(b, a)]
 | .row a _ _ _, .row b _ _ _ => [(b, a)]
 | .rp a _ _ _, .rp b _ _ _ => [(b, a)]
 | .mref a, .mref b => [(b, a)]
 | .agg l, .agg m => qk1 l m
 | .tup l, .tup m => qk1 l m
 | .fn _ l, .fn _ m => qk1 l m
 | .opt _ x, .opt _ y => rhoV x y
 | _, _ => []
def qk1 : List V → List V → List (Nat × Nat)
 | x :: l, y :: m => rhoV x y ++ qk1 l m
 | _, _ => []
end
def qy3 (sl : List (Nat × V)) : List (Nat × V) → List (Nat × Nat)
 | [] => []
 | (i, y) :: r => (match aget sl i with | some x => rhoV x y | none => []) ++ qy3 sl r
def rhoO : Option Obj' → Option Obj' → List (Nat × Nat)
 | some (.box _ c), some (.box _ c') => qk1 c c'
 | some (.mp _ _ v), some (.mp _ _ v') => qk1 v v'
 | _, _ => []
def qy4 (hp hp' : List (Nat × HS)) : List (Nat × Nat) → List (Nat × Nat)
 | [] => []
 | (b, a) :: r => (match aget hp a, aget hp' b with | some g, some g' => rhoO g.obj? g'.obj? | _, _ => []) ++ qy4 hp hp' r
def qpl : List (Nat × Nat) → List (Nat × Nat)
 | [] => []
 | (b, a) :: r => match aget r b with | some _ => qpl r | none => (b, a) :: qpl r
def rho1 (hp hp' : List (Nat × HS)) (l : List (Nat × Nat)) : List (Nat × Nat) := l ++ qy4 hp hp' l
theorem q0j {C : Cfg} {sl sl' : List (Nat × V)} {hp hp' : List (Nat × HS)} (h : ∀ ρ, qpl (rho1 hp hp' (qpl (rho1 hp hp' (qy3 sl sl')))) = ρ → qm0 (aget ρ) (nfL hp') sl sl' ∧ qm1 (aget ρ) (nfL hp') hp hp' ∧ (ρ.map (·.2)).Nodup ∧ ∀ p ∈ C.pins, aget ρ p = some p ∧ nfL hp' p) :
 Sub C (mkS sl hp) (mkS sl' hp') := by
 obtain ⟨h1, h2, h3, h4⟩ := h _ rfl
 exact q9c _ h1 h2 h3 h4
theorem Wrn {C : Cfg} {sl : List (Nat × V)} {hp : List (Nat × HS)} {Q : Exit → St → Prop} (hC : COk C) {id : Nat} {l : List Oper} (h : ∀ K : St → Prop, K = Q .normal → erun C l.toArray K l sl hp) :
 AW C (.region id l.toArray false) (mkS sl hp) Q := AW.run hC (h _ rfl)
theorem Wdr {C : Cfg} {sl : List (Nat × V)} {hp : List (Nat × HS)} {Q : Exit → St → Prop} (hC : COk C) {id : Nat} {l : List Oper} (hs : qj9 l.toArray = true) (h : ∀ K : St → Prop, K = Q .normal → qjd C K l.toArray l sl hp) :
 AW C (.region id l.toArray true) (mkS sl hp) Q := AW.drawL hC hs (h _ rfl)
theorem Whr {C : Cfg} {sl : List (Nat × V)} {hp : List (Nat × HS)} {Q : Exit → St → Prop} (hC : COk C) {id : Nat} {l : List Oper} (h : ∀ K : St → Prop, K = Q .normal → erun C l.toArray K l sl hp) :
 AWh C (.region id l.toArray false) (mkS sl hp) Q := ⟨Wrn hC h⟩
theorem Whd {C : Cfg} {sl : List (Nat × V)} {hp : List (Nat × HS)} {Q : Exit → St → Prop} (hC : COk C) {id : Nat} {l : List Oper} (hs : qj9 l.toArray = true) (h : ∀ K : St → Prop, K = Q .normal → qjd C K l.toArray l sl hp) :
 AWh C (.region id l.toArray true) (mkS sl hp) Q := ⟨Wdr hC hs h⟩
theorem q0w {C : Cfg} {ops : Array Oper} {K : St → Prop} {l : List Oper} {sl : List (Nat × V)} {hp : List (Nat × HS)} (h : erun C ops K l sl hp) : erun C ops K l sl hp := h
theorem qdx {C : Cfg} {ops : Array Oper} {K : St → Prop} {l : List Oper} {sl : List (Nat × V)} {hp : List (Nat × HS)} (h : qjd C K ops l sl hp) : qjd C K ops l sl hp := h
theorem q0m {C : Cfg} {mv : Nat → List (Nat × TypeId × Nat)} {rs : List ResultVar} {r : O} {s : St} (h : qfy C mv rs r s) : qfy C mv rs r s := h
theorem qc7 {u : List (Nat × Nat)} {f : List (List Nat × List Nat)} {p : Prop} (h1 : qe7 u f = true) (h2 : p) : qe7 u f = true ∧ p := ⟨h1, h2⟩
theorem q0n {n : St → Prop} {Q : Exit → St → Prop} {s : St} (h : n s) : qie n Q .normal s := h
theorem q0o {n : St → Prop} {Q : Exit → St → Prop} {s : St} (h : Q .ret s) : qie n Q .ret s := h
theorem q0p {n : St → Prop} {Q : Exit → St → Prop} {s : St} {i : Nat} (h : Q (.exit i) s) : qie n Q (.exit i) s := h
theorem q0f {i : Nat} {Q : Exit → St → Prop} {s : St} (h : Q .normal s) : qe0 i Q .normal s := h
theorem q0g {i : Nat} {Q : Exit → St → Prop} {s : St} (h : Q .ret s) : qe0 i Q .ret s := h
theorem q0h {i : Nat} {Q : Exit → St → Prop} {s : St} (h : Q .normal s) : qe0 i Q (.exit i) s := by
 rw [qf7, if_pos rfl]; exact h
theorem q0c {i j : Nat} {Q : Exit → St → Prop} {s : St} (hn : decide (j = i) = false) (h : Q (.exit j) s) : qe0 i Q (.exit j) s := by
 rw [qf7, if_neg (of_decide_eq_false hn)]; exact h
theorem q0q {C : Cfg} {mv : Nat → List (Nat × TypeId × Nat)} {rs : List ResultVar} {r : O} {s : St} (h : qfy C mv rs r s) : qm2 C mv rs r .ret s := h
theorem q0r {C : Cfg} {mv : Nat → List (Nat × TypeId × Nat)} {rs : List ResultVar} {r : O} {s : St} (h : qfy C mv rs r s) : qm2 C mv rs r .normal s := h
theorem q0i {C : Cfg} {f : FuncId} {fn : Func} {c : Code} {args : List O} {r : O} (mv : Nat → List (Nat × TypeId × Nat)) {rs : List ResultVar} (hf : C.P.funcs[f]? = some fn) (hb : fn.body = some c) (hr : fn.results.toList = rs) (hN : fn.ntmps = C.N)
 (hn : Nat.ble args.length fn.ntmps = true) (hok : args.all qk0 = true) (hpins : C.pins = qbw 0 args) (h : AW C c (mkS (qgl 0 args) (qc6 0 args)) (qm2 C mv rs r)) : Sem C.P f args r :=
 qsj mv hf hb hN (Nat.le_of_ble_eq_true hn) hok hpins (hr ▸ h)
theorem w64 {n : Int} (h1 : -9223372036854775808 ≤ n) (h2 : n ≤ 9223372036854775807) : IntKind.i64.wrap n = n := by
 unfold IntKind.wrap
 simp only [IntKind.bits, IntKind.signed, Bool.true_and]
 split <;> rename_i h <;> simp only [decide_eq_true_eq, ge_iff_le] at h <;> omega
theorem wu8 {n : Int} (h1 : 0 ≤ n) (h2 : n ≤ 255) : IntKind.u8.wrap n = n := by
 simp only [IntKind.wrap, IntKind.bits, IntKind.signed, Bool.false_and]
 rw [if_neg (by simp)]
 omega
def eqB {α : Type} [DecidableEq α] (a b : α) : Bool := decide (a = b)
theorem q5d {α : Type} [DecidableEq α] (a b : α) : (eqB a b = true) = (a = b) := by simp [eqB]
theorem q5e {α : Type} [DecidableEq α] (a b : α) : (eqB a b = false) = ¬a = b := by simp [eqB]
theorem q5f {p : Prop} {inst : Decidable p} : (@decide p inst = false) = ¬p := by simp
theorem q5g {p : Prop} {inst : Decidable p} : (@decide p inst = true) = p := by simp
theorem qsl {α : Type} {l : List α} {i : Nat} (z : α) (h : i < l.length) : l.take (i + 1) = l.take i ++ [l.getD i z] := by
 rw [List.take_add_one]
 simp [List.getD, h]
end Go.Ev
