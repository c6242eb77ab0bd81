/- Several texts in one. -/
import Derived.Test.YtodpbobjmkhcfaaGreatDoorPa
namespace Go.Proofs.YtodpbobjmkhcfaaGreatDoor.Gst
open Go Go.RowKit
set_option linter.unusedSimpArgs false
section
variable {P : Program} {w0 : World} {B : Nat} {ρ : Ren} {w : World} {G : List Nat} {call : CallF} {ops : Array Oper} {T : Tra P G call ops} {ρ0 : Ren} {wS : World} {L : Nat → Bool} {a : Act} {t : Nat}
abbrev lset (L : Nat → Bool) (j : Nat) : Nat → Bool := fun i => if i = j then true else L i
theorem lset_ne {i j : Nat} (h : i ≠ j) : lset L j i = L i := by simp [lset, h]
theorem lset_of {i j : Nat} (h : L i = true) : lset L j i = true := by simp only [lset]; split <;> first | rfl | exact h
theorem lset_false {i j : Nat} (h : lset L j i = false) : i ≠ j ∧ L i = false := by
  simp only [lset] at h
  split at h
  · cases h
  · exact ⟨by assumption, h⟩
theorem Inv.same (I : Inv T w0 B ρ0 wS L a w ρ t) {j : Nat} {o : Oper} (N : Next T L j o) (hk : opK o.op ≠ 3) {v' : Value} (hv : VRel P ρ (T.val j) v') : Inv T w0 B ρ0 wS (lset L j) (a.put o.dst v') w ρ t where
  closed := I.closed' N
  act := by rw [I.set N]; exact put_rel I.act o.dst hv
  rel := I.rel
  ext := I.ext
  ht := I.ht
  ht1 := I.ht1
  hE := fun i oi hi h3 => by
    have : i ≠ j := fun e => by subst e; rw [N.ho] at hi; cases hi; exact hk h3
    rw [lset_ne this]; exact I.hE i oi hi h3
  full := I.full
  blk := I.blk
  pend := fun b x hx hb => by
    obtain ⟨i, oi, c, c', sz, h1, h2, h3, h4⟩ := I.pend b x hx hb
    exact ⟨i, oi, c, c', sz, h1, h2, lset_of h3, h4⟩
  alone := I.alone
  later := fun i oi c hi h1 hp hL => I.later i oi c hi h1 hp (lset_false hL).2
theorem not3 (I : Inv T w0 B ρ0 wS L a w ρ t) {j : Nat} {o : Oper} (N : Next T L j o) (hk : opK o.op = 3) : t ≤ j ∧ ∀ i oi, ops[i]? = some oi → t ≤ i → i < j → opK oi.op ≠ 3 := by
  refine ⟨?_, fun i oi hi hti hij h3 => ?_⟩
  · rcases Nat.lt_or_ge j t with h | h
    · have := (I.hE j o N.ho hk).2 h
      rw [N.hj] at this; cases this
    · exact h
  · rcases T.pair i j oi o hij hi N.ho with h | ⟨_, h⟩
    · have := fb_closed I.closed j o N.ho N.ready i h
      have := (I.hE i oi hi h3).1 this
      omega
    · exact h ⟨h3, hk⟩
theorem Inv.alloc (W : Way T w0 B ρ0 wS) (I : Inv T w0 B ρ0 wS L a w ρ t) {j : Nat} {o : Oper} (N : Next T L j o) (hk : opK o.op = 1) {c : AObj} (hc : c.rw = true) (hp : (T.s (j + 1)).2 = (T.s j).2.push c) {ob : Obj} {sz : Nat} {v' : Value}
    (hO : ORel P (ρ.below (T.s j).2.size) 0 sz c (some ob)) (hv : ∀ ρ' : Ren, ρ' (T.s j).2.size = some (w.heap.size, 0, sz) → VRel P ρ' (T.val j) v') :
    Inv T w0 B ρ0 wS (lset L j) (a.put o.dst v') (w.alloc ob) (ρ.upd (T.s j).2.size (w.heap.size, 0, sz)) t := by
  have hjn := (Array.getElem?_eq_some_iff.1 N.ho).1
  obtain ⟨hnone, hbefore⟩ := I.later j o c N.ho hk hp N.hj
  have hle := Ren.upd_le (x := (w.heap.size, 0, sz)) hnone
  have hltn := size_lt W (show j < ops.size from hjn) (Nat.le_refl _) hp
  have bmono : ∀ {b i x}, ρ.below b i = some x → (ρ.upd (T.s j).2.size (w.heap.size, 0, sz)).below b i = some x := by
    intro b i x hx
    obtain ⟨h1, h2⟩ := Ren.below_some hx
    rw [Ren.below_lt h1]; exact hle _ _ h2
  have hrel : Rel P w0 B ((ρ.upd (T.s j).2.size (w.heap.size, 0, sz)).below (T.s t).2.size) (T.s t).2 (w.alloc ob) ∧ Ext ρ0 (T.s 0).2 wS ((ρ.upd (T.s j).2.size (w.heap.size, 0, sz)).below (T.s t).2.size) (T.s t).2 (w.alloc ob) := by
    rcases Nat.lt_or_ge j t with hjt | hjt
    · have hlt := size_lt W hjt I.ht hp
      have e : (ρ.upd (T.s j).2.size (w.heap.size, 0, sz)).below (T.s t).2.size = (ρ.below (T.s t).2.size).upd (T.s j).2.size (w.heap.size, 0, sz) := by
        funext b
        unfold Ren.below Ren.upd
        by_cases e : b = (T.s j).2.size
        · subst e; simp [hlt]
        · simp [e]
      have hnb : ρ.below (T.s t).2.size (T.s j).2.size = none := by rw [Ren.below_lt hlt]; exact hnone
      rw [e]
      refine ⟨I.rel.fill hnb hc (hO.mono (below_mono (Nat.le_of_lt hlt))) hlt ?_ (fun b x hx => ⟨I.rel.dom b x hx, rfl⟩), ?_⟩
      · rw [hbefore hjt, hp, AH.get_push_new]
      · exact (I.ext.allocW ob).updN hnb (size_mono W (Nat.zero_le _) (by omega)) hlt I.ext.wsize
    · have hge := size_mono W hjt (by omega)
      have e : (ρ.upd (T.s j).2.size (w.heap.size, 0, sz)).below (T.s t).2.size = ρ.below (T.s t).2.size := by
        funext b
        unfold Ren.below Ren.upd
        by_cases e : b < (T.s t).2.size
        · rw [if_pos e, if_pos e, if_neg (by omega)]
        · rw [if_neg e, if_neg e]
      rw [e]
      exact ⟨I.rel.allocW ob, I.ext.allocW ob⟩
  refine ⟨I.closed' N, ?_, hrel.1, hrel.2, I.ht, I.ht1, ?_, ?_, ?_, ?_, ?_, ?_⟩
  · rw [I.set N]; exact put_rel (I.act.mono hle) o.dst (hv _ (Ren.upd_same ..))
  · intro i oi hi h3
    have : i ≠ j := fun e => by subst e; rw [N.ho] at hi; cases hi; omega
    rw [lset_ne this]; exact I.hE i oi hi h3
  · intro b x hx
    rcases upd_cases hx with ⟨rfl, _⟩ | ⟨_, hx⟩
    · exact hltn
    · exact I.full b x hx
  · intro b c1 d sz1 hx
    rw [World.size_alloc]
    rcases upd_cases hx with ⟨rfl, e⟩ | ⟨_, hx⟩
    · cases e; omega
    · have := I.blk b c1 d sz1 hx; omega
  · intro b x hx hb
    rcases upd_cases hx with ⟨rfl, rfl⟩ | ⟨_, hx⟩
    · refine ⟨j, o, c, w.heap.size, sz, N.ho, ?_, by simp [lset], rfl, hp, rfl, hc, I.ext.wsize, ?_⟩
      · rcases Nat.lt_or_ge j t with hjt | hjt
        · have := size_lt W hjt I.ht hp; omega
        · exact hjt
      · rw [heap_alloc_new w ob]; exact hO.mono (fun _ _ h => bmono h)
    · obtain ⟨i, oi, c1, c', sz1, h1, h2, h3, h4, h5, h6, h7, h8, h9⟩ := I.pend b x hx hb
      subst h6
      refine ⟨i, oi, c1, c', sz1, h1, h2, lset_of h3, h4, h5, rfl, h7, h8, ?_⟩
      rw [Below.heap_alloc w ob c' (I.blk _ _ _ _ hx)]
      exact h9.mono (fun _ _ h => bmono h)
  · intro b b' c1 d sz1 d' sz' hx hx' hb
    rcases upd_cases hx with ⟨e1, e⟩ | ⟨_, hx⟩ <;> rcases upd_cases hx' with ⟨e2, e'⟩ | ⟨_, hx'⟩
    · rw [e1, e2]
    · cases e; have := I.blk _ _ _ _ hx'; omega
    · cases e'; have := I.blk _ _ _ _ hx; omega
    · exact I.alone _ _ _ _ _ _ _ hx hx' hb
  · intro i oi c1 hi h1 hpi hL
    obtain ⟨hne, hL⟩ := lset_false hL
    obtain ⟨h2, h3⟩ := I.later i oi c1 hi h1 hpi hL
    refine ⟨?_, h3⟩
    have hin := (Array.getElem?_eq_some_iff.1 hi).1
    rw [Ren.upd_ne (fun e => ?_)]
    · exact h2
    · rcases Nat.lt_or_gt_of_ne hne with h | h
      · have := size_lt W h (by omega) hpi; omega
      · have := size_lt W h (by omega) hp; omega
theorem Inv.effect (W : Way T w0 B ρ0 wS) (I : Inv T w0 B ρ0 wS L a w ρ t) {j : Nat} {o : Oper} (N : Next T L j o) (hk : opK o.op = 3) {v' : Value} {w' : World} {ρ1 : Ren} (hv : VRel P ρ1 (T.val j) v')
    (hE : Ext (ρ.below (T.s j).2.size) (T.s j).2 w ρ1 (T.s (j + 1)).2 w') (hR : Rel P w0 B ρ1 (T.s (j + 1)).2 w') :
    ∃ ρ2, Inv T w0 B ρ0 wS (lset L j) (a.put o.dst v') w' ρ2 (j + 1) := by
  have hjn := (Array.getElem?_eq_some_iff.1 N.ho).1
  obtain ⟨htj, hno⟩ := not3 I N hk
  obtain ⟨hRj, hXj⟩ := I.derive W j htj (by omega) hno
  have hm : (T.s j).2.size ≤ (T.s (j + 1)).2.size := size_step W hjn
  have hmt : (T.s t).2.size ≤ (T.s j).2.size := size_mono W htj (by omega)
  -- no block of the region's own lies in the gap
  have pos : ∀ {b x}, ρ b = some x → (T.s j).2.size ≤ b → (T.s (j + 1)).2.size ≤ b ∧ ∃ i oi c c' sz, ops[i]? = some oi ∧ j + 1 ≤ i ∧ L i = true ∧ b = (T.s i).2.size ∧ (T.s (i + 1)).2 = (T.s i).2.push c ∧ x = (c', 0, sz) ∧ c.rw = true ∧ wS.heap.size ≤ c' ∧ ORel P (ρ.below b) 0 sz c w.heap[c']? := by
    intro b x hx hb
    obtain ⟨i, oi, c, c', sz, h1, h2, h3, h4, h5, h6⟩ := I.pend b x hx (by omega)
    have hin := (Array.getElem?_eq_some_iff.1 h1).1
    have hij : j + 1 ≤ i := by
      rcases Nat.lt_trichotomy i j with h | h | h
      · have := size_lt W h (by omega) h5; omega
      · subst h; rw [N.hj] at h3; cases h3
      · omega
    exact ⟨by have := size_mono W hij (by omega); omega, i, oi, c, c', sz, h1, hij, h3, h4, h5, h6⟩
  have hle : ∀ b x, ρ b = some x → (fun b => if b < (T.s (j + 1)).2.size then ρ1 b else ρ b) b = some x := by
    intro b x hx
    by_cases hb : b < (T.s (j + 1)).2.size
    · simp only [hb, if_true]
      by_cases hbj : b < (T.s j).2.size
      · exact hE.le b x (by rw [Ren.below_lt hbj]; exact hx)
      · have := (pos hx (by omega)).1; omega
    · simp only [hb, if_false]; exact hx
  have hle1 : ∀ b x, ρ1 b = some x → (fun b => if b < (T.s (j + 1)).2.size then ρ1 b else ρ b) b = some x := by
    intro b x hx
    have := hR.dom b x hx
    simp only [this, if_true]; exact hx
  have cases' : ∀ {b x}, (fun b => if b < (T.s (j + 1)).2.size then ρ1 b else ρ b) b = some x → (b < (T.s (j + 1)).2.size ∧ ρ1 b = some x) ∨ ((T.s (j + 1)).2.size ≤ b ∧ ρ b = some x) := by
    intro b x hx
    by_cases hb : b < (T.s (j + 1)).2.size
    · simp only [hb, if_true] at hx; exact .inl ⟨hb, hx⟩
    · simp only [hb, if_false] at hx; exact .inr ⟨by omega, hx⟩
  have e2 : Ren.below (fun b => if b < (T.s (j + 1)).2.size then ρ1 b else ρ b) (T.s (j + 1)).2.size = ρ1 := by
    funext b
    simp only [Ren.below]
    by_cases hb : b < (T.s (j + 1)).2.size
    · simp only [hb, if_true]
    · simp only [hb, if_false]
      cases h : ρ1 b with
      | none => rfl
      | some x => exact absurd (hR.dom b x h) hb
  refine ⟨fun b => if b < (T.s (j + 1)).2.size then ρ1 b else ρ b, I.closed' N, ?_, by rw [e2]; exact hR, by rw [e2]; exact hXj.trans W.rel hE, by omega, .inr ⟨o, by simpa using N.ho, hk⟩, ?_, ?_, ?_, ?_, ?_, ?_⟩
  · rw [I.set N]; exact put_rel (I.act.mono hle) o.dst (hv.mono hle1)
  · intro i oi hi h3
    by_cases e : i = j
    · subst e; simp [lset]
    · rw [lset_ne e, I.hE i oi hi h3]
      constructor
      · intro h; omega
      · intro h
        rcases Nat.lt_or_ge i t with h4 | h4
        · exact h4
        · exact absurd h3 (hno i oi hi h4 (by omega))
  · intro b x hx
    rcases cases' hx with ⟨hb, _⟩ | ⟨_, hx⟩
    · exact Nat.lt_of_lt_of_le hb (size_mono W (by omega) (Nat.le_refl _))
    · exact I.full b x hx
  · intro b c d sz hx
    rcases cases' hx with ⟨_, hx⟩ | ⟨_, hx⟩
    · exact hR.blk b c d sz hx
    · have := I.blk b c d sz hx; have := hE.wsize; omega
  · intro b x hx hb
    rcases cases' hx with ⟨hb', _⟩ | ⟨_, hx⟩
    · omega
    · obtain ⟨_, i, oi, c, c', sz, h1, h2, h3, h4, h5, h6, h7, h8, h9⟩ := pos hx (by omega)
      subst h6
      refine ⟨i, oi, c, c', sz, h1, h2, lset_of h3, h4, h5, rfl, h7, h8, ?_⟩
      rw [hE.keepC c' (I.blk _ _ _ _ hx) (fun b1 d sz1 o1 hx1 _ => ?_)]
      · refine h9.mono (fun b1 x1 hx1 => ?_)
        obtain ⟨h10, h11⟩ := Ren.below_some hx1
        rw [Ren.below_lt h10]; exact hle _ _ h11
      · obtain ⟨h10, h11⟩ := Ren.below_some hx1
        have := I.alone _ _ _ _ _ _ _ hx h11 (by omega)
        omega
  · intro b b' c d sz d' sz' hx hx' hb
    rcases cases' hx with ⟨hb', _⟩ | ⟨_, hx⟩
    · omega
    · rcases cases' hx' with ⟨hb', hx'⟩ | ⟨_, hx'⟩
      · exfalso
        cases hρ : ρ.below (T.s j).2.size b' with
        | some y =>
          have := hE.le b' y hρ
          rw [hx'] at this
          cases this
          obtain ⟨h10, h11⟩ := Ren.below_some hρ
          have := I.alone _ _ _ _ _ _ _ hx h11 (by omega)
          omega
        | none =>
          rcases hE.newC b' c d' sz' hx' hρ with h | ⟨b0, d0, sz0, o0, h, _, _⟩
          · have := I.blk _ _ _ _ hx; omega
          · obtain ⟨h10, h11⟩ := Ren.below_some h
            have := I.alone _ _ _ _ _ _ _ hx h11 (by omega)
            omega
      · exact I.alone _ _ _ _ _ _ _ hx hx' (by omega)
  · intro i oi c hi h1 hp hL
    obtain ⟨hne, hL⟩ := lset_false hL
    obtain ⟨h2, h3⟩ := I.later i oi c hi h1 hp hL
    have hin := (Array.getElem?_eq_some_iff.1 hi).1
    refine ⟨?_, fun hij => ?_⟩
    · by_cases hb : (T.s i).2.size < (T.s (j + 1)).2.size
      · rw [if_pos hb]
        cases h4 : ρ1 (T.s i).2.size with
        | none => rfl
        | some y =>
          have h5 : ρ.below (T.s j).2.size (T.s i).2.size = none := by unfold Ren.below; rw [h2]; split <;> rfl
          have h6 := (hE.fresh _ y h4 h5).1
          rcases Nat.lt_or_gt_of_ne hne with h | h
          · have := size_lt W h (by omega) hp; omega
          · have := size_mono W (show j + 1 ≤ i from h) (by omega); omega
      · rw [if_neg hb]; exact h2
    · have hlt : i < j := by omega
      have hsz := size_lt W hlt (by omega) hp
      have h5 : ρ.below (T.s j).2.size (T.s i).2.size = none := by unfold Ren.below; rw [h2]; split <;> rfl
      rw [hE.keepA _ hsz h5]
      rcases Nat.lt_or_ge i t with h4 | h4
      · rw [push_get W htj (by omega) hno (size_lt W h4 I.ht hp), h3 h4]
      · exact push_get W (show i + 1 ≤ j from hlt) (by omega) (fun k ok hk h6 h7 => hno k ok hk (by omega) h7) (by rw [hp, AH.size_push]; omega)
theorem Inv.readAt (I : Inv T w0 B ρ0 wS L a w ρ t) {j : Nat} {o : Oper} (N : Next T L j o) (hk : opK o.op = 2) :
    ∃ k, t ≤ k ∧ k ≤ ops.size ∧ (∀ i oi, ops[i]? = some oi → t ≤ i → i < k → opK oi.op ≠ 3) ∧ aRd P (aEv (T.s j).1) o.op (T.s k).2 = aRd P (aEv (T.s j).1) o.op (T.s j).2 := by
  have hjn := (Array.getElem?_eq_some_iff.1 N.ho).1
  rcases Nat.lt_or_ge j t with hjt | hjt
  · rcases I.ht1 with h0 | ⟨oe, he, h3⟩
    · omega
    · have hL : L (t - 1) = true := (I.hE (t - 1) oe he h3).2 (by omega)
      have hne : j ≠ t - 1 := fun e => by rw [e] at N; have := N.ho; rw [he] at this; cases this; omega
      have hf1 : fb (masksOf ops.toList) (t - 1) j = false := by
        cases h : fb (masksOf ops.toList) (t - 1) j with
        | false => rfl
        | true => have := fb_lt T N.ho h; omega
      have hf2 : fb (masksOf ops.toList) j (t - 1) = false := by
        cases h : fb (masksOf ops.toList) j (t - 1) with
        | false => rfl
        | true =>
          have := fb_closed I.closed (t - 1) oe he (I.closed _ _ he hL) j h
          rw [N.hj] at this; cases this
      have h := T.look j (t - 1) o oe N.ho he hk h3 hf1 hf2
      rw [if_neg (by omega), show t - 1 + 1 = t from by omega] at h
      exact ⟨t, Nat.le_refl _, I.ht, fun i oi hi h1 h2 => absurd h1 (by omega), h⟩
  · -- the first that does more than look, between here and there
    have key : ∀ n, t + n ≤ j → (∀ i oi, ops[i]? = some oi → t ≤ i → i < t + n → opK oi.op ≠ 3) ∨
        ∃ e oe, t ≤ e ∧ e < j ∧ ops[e]? = some oe ∧ opK oe.op = 3 ∧ ∀ i oi, ops[i]? = some oi → t ≤ i → i < e → opK oi.op ≠ 3 := by
      intro n
      induction n with
      | zero => intro _; exact .inl (fun i oi hi h1 h2 => absurd h1 (by omega))
      | succ n ih =>
        intro hn
        rcases ih (by omega) with h | h
        · have ho : ops[t + n]? = some ops[t + n] := by simp [show t + n < ops.size from by omega]
          by_cases h3 : opK (ops[t + n]).op = 3
          · exact .inr ⟨t + n, _, by omega, by omega, ho, h3, h⟩
          · refine .inl (fun i oi hi h1 h2 => ?_)
            by_cases e : i = t + n
            · subst e; rw [ho] at hi; cases hi; exact h3
            · exact h i oi hi h1 (by omega)
        · exact .inr h
    rcases key (j - t) (by omega) with h | ⟨e, oe, h1, h2, he, h3, h4⟩
    · exact ⟨j, hjt, by omega, fun i oi hi h1 h2 => h i oi hi h1 (by omega), rfl⟩
    · have hLe : L e = false := by
        cases h : L e with
        | false => rfl
        | true => have := (I.hE e oe he h3).1 h; omega
      have hf1 : fb (masksOf ops.toList) e j = false := by
        cases h : fb (masksOf ops.toList) e j with
        | false => rfl
        | true => have := fb_closed I.closed j o N.ho N.ready e h; rw [hLe] at this; cases this
      have hf2 : fb (masksOf ops.toList) j e = false := by
        cases h : fb (masksOf ops.toList) j e with
        | false => rfl
        | true => have := fb_lt T he h; omega
      have h := T.look j e o oe N.ho he hk h3 hf1 hf2
      rw [if_pos h2] at h
      exact ⟨e, h1, by omega, h4, h⟩
theorem aOp_noSelect {ev : Operand → Value} {o : Oper} {H : AH} {r : Value × AH} (h : aOp P call ev o H = some r) : ∀ cs b, o.op ≠ .select cs b := by
  intro cs b e
  obtain ⟨dst, op, type, pos, after, guard⟩ := o
  simp only at e
  subst e
  simp [aOp] at h
theorem Inv.step (W : Way T w0 B ρ0 wS) (I : Inv T w0 B ρ0 wS L a w ρ t) {j : Nat} {o : Oper} (N : Next T L j o) {K : Act → World → Prop} {Q : Exit → Act → World → Prop}
    (hK : ∀ a' w' ρ' t', Inv T w0 B ρ0 wS (lset L j) a' w' ρ' t' → K a' w') : wpOp P ops Q j K a w := by
  have hjn := (Array.getElem?_eq_some_iff.1 N.ho).1
  unfold wpOp
  rw [N.ho]
  simp only
  rw [I.wanted N]
  obtain ⟨hok, hs, ⟨hw, h⟩ | ⟨hw, hv, hH⟩⟩ := T.step j o N.ho
  · rw [if_pos hw]
    refine .inl ?_
    rcases opK_cases o.op with h0 | h1 | h2 | h3
    · have h' : aOp P call (aEv (AD T L ops.size)) o (pad (T.s ops.size).2.size (T.s t).2) = some (T.val j, pad (T.s ops.size).2.size (T.s t).2) := by
        rw [aOp_congr (fun x hx => I.evs N hx)]; exact (aOp_pure h0 h).2 _
      have hp : Rel P w0 B ρ (pad (T.s ops.size).2.size (T.s t).2) w := I.rel.pad (size_mono W I.ht (Nat.le_refl _)) I.full I.blk
      have hG : GlobRel ρ G := (I.glob W (size_mono W (Nat.zero_le t) I.ht)).mono below_le
      obtain ⟨v', hr, hv⟩ := pure_out I.act hG hp hok (.inl h0) h'
      refine OpOut.wp (R := fun v w' => v = v' ∧ w' = w) (by unfold OpOut; rw [hr]; exact ⟨rfl, rfl⟩) ?_
      rintro v w' ⟨rfl, rfl⟩
      exact hK _ _ _ _ (I.same N (by omega) hv)
    · have h' : aOp P call (aEv (maskA (seesT o.op) (AD T L ops.size))) o (T.s j).2 = some (T.val j, (T.s (j + 1)).2) := by
        rw [aOp_congr (fun x hx => (mask_ev hx).trans (I.evs N hx))]; exact h
      obtain ⟨c, hc, hp, hall⟩ := alloc_spec (I.masked W N) (I.glob W (size_mono W (Nat.zero_le j) (by omega))) hok h1 h'
      obtain ⟨ob, sz, v', hr, hO, hv⟩ := hall w
      rw [execOp_congr o (aOp_noSelect h) (fun x hx => mask_eval (by simpa using hx))] at hr
      refine OpOut.wp (R := fun v w' => v = v' ∧ w' = w.alloc ob) (by unfold OpOut; rw [hr]; exact ⟨rfl, rfl⟩) ?_
      rintro v w' ⟨rfl, rfl⟩
      exact hK _ _ _ _ (I.alloc W N h1 hc hp hO hv)
    · obtain ⟨k, hk1, hk2, hk3, hrd⟩ := I.readAt N h2
      obtain ⟨hRk, _⟩ := I.derive W k hk1 hk2 hk3
      have hp : Rel P w0 B ρ (pad (T.s ops.size).2.size (T.s k).2) w := hRk.pad (size_mono W hk2 (Nat.le_refl _)) I.full I.blk
      rw [aOp_rd h2] at h
      obtain ⟨y, hy, e⟩ := Option.map_eq_some_iff.1 h
      have ey : y = T.val j := (Prod.mk.inj e).1
      subst ey
      rw [← hrd] at hy
      have h' : aOp P call (aEv (AD T L ops.size)) o (pad (T.s ops.size).2.size (T.s k).2) = some (T.val j, pad (T.s ops.size).2.size (T.s k).2) := by
        rw [aOp_congr (fun x hx => I.evs N hx), aOp_rd h2, rd_same (H1 := (T.s k).2) (fun b hb => pad_old (rd_blk_lt hy hb) (size_mono W hk2 (Nat.le_refl _))), hy]
        rfl
      have hG : GlobRel ρ G := (I.glob W (size_mono W (Nat.zero_le t) I.ht)).mono below_le
      obtain ⟨v', hr, hv⟩ := pure_out I.act hG hp hok (.inr h2) h'
      refine OpOut.wp (R := fun v w' => v = v' ∧ w' = w) (by unfold OpOut; rw [hr]; exact ⟨rfl, rfl⟩) ?_
      rintro v w' ⟨rfl, rfl⟩
      exact hK _ _ _ _ (I.same N (by omega) hv)
    · obtain ⟨htj, hno⟩ := not3 I N h3
      obtain ⟨hRj, _⟩ := I.derive W j htj (by omega) hno
      have h' : aOp P call (aEv (maskA (seesT o.op) (AD T L ops.size))) o (T.s j).2 = some (T.val j, (T.s (j + 1)).2) := by
        rw [aOp_congr (fun x hx => (mask_ev hx).trans (I.evs N hx))]; exact h
      have hr := op_reach W.hcall (I.masked W N) (I.glob W (size_mono W (Nat.zero_le j) (by omega))) hRj hok h'
      have hr := hr.congr (execOp_congr o (aOp_noSelect h) (fun x hx => mask_eval (by simpa using hx)))
      refine hr.wp ?_
      rintro v' w' ⟨ρ1, hv, hE, hR⟩
      obtain ⟨ρ2, I2⟩ := I.effect W N h3 hv hE hR
      exact hK _ _ _ _ I2
  · rw [if_neg (by rw [hw]; simp)]
    by_cases h3 : opK o.op = 3
    · obtain ⟨htj, hno⟩ := not3 I N h3
      obtain ⟨hRj, _⟩ := I.derive W j htj (by omega) hno
      obtain ⟨ρ2, I2⟩ := I.effect W N h3 (v' := undef) (w' := w) (ρ1 := ρ.below (T.s j).2.size) (by rw [hv]; exact VRel.undef) (by rw [hH]; exact Ext.refl _ _ _) (by rw [hH]; exact hRj)
      exact hK _ _ _ _ I2
    · exact hK _ _ _ _ (I.same N h3 (by rw [hv]; exact VRel.undef))
theorem Inv.start (W : Way T w0 B ρ0 wS) (hA : ActRel P ρ0 (T.s 0).1 a) : Inv T w0 B ρ0 wS (fun _ => false) a wS ρ0 0 := by
  have e : ρ0.below (T.s 0).2.size = ρ0 := by
    funext b
    unfold Ren.below
    split
    · rfl
    · cases h : ρ0 b with
      | none => rfl
      | some x => exact absurd (W.rel.dom b x h) (by assumption)
  refine ⟨fun _ _ _ h => (by cases h), by rw [AD_none]; exact hA, by rw [e]; exact W.rel, by rw [e]; exact Ext.refl _ _ _, Nat.zero_le _, .inl rfl, fun i o _ _ => by simp, ?_, W.rel.blk, ?_, ?_, ?_⟩
  · intro b x hx
    have := W.rel.dom b x hx
    have := size_mono W (Nat.zero_le ops.size) (Nat.le_refl _)
    omega
  · intro b x hx hb
    have := W.rel.dom b x hx; omega
  · intro b b' c d sz d' sz' hx _ hb
    have := W.rel.dom b _ hx; omega
  · intro i o c hi _ hp _
    refine ⟨?_, fun h => by omega⟩
    have hin := (Array.getElem?_eq_some_iff.1 hi).1
    have := size_mono W (Nat.zero_le i) (by omega)
    cases h : ρ0 (T.s i).2.size with
    | none => rfl
    | some x => have := W.rel.dom _ x h; omega
theorem Inv.done (W : Way T w0 B ρ0 wS) (I : Inv T w0 B ρ0 wS L a w ρ t) (hL : ∀ i, i < ops.size → L i = true) : Post P w0 B G ρ0 (T.s 0).2 wS (T.s ops.size).1 (T.s ops.size).2 a w := by
  have e : ρ.below (T.s ops.size).2.size = ρ := by
    funext b
    unfold Ren.below
    split
    · rfl
    · cases h : ρ b with
      | none => rfl
      | some x => exact absurd (I.full b x h) (by assumption)
  obtain ⟨hR, hX⟩ := I.derive W ops.size I.ht (Nat.le_refl _) (fun i o hi h1 h2 h3 => by
    have := (I.hE i o hi h3).1 (hL i (by omega)); omega)
  rw [e] at hR hX
  exact ⟨ρ, by rw [← AD_all T hL]; exact I.act, W.glob.mono hX.le, hX, hR⟩
theorem any_sound (W : Way T w0 B ρ0 wS) {Q : Exit → Act → World → Prop} (hQ : ∀ a' w', Post P w0 B G ρ0 (T.s 0).2 wS (T.s ops.size).1 (T.s ops.size).2 a' w' → Q .normal a' w') :
    ∀ (fuel : Nat) (listed : Array Bool) (a : Act) (w : World) (ρ : Ren) (t : Nat), listed.size = ops.size → ((List.range ops.size).filter fun i => !listed.getD i false).length ≤ fuel →
      Inv T w0 B ρ0 wS (fun i => listed.getD i false) a w ρ t → wpAny P .any ops Q fuel listed a w := by
  have inready : ∀ (listed : Array Bool), listed.size = ops.size → ∀ j, j ∈ Region.ready .any ops listed → ∃ o, Next T (fun i => listed.getD i false) j o := by
    intro listed hsz j hj
    unfold Region.ready at hj
    rw [List.mem_filter] at hj
    obtain ⟨hj, h⟩ := hj
    rw [List.mem_range] at hj
    have ho : ops[j]? = some ops[j] := by simp [hj]
    simp only [Bool.and_eq_true, Bool.not_eq_true'] at h
    obtain ⟨h1, h2⟩ := h
    rw [ho] at h2
    simp only [Option.map_some, Option.getD_some, Array.all_eq_true'] at h2
    refine ⟨ops[j], ho, ?_, fun e he hb => ?_⟩
    · have hjl : j < listed.size := by omega
      simp only [Array.getD, hjl, dif_pos] at h1 ⊢; exact h1
    · have := h2 e he
      simpa [hb] using this
  have least : ∀ (listed : Array Bool), listed.size = ops.size → Region.ready .any ops listed = [] → ∀ i, i < ops.size → listed.getD i false = true := by
    intro listed hsz hnil i
    induction i using Nat.strongRecOn with
    | _ i ih =>
      intro hi
      cases h : listed.getD i false with
      | true => rfl
      | false =>
        exfalso
        have ho : ops[i]? = some ops[i] := by simp [hi]
        have : i ∈ Region.ready .any ops listed := by
          unfold Region.ready
          rw [List.mem_filter, List.mem_range]
          refine ⟨hi, ?_⟩
          simp only [Bool.and_eq_true, Bool.not_eq_true']
          refine ⟨?_, ?_⟩
          · have hjl : i < listed.size := by omega
            simp only [Array.getD, hjl, dif_pos] at h ⊢; exact h
          · rw [ho]
            simp only [Option.map_some, Option.getD_some, Array.all_eq_true']
            intro e he
            cases hb : Region.binds .any e with
            | false => rfl
            | true =>
              have hlt := T.back i _ ho e he hb
              simpa using ih e.on hlt (by omega)
        rw [hnil] at this
        cases this
  intro fuel
  induction fuel with
  | zero =>
    intro listed a w ρ t hsz hcnt I
    have hall : ∀ i, i < ops.size → listed.getD i false = true := by
      intro i hi
      have h0 : ((List.range ops.size).filter fun i => !listed.getD i false) = [] := List.eq_nil_of_length_eq_zero (by omega)
      rw [List.filter_eq_nil_iff] at h0
      have := h0 i (List.mem_range.2 hi)
      simpa using this
    refine ⟨?_, hQ _ _ (I.done W hall)⟩
    cases hr : Region.ready .any ops listed with
    | nil => rfl
    | cons j js =>
      obtain ⟨o, N⟩ := inready listed hsz j (by rw [hr]; simp)
      have := hall j (Array.getElem?_eq_some_iff.1 N.ho).1
      have h2 : listed.getD j false = false := N.hj
      rw [this] at h2; cases h2
  | succ fuel ih =>
    intro listed a w ρ t hsz hcnt I
    refine ⟨fun hnil => hQ _ _ (I.done W (least listed hsz hnil)), fun j hj => ?_⟩
    obtain ⟨o, N⟩ := inready listed hsz j hj
    have hjn := (Array.getElem?_eq_some_iff.1 N.ho).1
    have hset : (fun i => (listed.setIfInBounds j true).getD i false) = lset (fun i => listed.getD i false) j := by
      funext i
      simp only [lset, Array.getD_eq_getD_getElem?]
      rw [Array.getElem?_setIfInBounds]
      by_cases e : i = j
      · subst e; simp [show i < listed.size from by omega]
      · rw [if_neg (fun e' => e e'.symm), if_neg e]
    refine I.step W N (fun a' w' ρ' t' I' => ih _ a' w' ρ' t' (by simp [hsz]) ?_ (by rw [hset]; exact I'))
    have e1 : ((List.range ops.size).filter fun i => !(listed.setIfInBounds j true).getD i false) = ((List.range ops.size).filter fun i => !listed.getD i false).filter fun i => i != j := by
      rw [List.filter_filter]
      apply List.filter_congr
      intro i _
      have : (listed.setIfInBounds j true).getD i false = lset (fun i => listed.getD i false) j i := congrFun hset i
      rw [this]
      simp only [lset]
      by_cases e : i = j
      · subst e; simp
      · simp [e]
    have e2 : (((List.range ops.size).filter fun i => !listed.getD i false).filter fun i => i != j).length < ((List.range ops.size).filter fun i => !listed.getD i false).length := by
      rw [List.length_filter_lt_length_iff_exists]
      refine ⟨j, ?_, by simp⟩
      rw [List.mem_filter, List.mem_range]
      have : listed.getD j false = false := N.hj
      exact ⟨hjn, by rw [this]; rfl⟩
    rw [e1]; omega
theorem region_any (W : Way T w0 B ρ0 wS) (hm : P.follows .mixedOrders = true) {id : Nat} {Q : Exit → Act → World → Prop} {w : World} (hw : wS = { w with drawn := w.drawn + 1 }) (hA : ActRel P ρ0 (T.s 0).1 a)
    (hQ : ∀ a' w', Post P w0 B G ρ0 (T.s 0).2 wS (T.s ops.size).1 (T.s ops.size).2 a' w' → Q .normal a' w') : (Code.region id ops true).wp P Q a w := by
  refine wp_region_any hm ?_
  rw [← hw]
  refine any_sound W hQ ops.size _ a wS ρ0 0 (by simp) ?_ ?_
  · refine Nat.le_trans (List.length_filter_le _ _) (by simp)
  · have e : (fun i => (Array.replicate ops.size false).getD i false) = fun _ => false := by
      funext i
      rw [Array.getD_eq_getD_getElem?, Array.getElem?_replicate]
      split <;> rfl
    rw [e]
    exact Inv.start W hA
end
def regOK (ops : List Oper) : Bool :=
  let ms := masksOf ops
  ops.zipIdx.all (fun p => p.1.after.toList.all fun e => !Region.binds .any e || decide (e.on < p.2)) &&
  ops.zipIdx.all fun q => (ops.zipIdx.take q.2).all fun p => fb ms p.2 q.2 || (p.1.apart ops.toArray q.1 && !(opK p.1.op == 3 && opK q.1.op == 3))
def lookPairs (ops : List Oper) : List (Nat × Nat) :=
  let ms := masksOf ops
  (ops.zipIdx.filter fun p => opK p.1.op == 2).flatMap fun p => ((ops.zipIdx.filter fun q => opK q.1.op == 3 && !fb ms q.2 p.2 && !fb ms p.2 q.2).map fun q => (p.2, q.2))
def stA (P : Program) (G : List Nat) (call : CallF) (ops : Array Oper) (A : List Value) (H : AH) (i : Nat) : List Value × AH := (aOps P G call ops (ops.toList.take i) A H).getD (A, H)
def lookOK (P : Program) (s : Nat → List Value × AH) (ops : Array Oper) (p : Nat × Nat) : Prop :=
  ∀ o, ops[p.1]? = some o → aRd P (aEv (s p.1).1) o.op (s (if p.2 < p.1 then p.2 else p.2 + 1)).2 = aRd P (aEv (s p.1).1) o.op (s p.1).2
open Classical in
noncomputable def chk {α : Type} (p : Prop) (x : Option α) : Option α := if p then x else none
theorem chk_some {α : Type} {p : Prop} {x : Option α} {r : α} (h : chk p x = some r) : p ∧ x = some r := by
  unfold chk at h
  split at h
  · exact ⟨by assumption, h⟩
  · cases h
theorem chk_true {α : Type} {p : Prop} (h : p) (x : Option α) : chk p x = x := by unfold chk; rw [if_pos h]
noncomputable def aDraw (P : Program) (G : List Nat) (call : CallF) (ops : Array Oper) (A : List Value) (H : AH) : Option (List Value × AH) :=
  match regOK ops.toList with
  | false => none
  | true => match lookPairs ops.toList with
    | [] => aOps P G call ops ops.toList A H
    | p :: ps => chk (∀ q ∈ p :: ps, lookOK P (stA P G call ops A H) ops q) (aOps P G call ops ops.toList A H)
theorem aDraw_some {P : Program} {G : List Nat} {call : CallF} {ops : Array Oper} {A : List Value} {H : AH} {r : List Value × AH} (h : aDraw P G call ops A H = some r) :
    regOK ops.toList = true ∧ (∀ p ∈ lookPairs ops.toList, lookOK P (stA P G call ops A H) ops p) ∧ aOps P G call ops ops.toList A H = some r := by
  unfold aDraw at h
  cases h1 : regOK ops.toList with
  | false => rw [h1] at h; cases h
  | true =>
    rw [h1] at h
    refine ⟨rfl, ?_⟩
    cases h2 : lookPairs ops.toList with
    | nil => rw [h2] at h; exact ⟨fun p hp => (by cases hp), h⟩
    | cons p ps =>
      rw [h2] at h
      exact chk_some h
section
variable {P : Program} {w0 : World} {B : Nat} {ρ : Ren} {H : AH} {w : World} {G : List Nat} {call : CallF} {ops : Array Oper}
theorem aOps_append (l1 l2 : List Oper) (A : List Value) (H : AH) : aOps P G call ops (l1 ++ l2) A H = (aOps P G call ops l1 A H).bind fun s => aOps P G call ops l2 s.1 s.2 := by
  induction l1 generalizing A H with
  | nil => rfl
  | cons o l ih =>
    simp only [List.cons_append, aOps]
    rw [Option.bind_assoc]
    congr 1
    funext s
    exact ih s.1 s.2
theorem stA_take {A : List Value} {r : List Value × AH} (h : aOps P G call ops ops.toList A H = some r) (i : Nat) : aOps P G call ops (ops.toList.take i) A H = some (stA P G call ops A H i) := by
  unfold stA
  have e : ops.toList = ops.toList.take i ++ ops.toList.drop i := (List.take_append_drop ..).symm
  rw [e, aOps_append] at h
  obtain ⟨s, hs, _⟩ := Option.bind_eq_some_iff.1 h
  rw [hs]; rfl
theorem stA_zero (A : List Value) : stA P G call ops A H 0 = (A, H) := rfl
theorem stA_all {A : List Value} {r : List Value × AH} (h : aOps P G call ops ops.toList A H = some r) : stA P G call ops A H ops.size = r := by
  unfold stA
  rw [show ops.size = ops.toList.length by simp, List.take_length, h]
  rfl
theorem stA_step {A : List Value} {r : List Value × AH} (h : aOps P G call ops ops.toList A H = some r) {i : Nat} {o : Oper} (ho : ops[i]? = some o) :
    aStep P G call ops o (stA P G call ops A H i).1 (stA P G call ops A H i).2 = some (stA P G call ops A H (i + 1)) := by
  have ho' : ops.toList[i]? = some o := by simpa using ho
  have h1 := stA_take h (i + 1)
  rw [List.take_add_one, ho', Option.toList_some, aOps_append, stA_take h i] at h1
  simp only [Option.bind_some, aOps] at h1
  obtain ⟨s, hs, e⟩ := Option.bind_eq_some_iff.1 h1
  rw [hs]
  exact e
noncomputable def valA (P : Program) (G : List Nat) (call : CallF) (ops : Array Oper) (A : List Value) (H : AH) (i : Nat) : Value :=
  match ops[i]? with
  | some o => if Region.wanted o (aYield ops (stA P G call ops A H i).1) = true then ((aOp P call (aEv (stA P G call ops A H i).1) o (stA P G call ops A H i).2).map (·.1)).getD undef else undef
  | none => undef
theorem regOK_back (h : regOK ops.toList = true) : ∀ j o, ops[j]? = some o → ∀ e ∈ o.after, Region.binds .any e = true → e.on < j := by
  intro j o ho e he hb
  unfold regOK at h
  simp only [Bool.and_eq_true, List.all_eq_true] at h
  have ho' : ops.toList[j]? = some o := by simpa using ho
  have hm : (o, j) ∈ ops.toList.zipIdx := by
    rw [List.mem_iff_getElem?]
    exact ⟨j, by rw [List.getElem?_zipIdx, ho']; simp⟩
  have := h.1 (o, j) hm e (by simpa using he)
  simpa [hb] using this
theorem regOK_pair (h : regOK ops.toList = true) : ∀ i j oi oj, i < j → ops[i]? = some oi → ops[j]? = some oj → fb (masksOf ops.toList) i j = true ∨ (oi.apart ops oj = true ∧ ¬ (opK oi.op = 3 ∧ opK oj.op = 3)) := by
  intro i j oi oj hij hi hj
  unfold regOK at h
  simp only [Bool.and_eq_true, List.all_eq_true] at h
  have hi' : ops.toList[i]? = some oi := by simpa using hi
  have hj' : ops.toList[j]? = some oj := by simpa using hj
  have hm : (oj, j) ∈ ops.toList.zipIdx := by
    rw [List.mem_iff_getElem?]
    exact ⟨j, by rw [List.getElem?_zipIdx, hj']; simp⟩
  have hm2 : (oi, i) ∈ ops.toList.zipIdx.take j := by
    rw [List.mem_iff_getElem?]
    exact ⟨i, by rw [List.getElem?_take, if_pos hij, List.getElem?_zipIdx, hi']; simp⟩
  have := h.2 (oj, j) hm (oi, i) hm2
  simp only [Bool.or_eq_true, Bool.and_eq_true, Bool.not_eq_true', Bool.and_eq_false_iff, beq_eq_false_iff_ne, Array.toArray_toList] at this
  rcases this with h1 | ⟨h1, h2⟩
  · exact .inl h1
  · exact .inr ⟨h1, fun h3 => by rcases h2 with h2 | h2; exact h2 h3.1; exact h2 h3.2⟩
theorem mem_lookPairs {j e : Nat} {oj oe : Oper} (hj : ops[j]? = some oj) (he : ops[e]? = some oe) (h2 : opK oj.op = 2) (h3 : opK oe.op = 3) (hf1 : fb (masksOf ops.toList) e j = false) (hf2 : fb (masksOf ops.toList) j e = false) : (j, e) ∈ lookPairs ops.toList := by
  have hj' : ops.toList[j]? = some oj := by simpa using hj
  have he' : ops.toList[e]? = some oe := by simpa using he
  unfold lookPairs
  simp only [List.mem_flatMap, List.mem_filter, List.mem_map]
  refine ⟨(oj, j), ⟨?_, by simp [h2]⟩, (oe, e), ⟨?_, by simp [h3, hf1, hf2]⟩, rfl⟩
  · rw [List.mem_iff_getElem?]; exact ⟨j, by rw [List.getElem?_zipIdx, hj']; simp⟩
  · rw [List.mem_iff_getElem?]; exact ⟨e, by rw [List.getElem?_zipIdx, he']; simp⟩
noncomputable def mkTra {A : List Value} {r : List Value × AH} (h : aDraw P G call ops A H = some r) : Tra P G call ops where
  s := stA P G call ops A H
  val := valA P G call ops A H
  step := fun i o ho => by
    obtain ⟨_, _, hr⟩ := aDraw_some h
    have hs := stA_step hr ho
    unfold aStep at hs
    split at hs
    · rename_i hok
      refine ⟨hok, ?_⟩
      unfold valA
      rw [ho]
      simp only
      split at hs
      · rename_i hw
        obtain ⟨⟨v, H2⟩, hv, e⟩ := Option.map_eq_some_iff.1 hs
        rw [if_pos hw, hv, ← e]
        exact ⟨rfl, .inl ⟨hw, rfl⟩⟩
      · rename_i hw
        rw [if_neg hw]
        have e := (Option.some.inj hs).symm
        rw [e]
        exact ⟨rfl, .inr ⟨by simpa using hw, rfl, rfl⟩⟩
    · cases hs
  back := regOK_back (aDraw_some h).1
  pair := regOK_pair (aDraw_some h).1
  look := fun j e oj oe hj he h2 h3 hf1 hf2 => (aDraw_some h).2.1 (j, e) (mem_lookPairs hj he h2 h3 hf1 hf2) oj hj
theorem draw_sound (hcall : CallOK P G call) (hmono : CallMono call) (hm : P.follows .mixedOrders = true) {id : Nat} {Q : Exit → Act → World → Prop} {A : List Value} {a : Act} {A' : List Value} {H' : AH} (h : aDraw P G call ops A H = some (A', H'))
    (hA : ActRel P ρ A a) (hG : GlobRel ρ G) (hR : Rel P w0 B ρ H w) (hQ : ∀ a' w', Post P w0 B G ρ H w A' H' a' w' → Q .normal a' w') : (Code.region id ops true).wp P Q a w := by
  have W : Way (mkTra h) w0 B ρ w.drew := ⟨hcall, hmono, hG, hR.drew, ⟨a, hA⟩⟩
  refine region_any W hm (w := w) rfl hA (fun a' w' hp => hQ a' w' ?_)
  obtain ⟨ρ', h1, h2, h3, h4⟩ := hp
  have e : (mkTra h).s ops.size = (A', H') := stA_all (aDraw_some h).2.2
  rw [e] at h1 h3 h4
  exact ⟨ρ', h1, h2, Ext.of_drew h3, h4⟩
end
inductive AE where
  | normal
  | exit (id : Nat)
  | ret
deriving DecidableEq
abbrev AR := AE × List Value × AH
def aIter (f : List Value → AH → Option AR) : Nat → List Value → AH → Option AR
  | 0, _, _ => none
  | n + 1, A, H => (f A H).bind fun r => match r.1 with
    | .normal => aIter f n r.2.1 r.2.2
    | _ => some r
theorem aIter_mono {f : List Value → AH → Option AR} {n : Nat} {A : List Value} {H : AH} {r : AR} (h : aIter f n A H = some r) : ∀ m, n ≤ m → aIter f m A H = some r := by
  induction n generalizing A H with
  | zero => cases h
  | succ n ih =>
    intro m hm
    obtain ⟨m, rfl⟩ : ∃ k, m = k + 1 := ⟨m - 1, by omega⟩
    simp only [aIter] at h ⊢
    obtain ⟨s, hs, h⟩ := Option.bind_eq_some_iff.1 h
    rw [hs]
    simp only [Option.bind_some]
    split at h
    · exact ih h m (by omega)
    · exact h
open Classical in
noncomputable def aLoop (f : List Value → AH → Option AR) (A : List Value) (H : AH) : Option AR := if h : ∃ n r, aIter f n A H = some r then some h.choose_spec.choose else none
theorem aLoop_iff {f : List Value → AH → Option AR} {A : List Value} {H : AH} {r : AR} : aLoop f A H = some r ↔ ∃ n, aIter f n A H = some r := by
  unfold aLoop
  constructor
  · intro h
    split at h
    · rename_i hx
      cases h
      exact ⟨_, hx.choose_spec.choose_spec⟩
    · cases h
  · rintro ⟨n, hn⟩
    have hx : ∃ n r, aIter f n A H = some r := ⟨n, r, hn⟩
    rw [dif_pos hx]
    have h1 := aIter_mono hx.choose_spec.choose_spec (max n hx.choose) (Nat.le_max_right ..)
    have h2 := aIter_mono hn (max n hx.choose) (Nat.le_max_left ..)
    rw [h2] at h1
    exact h1.symm
theorem aLoop_eq (f : List Value → AH → Option AR) (A : List Value) (H : AH) : aLoop f A H = (f A H).bind fun r => match r.1 with | .normal => aLoop f r.2.1 r.2.2 | _ => some r := by
  apply Option.ext
  intro r
  rw [aLoop_iff]
  constructor
  · rintro ⟨n, hn⟩
    cases n with
    | zero => cases hn
    | succ n =>
      simp only [aIter] at hn
      obtain ⟨s, hs, h⟩ := Option.bind_eq_some_iff.1 hn
      rw [hs]
      simp only [Option.bind_some]
      split at h
      · exact aLoop_iff.2 ⟨n, h⟩
      · exact h
  · intro h
    obtain ⟨s, hs, h⟩ := Option.bind_eq_some_iff.1 h
    split at h
    · rename_i e
      obtain ⟨n, hn⟩ := aLoop_iff.1 h
      refine ⟨n + 1, ?_⟩
      simp only [aIter, hs, Option.bind_some, e]
      exact hn
    · rename_i e
      refine ⟨1, ?_⟩
      simp only [aIter, hs, Option.bind_some]
      exact h
noncomputable def aRegion (P : Program) (G : List Nat) (call : CallF) (ops : Array Oper) (draw : Bool) (A : List Value) (H : AH) : Option (List Value × AH) :=
  match draw with
  | true => aDraw P G call ops A H
  | false => aOps P G call ops ops.toList A H
noncomputable def aCode (P : Program) (G : List Nat) (call : CallF) : Code → List Value → AH → Option AR
  | .skip, A, H => some (.normal, A, H)
  | .label _, A, H => some (.normal, A, H)
  | .region _ ops draw, A, H => (aRegion P G call ops draw A H).map fun s => (.normal, s.1, s.2)
  | .seq x y, A, H => (aCode P G call x A H).bind fun r => match r.1 with
    | .normal => aCode P G call y r.2.1 r.2.2
    | _ => some r
  | .cond c x y, A, H => match aEv A c with
    | .bool true => aCode P G call x A H
    | .bool false => aCode P G call y A H
    | _ => none
  | .block id x, A, H => (aCode P G call x A H).map fun r => match r.1 with
    | .exit i => if i = id then (.normal, r.2.1, r.2.2) else r
    | _ => r
  | .loop x, A, H => aLoop (aCode P G call x) A H
  | .exit id, A, H => some (.exit id, A, H)
  | .ret, A, H => some (.ret, A, H)
  | _, _, _ => none
def AE.to : AE → Exit
  | .normal => .normal
  | .exit id => .exit id
  | .ret => .ret
section
variable {P : Program} {w0 : World} {B : Nat} {G : List Nat} {call : CallF}
theorem Post.trans {ρ ρ1 : Ren} {H H1 H2 : AH} {w w1 w2 : World} {A2 : List Value} {a2 : Act} (hR : Rel P w0 B ρ H w) (hE : Ext ρ H w ρ1 H1 w1) (h : Post P w0 B G ρ1 H1 w1 A2 H2 a2 w2) : Post P w0 B G ρ H w A2 H2 a2 w2 := by
  obtain ⟨ρ', h1, h2, h3, h4⟩ := h
  exact ⟨ρ', h1, h2, hE.trans hR h3, h4⟩
theorem code_sound (hcall : CallOK P G call) (hmono : CallMono call) (hm : P.follows .mixedOrders = true) : ∀ (c : Code) {Q : Exit → Act → World → Prop} {ρ : Ren} {A : List Value} {H : AH} {a : Act} {w : World} {e : AE} {A' : List Value} {H' : AH},
    aCode P G call c A H = some (e, A', H') → ActRel P ρ A a → GlobRel ρ G → Rel P w0 B ρ H w → (∀ a' w', Post P w0 B G ρ H w A' H' a' w' → Q e.to a' w') → c.wp P Q a w := by
  intro c
  induction c with
  | skip =>
    intro Q ρ A H a w e A' H' h hA hG hR hQ
    simp only [aCode] at h; cases h
    exact wp_skip (hQ a w ⟨ρ, hA, hG, Ext.refl _ _ _, hR⟩)
  | label l =>
    intro Q ρ A H a w e A' H' h hA hG hR hQ
    simp only [aCode] at h; cases h
    exact wp_label (hQ a w ⟨ρ, hA, hG, Ext.refl _ _ _, hR⟩)
  | exit id =>
    intro Q ρ A H a w e A' H' h hA hG hR hQ
    simp only [aCode] at h; cases h
    exact wp_exit (hQ a w ⟨ρ, hA, hG, Ext.refl _ _ _, hR⟩)
  | ret =>
    intro Q ρ A H a w e A' H' h hA hG hR hQ
    simp only [aCode] at h; cases h
    exact wp_ret (hQ a w ⟨ρ, hA, hG, Ext.refl _ _ _, hR⟩)
  | region id ops draw =>
    intro Q ρ A H a w e A' H' h hA hG hR hQ
    simp only [aCode] at h
    obtain ⟨⟨A1, H1⟩, hs, e1⟩ := Option.map_eq_some_iff.1 h
    cases e1
    cases draw with
    | true => exact draw_sound hcall hmono hm hs hA hG hR hQ
    | false => exact region_text hcall hs hA hG hR hQ
  | seq x y ihx ihy =>
    intro Q ρ A H a w e A' H' h hA hG hR hQ
    simp only [aCode] at h
    obtain ⟨⟨e1, A1, H1⟩, hx, h⟩ := Option.bind_eq_some_iff.1 h
    refine wp_seq (ihx hx hA hG hR (fun a1 w1 hp => ?_))
    cases e1 with
    | normal =>
      simp only at h
      obtain ⟨ρ1, hA1, hG1, hE1, hR1⟩ := hp
      exact ihy h hA1 hG1 hR1 (fun a' w' hp => hQ a' w' (hp.trans hR hE1))
    | exit id => simp only at h; cases h; exact hQ a1 w1 hp
    | ret => simp only at h; cases h; exact hQ a1 w1 hp
  | cond c x y ihx ihy =>
    intro Q ρ A H a w e A' H' h hA hG hR hQ
    simp only [aCode] at h
    have hc : ∀ t, aEv A c = .bool t → a.eval c = .bool t := by
      intro t ht
      cases c with
      | tmp u =>
        simp only [aEv] at ht
        cases hx : A[u]? with
        | none => rw [hx] at ht; simp [undef] at ht
        | some x =>
          rw [hx] at ht
          simp only [Option.getD_some] at ht
          subst ht
          obtain ⟨y, hy, hv⟩ := hA.tmps.get hx
          rw [Array.getElem?_toList] at hy
          simp only [Act.eval, Array.getD_eq_getD_getElem?, hy, Option.getD_some]
          exact hv.bool_inv
      | const v => exact ht
      | global g => cases ht
      | func f => cases ht
    split at h
    · rename_i ht; exact wp_cond (hc _ ht) (ihx h hA hG hR hQ)
    · rename_i ht; exact wp_cond (hc _ ht) (ihy h hA hG hR hQ)
    · cases h
  | block id x ih =>
    intro Q ρ A H a w e A' H' h hA hG hR hQ
    simp only [aCode] at h
    obtain ⟨⟨e1, A1, H1⟩, hx, e2⟩ := Option.map_eq_some_iff.1 h
    refine wp_block (ih hx hA hG hR (fun a1 w1 hp => ?_))
    cases e1 with
    | normal => simp only at e2; cases e2; exact hQ a1 w1 hp
    | ret => simp only at e2; cases e2; exact hQ a1 w1 hp
    | exit i =>
      simp only at e2
      simp only [AE.to, Exit.inBlock]
      split at e2
      · rename_i hi; cases e2; rw [if_pos hi]; exact hQ a1 w1 hp
      · rename_i hi; cases e2; rw [if_neg hi]; exact hQ a1 w1 hp
  | loop x ih =>
    intro Q ρ A H a w e A' H' h hA hG hR hQ
    simp only [aCode] at h
    obtain ⟨n, hn⟩ := aLoop_iff.1 h
    refine wp_loop_rounds n ?_
    clear h
    induction n generalizing ρ A H a w with
    | zero => cases hn
    | succ n ihn =>
      simp only [aIter] at hn
      obtain ⟨⟨e1, A1, H1⟩, hx, h⟩ := Option.bind_eq_some_iff.1 hn
      rw [rounds_succ]
      refine ih hx hA hG hR (fun a1 w1 hp => ?_)
      cases e1 with
      | normal =>
        simp only at h
        obtain ⟨ρ1, hA1, hG1, hE1, hR1⟩ := hp
        exact ihn hA1 hG1 hR1 (fun a' w' hp => hQ a' w' (hp.trans hR hE1)) h
      | exit id => simp only at h; cases h; exact hQ a1 w1 hp
      | ret => simp only at h; cases h; exact hQ a1 w1 hp
  | rangeFunc f ps x y => intro Q ρ A H a w e A' H' h; simp [aCode] at h
  | scope x => intro Q ρ A H a w e A' H' h; simp [aCode] at h
  | goto l => intro Q ρ A H a w e A' H' h; simp [aCode] at h
  | refuse s => intro Q ρ A H a w e A' H' h; simp [aCode] at h
theorem aOps_mono (hm : CallMono call) {ops : Array Oper} : ∀ (l : List Oper) {A : List Value} {H : AH} {r : List Value × AH}, aOps P G call ops l A H = some r → H.size ≤ r.2.size := by
  intro l
  induction l with
  | nil => intro A H r h; simp only [aOps] at h; cases h; exact Nat.le_refl _
  | cons o l ih =>
    intro A H r h
    simp only [aOps] at h
    obtain ⟨s, hs, h⟩ := Option.bind_eq_some_iff.1 h
    refine Nat.le_trans ?_ (ih h)
    unfold aStep at hs
    split at hs
    · split at hs
      · obtain ⟨⟨v, H2⟩, hv, e⟩ := Option.map_eq_some_iff.1 hs
        cases e; exact aOp_mono hm hv
      · cases hs; exact Nat.le_refl _
    · cases hs
theorem aCode_mono (hm : CallMono call) : ∀ (c : Code) {A : List Value} {H : AH} {r : AR}, aCode P G call c A H = some r → H.size ≤ r.2.2.size := by
  intro c
  induction c with
  | skip => intro A H r h; simp only [aCode] at h; cases h; exact Nat.le_refl _
  | label l => intro A H r h; simp only [aCode] at h; cases h; exact Nat.le_refl _
  | exit id => intro A H r h; simp only [aCode] at h; cases h; exact Nat.le_refl _
  | ret => intro A H r h; simp only [aCode] at h; cases h; exact Nat.le_refl _
  | region id ops draw =>
    intro A H r h
    simp only [aCode] at h
    obtain ⟨s, hs, e1⟩ := Option.map_eq_some_iff.1 h
    cases e1
    cases draw with
    | true => exact aOps_mono hm _ (aDraw_some hs).2.2
    | false => exact aOps_mono hm _ hs
  | seq x y ihx ihy =>
    intro A H r h
    simp only [aCode] at h
    obtain ⟨s, hx, h⟩ := Option.bind_eq_some_iff.1 h
    have h1 := ihx hx
    split at h
    · exact Nat.le_trans h1 (ihy h)
    · cases h; exact h1
  | cond c x y ihx ihy =>
    intro A H r h
    simp only [aCode] at h
    split at h
    · exact ihx h
    · exact ihy h
    · cases h
  | block id x ih =>
    intro A H r h
    simp only [aCode] at h
    obtain ⟨s, hx, e2⟩ := Option.map_eq_some_iff.1 h
    have h1 := ih hx
    split at e2
    · split at e2 <;> (subst e2; exact h1)
    · subst e2; exact h1
  | loop x ih =>
    intro A H r h
    simp only [aCode] at h
    obtain ⟨n, hn⟩ := aLoop_iff.1 h
    clear h
    induction n generalizing A H with
    | zero => cases hn
    | succ n ihn =>
      simp only [aIter] at hn
      obtain ⟨s, hx, h⟩ := Option.bind_eq_some_iff.1 hn
      have h1 := ih hx
      split at h
      · exact Nat.le_trans h1 (ihn h)
      · cases h; exact h1
  | rangeFunc f ps x y => intro A H r h; simp [aCode] at h
  | scope x => intro A H r h; simp [aCode] at h
  | goto l => intro A H r h; simp [aCode] at h
  | refuse s => intro A H r h; simp [aCode] at h
end
def aResult (P : Program) (A : List Value) (H : AH) : ResultVar → Option Value
  | .tmp t => some (A[t]?.getD undef)
  | .cell a t => (aggOf P t).bind fun g => match g with
    | some n => pLdN n (A[a]?.getD undef) H
    | none => pLd1 (A[a]?.getD undef) H
def aMany (P : Program) (A : List Value) (H : AH) : List ResultVar → Option (List Value)
  | [] => some []
  | r :: rs => (aResult P A H r).bind fun v => (aMany P A H rs).bind fun vs => some (v :: vs)
def aResults (P : Program) (A : List Value) (H : AH) (rs : List ResultVar) : Option Value := (aMany P A H rs).map fun vs => match vs with
  | [v] => v
  | vs => .tuple vs.toArray
def aFin (P : Program) (rs : List ResultVar) (r : AR) : Option (Value × AH) :=
  match r.1 with
  | .exit _ => none
  | _ => (aResults P r.2.1 r.2.2 rs).map (·, r.2.2)
noncomputable def aBody (P : Program) (G : List Nat) (call : CallF) (n : Nat) (rs : List ResultVar) (c : Code) (args : List Value) (H : AH) : Option (Value × AH) :=
  (aCode P G call c (args ++ List.replicate (n - args.length) undef) H).bind (aFin P rs)
structure DSh where
  c1 : Code
  id2 : Nat
  ops2 : Array Oper
  om : Oper
  df : Oper
  t : Nat
  k : Nat
  id3 : Nat
  ops3 : Array Oper
def dshape : Code → Option DSh
  | .seq c1 (.seq (.region id2 ops2 false) (.seq (.region id3 ops3 false) .ret)) => match ops2.toList with
    | [mk, df] => match mk.dst, mk.op, mk.guard, df.dst, df.op, df.guard with
      | some t, .makeFunc (.func k) first _, none, none, .defer ⟨.value (.tmp t'), args, _⟩, none => if t = t' ∧ first = #[] ∧ args = #[] then some ⟨c1, id2, ops2, mk, df, t, k, id3, ops3⟩ else none
      | _, _, _, _, _, _ => none
    | _ => none
  | _ => none
theorem dshape_some {c : Code} {s : DSh} (h : dshape c = some s) : c = .seq s.c1 (.seq (.region s.id2 s.ops2 false) (.seq (.region s.id3 s.ops3 false) .ret)) ∧ s.ops2.toList = [s.om, s.df] ∧ s.om.dst = some s.t ∧
    (∃ cap, s.om.op = .makeFunc (.func s.k) #[] cap) ∧ s.om.guard = none ∧ s.df.dst = none ∧ (∃ ats, s.df.op = .defer ⟨.value (.tmp s.t), #[], ats⟩) ∧ s.df.guard = none := by
  unfold dshape at h
  split at h
  · split at h
    · rename_i hl
      split at h
      · rename_i h1 h2 h3 h4 h5 h6
        split at h
        · rename_i hc
          obtain ⟨rfl, rfl, rfl⟩ := hc
          cases h
          exact ⟨rfl, hl, h1, ⟨_, h2⟩, h3, h4, ⟨_, h5⟩, h6⟩
        · cases h
      · cases h
    · cases h
  · cases h
def Harmless (P : Program) (k : Nat) : Prop :=
  (∃ fn, P.funcs[k]? = some fn ∧ fn.body.isSome = true ∧ fn.name ≠ "runtime.NumGoroutine") ∧
  ∀ (args : Array Value) (w : World), CallsD P k args .returning w fun e u' w' => (∃ v, e = .returned v) ∧ u' = .returning ∧ w' = w
noncomputable def aDefer (P : Program) (G : List Nat) (call : CallF) (n : Nat) (rs : List ResultVar) (s : DSh) (args : List Value) (H : AH) : Option (Value × AH) :=
  (aCode P G call s.c1 (args ++ List.replicate (n - args.length) undef) H).bind fun r => match r.1 with
    | .normal => if r.2.1.length ≤ s.t then none else (aStep P G call s.ops2 s.om r.2.1 r.2.2).bind fun q => (aOps P G call s.ops3 s.ops3.toList q.1 q.2).bind fun z => (aResults P z.1 z.2 rs).map (·, z.2)
    | _ => none
noncomputable def aCall (P : Program) (G : List Nat) : Nat → CallF
  | 0 => fun _ _ _ => none
  | d + 1 => fun f args H => match P.funcs[f]? with
    | some fn => if fn.name = "runtime.NumGoroutine" then none else match fn.body with
      | some c => match dshape c with
        | none => aBody P G (aCall P G d) fn.ntmps fn.results.toList c args H
        | some s => chk (Harmless P s.k) (aDefer P G (aCall P G d) fn.ntmps fn.results.toList s args H)
      | none => none
    | none => none
section
variable {P : Program} {w0 : World} {B : Nat} {ρ : Ren} {H : AH} {w : World} {G : List Nat} {call : CallF}
theorem result_run {A : List Value} {a : Act} (hA : ActRel P ρ A a) (hR : Rel P w0 B ρ H w) {r : ResultVar} {v : Value} (h : aResult P A H r = some v) :
    ∃ v', (match r with | .tmp t => pure (a.tmps.getD t undef) | .cell x t => do loadVar t (← asAddr (a.tmps.getD x undef)) : Sem Value).run P w = .ok v' w ∧ VRel P ρ v v' := by
  have slot : ∀ t, VRel P ρ (A[t]?.getD undef) (a.tmps.getD t undef) := fun t => ev_rel (G := []) hA (fun g hg => by simp at hg) (x := .tmp t) rfl
  cases r with
  | tmp t => simp only [aResult] at h; cases h; exact ⟨_, rfl, slot t⟩
  | cell x t =>
    simp only [aResult] at h
    obtain ⟨g, hg, h⟩ := Option.bind_eq_some_iff.1 h
    cases g with
    | none =>
      obtain ⟨a', y', ha, hr, hv⟩ := load1 hR h (slot x)
      refine ⟨y', ?_, hv⟩
      simp only [ha]
      simp [asAddr, loadVar, aggOf_none hg]
      simpa using hr
    | some n =>
      obtain ⟨a', ys, ha, hr, hv⟩ := loadN hR h (slot x)
      obtain ⟨hag, hsz⟩ := aggOf_some hg w
      refine ⟨.agg ys, ?_, hv⟩
      simp only [ha]
      simp [asAddr, loadVar, hag, szOf_run hsz, hr]
theorem many_run {A : List Value} {a : Act} (hA : ActRel P ρ A a) (hR : Rel P w0 B ρ H w) : ∀ {rs : List ResultVar} {vs : List Value}, aMany P A H rs = some vs →
    ∃ vs', (rs.mapM (fun r => (match r with | .tmp t => pure (a.tmps.getD t undef) | .cell x t => do loadVar t (← asAddr (a.tmps.getD x undef)) : Sem Value))).run P w = .ok vs' w ∧ LRel P ρ vs vs' := by
  intro rs
  induction rs with
  | nil => intro vs h; simp only [aMany] at h; cases h; exact ⟨[], rfl, LRel.nil⟩
  | cons r rs ih =>
    intro vs h
    simp only [aMany] at h
    obtain ⟨v, hv, h⟩ := Option.bind_eq_some_iff.1 h
    obtain ⟨vs0, hvs, h⟩ := Option.bind_eq_some_iff.1 h
    cases h
    obtain ⟨v', hr, hv'⟩ := result_run hA hR hv
    obtain ⟨vs', hrs, hvs'⟩ := ih hvs
    refine ⟨v' :: vs', ?_, hvs'.cons hv'⟩
    rw [List.mapM_cons]
    simp only [Sem.run_bind, hr, Result.andThen_ok, hrs, Sem.run_pure]
theorem results_run {A : List Value} {a : Act} (hA : ActRel P ρ A a) (hR : Rel P w0 B ρ H w) {fn : Func} {v : Value} (h : aResults P A H fn.results.toList = some v) :
    ∃ v', (results fn a.tmps).run P w = .ok v' w ∧ VRel P ρ v v' := by
  unfold aResults at h
  obtain ⟨vs, hvs, e⟩ := Option.map_eq_some_iff.1 h
  obtain ⟨vs', hrun, hl⟩ := many_run hA hR hvs
  have hm : ∀ g : ResultVar → Sem Value, (fn.results.mapM g).run P w = ((fn.results.toList.mapM g >>= fun l => pure l.toArray : Sem (Array Value))).run P w := by
    intro g
    rw [Array.mapM_eq_mapM_toList]
    rfl
  have h2 : (results fn a.tmps).run P w = .ok (if h : vs'.toArray.size = 1 then vs'.toArray[0] else .tuple vs'.toArray) w := by
    unfold results
    rw [Sem.run_bind, hm, Sem.run_bind]
    erw [hrun]
    rfl
  refine ⟨_, h2, ?_⟩
  have hlen := hl.1
  split at e
  · rename_i x
    subst e
    match vs', hlen, hl with
    | [y], _, hl => simpa using hl.2 0 _ _ rfl rfl
  · rename_i hne
    subst e
    have : ¬ vs'.toArray.size = 1 := by
      intro h1
      match vs, hlen, hne with
      | [x], _, hne => exact hne x rfl
      | [], hlen, _ => simp at hlen h1; omega
      | x :: y :: zs, hlen, _ => simp at hlen h1; omega
    rw [dif_neg this]
    exact .tuple (by simp [hlen]) (fun i x y hx hy => hl.2 i x y (by simpa using hx) (by simpa using hy))
theorem ops_soundD (hcall : CallOK P G call) {ops : Array Oper} (ds : List Deferred) {Q : Exit → Act → World → Prop} : ∀ (l : List Oper) {ρ : Ren} {A : List Value} {H : AH} {a : Act} {w : World} {A' : List Value} {H' : AH}, aOps P G call ops l A H = some (A', H') →
    ActRel P ρ A a → GlobRel ρ G → Rel P w0 B ρ H w → (∀ a' w', Post P w0 B G ρ H w A' H' a' w' → Q .normal { a' with defers := ds } w') → wpList P ops Q l { a with defers := ds } w := by
  intro l
  induction l with
  | nil =>
    intro ρ A H a w A' H' h hA hG hR hQ
    simp only [aOps] at h
    cases h
    exact hQ a w ⟨ρ, hA, hG, Ext.refl _ _ _, hR⟩
  | cons o rest ih =>
    intro ρ A H a w A' H' h hA hG hR hQ
    simp only [aOps] at h
    obtain ⟨⟨A1, H1⟩, hs, h⟩ := Option.bind_eq_some_iff.1 h
    simp only at h
    unfold aStep at hs
    split at hs
    · rename_i hok
      unfold wpList
      have hwr := wanted_rel hA ops o
      rw [show Region.wanted o (yielded ops ({ a with defers := ds } : Act).tmps) = Region.wanted o (aYield ops A) from hwr]
      split at hs
      · rename_i hw
        rw [if_pos hw]
        obtain ⟨⟨v, H2⟩, ho, e⟩ := Option.map_eq_some_iff.1 hs
        cases e
        have hr := op_reach hcall hA hG hR hok ho
        refine .inl (OpOut.wp (a := { a with defers := ds }) (OpOut.congr hr rfl) (fun v' w' hv => ?_))
        obtain ⟨ρ', hv, hE, hR'⟩ := hv
        have := ih (a := a.put o.dst v') h (put_rel (hA.mono hE.le) o.dst hv) (hG.mono hE.le) hR' (fun a' w'' hp => hQ a' w'' (hp.trans hR hE))
        have e : ({ a.put o.dst v' with defers := ds } : Act) = ({ a with defers := ds } : Act).put o.dst v' := by cases o.dst <;> rfl
        rw [e] at this
        exact this
      · rename_i hw
        rw [if_neg hw]
        cases hs
        have := ih (a := a.put o.dst undef) h (put_rel hA o.dst VRel.undef) hG hR hQ
        have e : ({ a.put o.dst undef with defers := ds } : Act) = ({ a with defers := ds } : Act).put o.dst undef := by cases o.dst <;> rfl
        rw [e] at this
        exact this
    · cases hs
theorem defer_sound (hcall : CallOK P G call) (hmono : CallMono call) (hm : P.follows .mixedOrders = true) {f : Nat} {fn : Func} {c : Code} {s : DSh} (hf : P.funcs[f]? = some fn) (hb : fn.body = some c) (hd : dshape c = some s)
    {args : List Value} {args' : Array Value} {v : Value} {H' : AH} (h : chk (Harmless P s.k) (aDefer P G call fn.ntmps fn.results.toList s args H) = some (v, H'))
    (hA : ActRel P ρ (args ++ List.replicate (fn.ntmps - args.length) undef) { tmps := args' ++ Array.replicate (fn.ntmps - args'.size) undef, defers := [] }) (hG : GlobRel ρ G) (hR : Rel P w0 B ρ H w) :
    Calls P f args' w fun e w' => ∃ v' ρ', e = .returned v' ∧ VRel P ρ' v v' ∧ Ext ρ H w ρ' H' w' ∧ Rel P w0 B ρ' H' w' := by
  obtain ⟨⟨⟨fk, hfk, hbk, hnk⟩, hcd⟩, h⟩ := chk_some h
  obtain ⟨hc, hl2, hdst, ⟨cap, hop⟩, hg, hdd, ⟨ats, hdo⟩, hdg⟩ := dshape_some hd
  unfold aDefer at h
  obtain ⟨⟨e1, A1, H1⟩, h1, h⟩ := Option.bind_eq_some_iff.1 h
  cases e1 with
  | exit i => cases h
  | ret => cases h
  | normal =>
    simp only at h
    split at h
    · cases h
    rename_i hlt
    obtain ⟨⟨A2, H2⟩, h2, h⟩ := Option.bind_eq_some_iff.1 h
    obtain ⟨⟨A3, H3⟩, h3, h⟩ := Option.bind_eq_some_iff.1 h
    obtain ⟨x, hx, e⟩ := Option.map_eq_some_iff.1 h
    cases e
    refine calls_of_wp_defers hf hb ?_
    rw [hc]
    refine wp_seq (code_sound hcall hmono hm s.c1 h1 hA hG hR (fun a1 w1 hp => ?_))
    obtain ⟨ρ1, hA1, hG1, hE1, hR1⟩ := hp
    refine wp_seq (wp_region_list ?_)
    rw [hl2]
    have hd1 : a1.defers = [] := hA1.defers
    unfold aStep at h2
    split at h2
    · rename_i hok
      have hwt : Region.wanted s.om (aYield s.ops2 A1) = true := by simp [Region.wanted, hg]
      rw [if_pos hwt] at h2
      obtain ⟨⟨y, H2'⟩, ho, e⟩ := Option.map_eq_some_iff.1 h2
      cases e
      refine wpList_plain hg (fun K hK => OpOut.wp (op_reach hcall hA1 hG1 hR1 hok ho) (fun v' w2 hv => hK _ _ ?_))
      obtain ⟨ρ2, hv, hE2, hR2⟩ := hv
      have hy : y = .func (.func s.k) #[] (cap.map (aEv A1)) := by
        unfold aOp at ho
        rw [hop] at ho
        simp at ho
        exact ho.1.symm
      rw [hy] at hv
      obtain ⟨f', c', rfl, hf', _⟩ := hv.func_inv
      have hf0 : f' = #[] := by
        have := hf'.1
        simp at this
        exact Array.eq_empty_of_size_eq_zero (by simpa using this.symm)
      subst hf0
      refine wpList_plain hdg (fun K' hK' => ?_)
      have ht : (a1.put s.om.dst (.func (.func s.k) #[] c')).eval (.tmp s.t) = .func (.func s.k) #[] c' := by
        have hsz : s.t < a1.tmps.size := by have := hA1.tmps.1; simp at this; omega
        rw [hdst]
        simp [Act.put, Act.eval, hsz, Array.getD]
      have hrun : (execOp (a1.put s.om.dst (.func (.func s.k) #[] c')).eval s.df).run P w2 = .ok (.defer { target := .fn (.func s.k) c', args := #[] }) w2 := by
        simp [execOp, hdo, resolve, ht, Deferred.ofValue]
      unfold Oper.wp
      rw [hrun, Oper.upon_defer]
      refine hK' _ _ (wpList_nil ?_)
      rw [hdd]
      have hA2 := put_rel (hA1.mono hE2.le) s.om.dst hv
      have hpd : ∀ (a : Act) (d : Option Tmp) (x : Value), (a.put d x).defers = a.defers := by intro a d x; cases d <;> rfl
      have e : ({ a1.put s.om.dst (.func (.func s.k) #[] c') with defers := { target := .fn (.func s.k) c', args := #[] } :: (a1.put s.om.dst (.func (.func s.k) #[] c')).defers } : Act).put none undef
          = { a1.put s.om.dst (.func (.func s.k) #[] c') with defers := [{ target := .fn (.func s.k) c', args := #[] }] } := by
        rw [hpd, hd1]; rfl
      rw [e]
      show (Code.seq (.region s.id3 s.ops3 false) .ret).wp P _ _ _
      rw [hy] at h3
      refine wp_seq (wp_region_list (ops_soundD hcall _ _ h3 hA2 (hG1.mono hE2.le) hR2 (fun a3 w3 hp => ?_)))
      obtain ⟨ρ3, hA3, hG3, hE3, hR3⟩ := hp
      refine wp_ret ?_
      obtain ⟨v3, hr3, hv3⟩ := results_run hA3 hR3 hx
      have hbn : ¬ (fk.body = none) := by intro hb; rw [hb] at hbk; cases hbk
      refine leaves_cons (f := s.k) (args := c') (by simp) (by simp [invoke, callFunc, hfk, hnk, hbn]) (CallsD.mono (hcd _ _) ?_)
      rintro e' u' w' ⟨⟨v0, rfl⟩, rfl, rfl⟩
      exact ⟨v3, hr3, v3, ρ3, rfl, hv3, hE1.trans hR (hE2.trans hR1 hE3), hR3⟩
    · cases h2
theorem aDefer_mono (hm : CallMono call) {n : Nat} {rs : List ResultVar} {s : DSh} {args : List Value} {v : Value} {H' : AH} (h : aDefer P G call n rs s args H = some (v, H')) : H.size ≤ H'.size := by
  unfold aDefer at h
  obtain ⟨⟨e1, A1, H1⟩, h1, h⟩ := Option.bind_eq_some_iff.1 h
  cases e1 with
  | exit i => cases h
  | ret => cases h
  | normal =>
    simp only at h
    split at h
    · cases h
    obtain ⟨⟨A2, H2⟩, h2, h⟩ := Option.bind_eq_some_iff.1 h
    obtain ⟨⟨A3, H3⟩, h3, h⟩ := Option.bind_eq_some_iff.1 h
    obtain ⟨x, hx, e⟩ := Option.map_eq_some_iff.1 h
    cases e
    have g1 := aCode_mono hm _ h1
    have g2 : H1.size ≤ H2.size := aOps_mono (P := P) (G := G) (call := call) hm [s.om] (ops := s.ops2) (A := A1) (H := H1) (r := (A2, H2)) (by simp [aOps, h2])
    have g3 := aOps_mono hm _ h3
    simp only at g1 g3
    exact Nat.le_trans g1 (Nat.le_trans g2 g3)
theorem call_sound (hm : P.follows .mixedOrders = true) : ∀ d, CallOK P G (aCall P G d) ∧ CallMono (aCall P G d) := by
  intro d
  induction d with
  | zero => exact ⟨fun f args H v H' h => (by cases h), fun f args H v H' h => (by cases h)⟩
  | succ d ih =>
    constructor
    · intro f args H v H' h
      simp only [aCall] at h
      cases hf : P.funcs[f]? with
      | none => rw [hf] at h; cases h
      | some fn =>
        rw [hf] at h
        simp only at h
        split at h
        · cases h
        · rename_i hname
          cases hb : fn.body with
          | none => rw [hb] at h; cases h
          | some c =>
            rw [hb] at h
            simp only at h
            refine ⟨⟨fn, rfl, by rw [hb]; rfl, hname⟩, fun w0 B ρ w args' hR hG hargs => ?_⟩
            have hA : ActRel P ρ (args ++ List.replicate (fn.ntmps - args.length) undef) { tmps := args'.toArray ++ Array.replicate (fn.ntmps - args'.toArray.size) undef, defers := [] } := by
              refine ⟨?_, rfl⟩
              simp only [Array.toList_append, Array.toList_replicate, List.size_toArray]
              rw [hargs.1]
              refine hargs.append ⟨rfl, fun i x y hx hy => ?_⟩
              rw [hx] at hy
              cases hy
              rw [List.getElem?_replicate] at hx
              split at hx
              · cases hx; exact VRel.undef
              · cases hx
            cases hd : dshape c with
            | some s => rw [hd] at h; exact defer_sound ih.1 ih.2 hm hf hb hd h hA hG hR
            | none =>
            rw [hd] at h
            simp only [aBody] at h
            obtain ⟨⟨e, A', H2⟩, hc, h⟩ := Option.bind_eq_some_iff.1 h
            refine calls_of_wp hf hb ?_
            refine code_sound ih.1 ih.2 hm c hc hA hG hR (fun a' w' hp => ?_)
            obtain ⟨ρ', hA', hG', hE, hR'⟩ := hp
            have fin : ∀ {x : Value} {H3 : AH}, (aResults P A' H2 fn.results.toList).map (·, H2) = some (x, H3) → a'.defers = [] ∧ ∃ v', (results fn a'.tmps).run P w' = .ok v' w' ∧ ∃ v'' ρ'', Ending.returned v' = .returned v'' ∧ VRel P ρ'' x v'' ∧ Ext ρ H w ρ'' H3 w' ∧ Rel P w0 B ρ'' H3 w' := by
              intro x H3 hx
              obtain ⟨y, hy, e⟩ := Option.map_eq_some_iff.1 hx
              cases e
              obtain ⟨v', hr, hv⟩ := results_run hA' hR' hy
              exact ⟨hA'.defers, v', hr, v', ρ', rfl, hv, hE, hR'⟩
            cases e with
            | normal => exact fin h
            | ret => exact fin h
            | exit i => cases h
    · intro f args H v H' h
      simp only [aCall] at h
      cases hf : P.funcs[f]? with
      | none => rw [hf] at h; cases h
      | some fn =>
        rw [hf] at h
        simp only at h
        split at h
        · cases h
        · cases hb : fn.body with
          | none => rw [hb] at h; cases h
          | some c =>
            rw [hb] at h
            simp only [aBody] at h
            cases hd : dshape c with
            | some s =>
              rw [hd] at h
              obtain ⟨_, h⟩ := chk_some h
              exact aDefer_mono ih.2 h
            | none =>
            rw [hd] at h
            simp only at h
            obtain ⟨⟨e, A', H2⟩, hc, h⟩ := Option.bind_eq_some_iff.1 h
            have h1 := aCode_mono ih.2 c hc
            unfold aFin at h
            split at h
            · cases h
            · obtain ⟨y, hy, e⟩ := Option.map_eq_some_iff.1 h
              cases e; exact h1
end
def CLe (c1 c2 : CallF) : Prop := ∀ f args H r, c1 f args H = some r → c2 f args H = some r
section
variable {P : Program} {G : List Nat} {c1 c2 : CallF}
theorem aOp_le (h : CLe c1 c2) {ev : Operand → Value} {o : Oper} {H : AH} {r : Value × AH} (hr : aOp P c1 ev o H = some r) : aOp P c2 ev o H = some r := by
  obtain ⟨dst, op, type, pos, after, guard⟩ := o
  cases op with
  | call c =>
    obtain ⟨callee, args, ats⟩ := c
    cases callee with
    | value f =>
      simp only [aOp] at hr ⊢
      obtain ⟨x, hx, hr⟩ := Option.bind_eq_some_iff.1 hr
      rw [hx]
      exact h _ _ _ _ hr
    | invoke r m => exact hr
    | builtin b => exact hr
  | makeMap t r => cases r <;> exact hr
  | slice t x lo hi mx => cases lo <;> cases hi <;> cases mx <;> exact hr
  | _ => exact hr
theorem aStep_le (h : CLe c1 c2) {ops : Array Oper} {o : Oper} {A : List Value} {H : AH} {r : List Value × AH} (hr : aStep P G c1 ops o A H = some r) : aStep P G c2 ops o A H = some r := by
  unfold aStep at hr ⊢
  split at hr
  · rename_i hok
    rw [if_pos hok]
    split at hr
    · rename_i hw
      rw [if_pos hw]
      obtain ⟨x, hx, e⟩ := Option.map_eq_some_iff.1 hr
      rw [aOp_le h hx]
      exact congrArg some e
    · rename_i hw
      rw [if_neg hw]
      exact hr
  · cases hr
theorem aOps_le (h : CLe c1 c2) {ops : Array Oper} : ∀ (l : List Oper) {A : List Value} {H : AH} {r : List Value × AH}, aOps P G c1 ops l A H = some r → aOps P G c2 ops l A H = some r := by
  intro l
  induction l with
  | nil => intro A H r hr; exact hr
  | cons o l ih =>
    intro A H r hr
    simp only [aOps] at hr ⊢
    obtain ⟨s, hs, hr⟩ := Option.bind_eq_some_iff.1 hr
    rw [aStep_le h hs]
    exact ih hr
theorem stA_le (h : CLe c1 c2) {ops : Array Oper} {A : List Value} {H : AH} {r : List Value × AH} (hr : aOps P G c1 ops ops.toList A H = some r) : stA P G c2 ops A H = stA P G c1 ops A H := by
  funext i
  have h1 := aOps_le h _ (stA_take hr i)
  unfold stA at h1 ⊢
  rw [h1]; rfl
theorem aDraw_le (h : CLe c1 c2) {ops : Array Oper} {A : List Value} {H : AH} {r : List Value × AH} (hr : aDraw P G c1 ops A H = some r) : aDraw P G c2 ops A H = some r := by
  obtain ⟨h1, h2, h3⟩ := aDraw_some hr
  unfold aDraw
  rw [h1]
  simp only
  cases h4 : lookPairs ops.toList with
  | nil => exact aOps_le h _ h3
  | cons p ps =>
    simp only
    rw [chk_true ?_]
    · exact aOps_le h _ h3
    · rw [stA_le h h3, ← h4]; exact h2
theorem aCode_le (h : CLe c1 c2) : ∀ (c : Code) {A : List Value} {H : AH} {r : AR}, aCode P G c1 c A H = some r → aCode P G c2 c A H = some r := by
  intro c
  induction c with
  | region id ops draw =>
    intro A H r hr
    simp only [aCode] at hr ⊢
    obtain ⟨s, hs, e1⟩ := Option.map_eq_some_iff.1 hr
    have : aRegion P G c2 ops draw A H = some s := by
      cases draw with
      | true => exact aDraw_le h hs
      | false => exact aOps_le h _ hs
    rw [this]; exact congrArg some e1
  | seq x y ihx ihy =>
    intro A H r hr
    simp only [aCode] at hr ⊢
    obtain ⟨s, hx, hr⟩ := Option.bind_eq_some_iff.1 hr
    rw [ihx hx]
    simp only [Option.bind_some]
    split at hr
    · exact ihy hr
    · exact hr
  | cond c x y ihx ihy =>
    intro A H r hr
    simp only [aCode] at hr ⊢
    split at hr
    · exact ihx hr
    · exact ihy hr
    · cases hr
  | block id x ih =>
    intro A H r hr
    simp only [aCode] at hr ⊢
    obtain ⟨s, hx, e2⟩ := Option.map_eq_some_iff.1 hr
    rw [ih hx]; exact congrArg some e2
  | loop x ih =>
    intro A H r hr
    simp only [aCode] at hr ⊢
    obtain ⟨n, hn⟩ := aLoop_iff.1 hr
    refine aLoop_iff.2 ⟨n, ?_⟩
    clear hr
    induction n generalizing A H with
    | zero => cases hn
    | succ n ihn =>
      simp only [aIter] at hn ⊢
      obtain ⟨s, hx, hr⟩ := Option.bind_eq_some_iff.1 hn
      rw [ih hx]
      simp only [Option.bind_some]
      split at hr
      · exact ihn hr
      · exact hr
  | _ => intro A H r hr; exact hr
theorem aBody_le (h : CLe c1 c2) {n : Nat} {rs : List ResultVar} {c : Code} {args : List Value} {H : AH} {r : Value × AH} (hr : aBody P G c1 n rs c args H = some r) : aBody P G c2 n rs c args H = some r := by
  unfold aBody at hr ⊢
  obtain ⟨s, hs, hr⟩ := Option.bind_eq_some_iff.1 hr
  rw [aCode_le h _ hs]
  exact hr
theorem aDefer_le (h : CLe c1 c2) {n : Nat} {rs : List ResultVar} {s : DSh} {args : List Value} {H : AH} {r : Value × AH} (hr : aDefer P G c1 n rs s args H = some r) : aDefer P G c2 n rs s args H = some r := by
  unfold aDefer at hr ⊢
  obtain ⟨⟨e1, A1, H1⟩, h1, hr⟩ := Option.bind_eq_some_iff.1 hr
  rw [aCode_le h _ h1]
  simp only [Option.bind_some]
  cases e1 with
  | exit i => exact hr
  | ret => exact hr
  | normal =>
    simp only at hr ⊢
    split at hr
    · cases hr
    rename_i hlt
    rw [if_neg hlt]
    obtain ⟨q, h2, hr⟩ := Option.bind_eq_some_iff.1 hr
    obtain ⟨z, h3, hr⟩ := Option.bind_eq_some_iff.1 hr
    rw [aStep_le h h2]
    simp only [Option.bind_some]
    rw [aOps_le h _ h3]
    exact hr
theorem aCall_succ : ∀ d, CLe (aCall P G d) (aCall P G (d + 1)) := by
  intro d
  induction d with
  | zero => intro f args H r h; cases h
  | succ d ih =>
    intro f args H r h
    rw [aCall] at h ⊢
    simp only [] at h ⊢
    cases hf : P.funcs[f]? with
    | none => rw [hf] at h; cases h
    | some fn =>
      rw [hf] at h
      simp only at h ⊢
      split at h
      · cases h
      · rename_i hn
        rw [if_neg hn]
        cases hb : fn.body with
        | none => rw [hb] at h; cases h
        | some c =>
          rw [hb] at h
          simp only at h ⊢
          cases hd : dshape c with
          | none => rw [hd] at h; exact aBody_le ih h
          | some s =>
            rw [hd] at h
            obtain ⟨h1, h2⟩ := chk_some h
            simp only
            rw [chk_true h1]
            exact aDefer_le ih h2
theorem aCall_le {d e : Nat} (h : d ≤ e) : CLe (aCall P G d) (aCall P G e) := by
  induction e with
  | zero => rw [show d = 0 from by omega]; exact fun _ _ _ _ h => h
  | succ e ih =>
    by_cases hd : d = e + 1
    · rw [hd]; exact fun _ _ _ _ h => h
    · exact fun f args H r hr => aCall_succ e f args H r (ih (by omega) f args H r hr)
open Classical in
noncomputable def aF (P : Program) (G : List Nat) : CallF := fun f args H => if h : ∃ d r, aCall P G d f args H = some r then some h.choose_spec.choose else none
theorem aF_iff {f : Nat} {args : List Value} {H : AH} {r : Value × AH} : aF P G f args H = some r ↔ ∃ d, aCall P G d f args H = some r := by
  unfold aF
  constructor
  · intro h
    split at h
    · rename_i hx
      cases h
      exact ⟨_, hx.choose_spec.choose_spec⟩
    · cases h
  · rintro ⟨n, hn⟩
    have hx : ∃ d r, aCall P G d f args H = some r := ⟨n, r, hn⟩
    rw [dif_pos hx]
    have h1 := aCall_le (Nat.le_max_right n hx.choose) _ _ _ _ hx.choose_spec.choose_spec
    have h2 := aCall_le (Nat.le_max_left n hx.choose) _ _ _ _ hn
    rw [h2] at h1
    exact h1.symm
theorem aF_ok (hm : P.follows .mixedOrders = true) : CallOK P G (aF P G) ∧ CallMono (aF P G) := by
  constructor
  · intro f args H v H' h
    obtain ⟨d, hd⟩ := aF_iff.1 h
    exact (call_sound hm d).1 f args H v H' hd
  · intro f args H v H' h
    obtain ⟨d, hd⟩ := aF_iff.1 h
    exact (call_sound hm d).2 f args H v H' hd
theorem aOp_fin {ev : Operand → Value} {o : Oper} {H : AH} {r : Value × AH} (h : aOp P (aF P G) ev o H = some r) : ∃ d, aOp P (aCall P G d) ev o H = some r := by
  obtain ⟨dst, op, type, pos, after, guard⟩ := o
  cases op with
  | call c =>
    obtain ⟨callee, args, ats⟩ := c
    cases callee with
    | value f =>
      simp only [aOp] at h ⊢
      obtain ⟨x, hx, h⟩ := Option.bind_eq_some_iff.1 h
      obtain ⟨d, hd⟩ := aF_iff.1 h
      exact ⟨d, by rw [hx]; exact hd⟩
    | invoke r m => exact ⟨0, h⟩
    | builtin b => exact ⟨0, h⟩
  | makeMap t r => cases r <;> exact ⟨0, h⟩
  | slice t x lo hi mx => cases lo <;> cases hi <;> cases mx <;> exact ⟨0, h⟩
  | _ => exact ⟨0, h⟩
theorem aOps_fin {ops : Array Oper} : ∀ (l : List Oper) {A : List Value} {H : AH} {r : List Value × AH}, aOps P G (aF P G) ops l A H = some r → ∃ d, aOps P G (aCall P G d) ops l A H = some r := by
  intro l
  induction l with
  | nil => intro A H r hr; exact ⟨0, hr⟩
  | cons o l ih =>
    intro A H r hr
    simp only [aOps] at hr ⊢
    obtain ⟨s, hs, hr⟩ := Option.bind_eq_some_iff.1 hr
    obtain ⟨d2, h2⟩ := ih hr
    have h1 : ∃ d, aStep P G (aCall P G d) ops o A H = some s := by
      unfold aStep at hs ⊢
      split at hs
      · rename_i hok
        split at hs
        · rename_i hw
          obtain ⟨x, hx, e⟩ := Option.map_eq_some_iff.1 hs
          obtain ⟨d, hd⟩ := aOp_fin hx
          exact ⟨d, by rw [if_pos hok, if_pos hw, hd]; exact congrArg some e⟩
        · rename_i hw
          exact ⟨0, by rw [if_pos hok, if_neg hw]; exact hs⟩
      · cases hs
    obtain ⟨d1, h1⟩ := h1
    refine ⟨max d1 d2, ?_⟩
    rw [aStep_le (aCall_le (Nat.le_max_left ..)) h1]
    exact aOps_le (aCall_le (Nat.le_max_right ..)) _ h2
theorem aCall_F (d : Nat) : CLe (aCall P G d) (aF P G) := fun _ _ _ _ h => aF_iff.2 ⟨d, h⟩
theorem aRegion_fin {ops : Array Oper} {draw : Bool} {A : List Value} {H : AH} {r : List Value × AH} (h : aRegion P G (aF P G) ops draw A H = some r) : ∃ d, aRegion P G (aCall P G d) ops draw A H = some r := by
  cases draw with
  | false => exact aOps_fin _ h
  | true =>
    simp only [aRegion] at h ⊢
    obtain ⟨h1, h2, h3⟩ := aDraw_some h
    obtain ⟨d, hd⟩ := aOps_fin _ h3
    refine ⟨d, ?_⟩
    unfold aDraw
    rw [h1]
    simp only
    cases h4 : lookPairs ops.toList with
    | nil => exact hd
    | cons p ps =>
      simp only
      rw [chk_true ?_]
      · exact hd
      · rw [← stA_le (aCall_F d) hd, ← h4]; exact h2
theorem aCode_fin : ∀ (c : Code) {A : List Value} {H : AH} {r : AR}, aCode P G (aF P G) c A H = some r → ∃ d, aCode P G (aCall P G d) c A H = some r := by
  intro c
  induction c with
  | region id ops draw =>
    intro A H r hr
    simp only [aCode] at hr ⊢
    obtain ⟨s, hs, e1⟩ := Option.map_eq_some_iff.1 hr
    obtain ⟨d, hd⟩ := aRegion_fin hs
    exact ⟨d, by rw [hd]; exact congrArg some e1⟩
  | seq x y ihx ihy =>
    intro A H r hr
    simp only [aCode] at hr ⊢
    obtain ⟨s, hx, hr⟩ := Option.bind_eq_some_iff.1 hr
    obtain ⟨d1, h1⟩ := ihx hx
    split at hr
    · rename_i e
      obtain ⟨d2, h2⟩ := ihy hr
      refine ⟨max d1 d2, ?_⟩
      rw [aCode_le (aCall_le (Nat.le_max_left ..)) _ h1]
      simp only [Option.bind_some, e]
      exact aCode_le (aCall_le (Nat.le_max_right ..)) _ h2
    · refine ⟨d1, ?_⟩
      rw [h1]
      simp only [Option.bind_some]
      exact hr
  | cond c x y ihx ihy =>
    intro A H r hr
    simp only [aCode] at hr ⊢
    split at hr
    · exact ihx hr
    · exact ihy hr
    · cases hr
  | block id x ih =>
    intro A H r hr
    simp only [aCode] at hr ⊢
    obtain ⟨s, hx, e2⟩ := Option.map_eq_some_iff.1 hr
    obtain ⟨d, hd⟩ := ih hx
    exact ⟨d, by rw [hd]; exact congrArg some e2⟩
  | loop x ih =>
    intro A H r hr
    simp only [aCode] at hr ⊢
    obtain ⟨n, hn⟩ := aLoop_iff.1 hr
    have key : ∃ d, aIter (aCode P G (aCall P G d) x) n A H = some r := by
      clear hr
      induction n generalizing A H with
      | zero => cases hn
      | succ n ihn =>
        simp only [aIter] at hn ⊢
        obtain ⟨s, hx, hr⟩ := Option.bind_eq_some_iff.1 hn
        obtain ⟨d1, h1⟩ := ih hx
        split at hr
        · rename_i e
          obtain ⟨d2, h2⟩ := ihn hr
          refine ⟨max d1 d2, ?_⟩
          rw [aCode_le (aCall_le (Nat.le_max_left ..)) _ h1]
          simp only [Option.bind_some, e]
          have key2 : ∀ (n : Nat) {A : List Value} {H : AH} {r : AR}, aIter (aCode P G (aCall P G d2) x) n A H = some r → aIter (aCode P G (aCall P G (max d1 d2)) x) n A H = some r := by
            intro n
            induction n with
            | zero => intro A H r h; cases h
            | succ n ih2 =>
              intro A H r h
              simp only [aIter] at h ⊢
              obtain ⟨s, hx, hr⟩ := Option.bind_eq_some_iff.1 h
              rw [aCode_le (aCall_le (Nat.le_max_right d1 d2)) _ hx]
              simp only [Option.bind_some]
              split at hr
              · exact ih2 hr
              · exact hr
          exact key2 n h2
        · refine ⟨d1, ?_⟩
          rw [h1]
          simp only [Option.bind_some]
          exact hr
    obtain ⟨d, hd⟩ := key
    exact ⟨d, aLoop_iff.2 ⟨n, hd⟩⟩
  | _ => intro A H r hr; exact ⟨0, hr⟩
theorem aF_of {f : Nat} {fn : Func} {c : Code} (hf : P.funcs[f]? = some fn) (hb : fn.body = some c) (hn : fn.name ≠ "runtime.NumGoroutine") (hds : dshape c = none) {args : List Value} {H : AH} {r : Value × AH}
    (h : aBody P G (aF P G) fn.ntmps fn.results.toList c args H = some r) : aF P G f args H = some r := by
  unfold aBody at h
  obtain ⟨s, hs, h⟩ := Option.bind_eq_some_iff.1 h
  obtain ⟨d, hd⟩ := aCode_fin _ hs
  refine aF_iff.2 ⟨d + 1, ?_⟩
  simp only [aCall, hf, hb, if_neg hn, hds, aBody, hd, Option.bind_some]
  exact h
end
section
variable {R : Type}
abbrev tb {α β : Type} (x : Option α) (f : α → Option β) : Option β :=
  match x with
  | some a => f a
  | none => none
theorem tb_eq {α β : Type} (x : Option α) (f : α → Option β) : tb x f = x.bind f := by cases x <;> rfl
abbrev cBuiltin0 (P : Program) (b : Builtin) (argTypes : Array TypeId) (args : List Value) (H : AH) (k : Value → AH → Option R) : Option R :=
  match b, args with
  | .len, [x] => match (argTypes[0]?).bind fun t => P.underlying t with
    | some (.slice _) => match x with | .slice _ n _ => k (.int .i64 n) H | _ => none
    | some .string => match x with | .string s => k (.int .i64 s.size) H | _ => none
    | some (.map _ _) => (pLenM x H).bind fun v => k v H
    | _ => none
  | .max, args => (pMax args).bind fun v => k v H
  | .min, args => (pMin args).bind fun v => k v H
  | .append, [s, x] => (argTypes[0]?).bind fun t => (elemOf' P t).bind fun el => (szOf P el).bind fun e => (bytesOf' P el).bind fun by' => (zeroOf P el).bind fun z =>
      if z.cells.size = e ∧ (argTypes[1]?).bind (fun u => elemOf' P u) = some el then (pApp e by' s x H).bind fun r => k r.1 r.2 else none
  | .delete, [m, key] => (argTypes[0]?).bind fun t => (mapTypes P t).bind fun kt => (flatKey P kt.1).bind fun fl => (pDelete fl m key H).bind fun H' => k (.tuple #[]) H'
  | _, _ => none
abbrev cOp0 (P : Program) (call : CallF) (ev : Operand → Value) (o : Oper) (H : AH) (k : Value → AH → Option R) : Option R :=
  match o.op with
  | .move x => k (ev x) H
  | .assign x => k (ev x) H
  | .pick c a b => (pPick (ev c) (ev a) (ev b)).bind fun v => k v H
  | .alloc t => (zeroOf P t).bind fun z => k (.pointer (some ⟨H.size, 0, none⟩)) (H.push (.cells false z.cells.toList))
  | .box _ x => k (.pointer (some ⟨H.size, 0, none⟩)) (H.push (.cells false (ev x).cells.toList))
  | .build t parts => match P.underlying t with
    | some (.struct fs) => (zeroOf P t).bind fun z => (placesOf P fs.toList).bind fun ps => (pFill (ps[·]?) z.cells.toList (parts.toList.map fun p => (p.1, ev p.2))).bind fun cs => k (.agg cs.toArray) H
    | some (.array _ el) => (zeroOf P t).bind fun z => (szOf P el).bind fun e => (pFill (fun i => some (i * e, e)) z.cells.toList (parts.toList.map fun p => (p.1, ev p.2))).bind fun cs => k (.agg cs.toArray) H
    | _ => none
  | .buildSlice t len parts => (elemOf' P t).bind fun el => (szOf P el).bind fun e => (zeroOf P el).bind fun z =>
      if 0 < e ∧ z.cells.size = e ∧ len * e ≤ 2 ^ 24 then
        (pFill (fun i => some (i * e, e)) (List.replicate len z.cells.toList).flatten (parts.toList.map fun p => (p.1, ev p.2))).bind fun cs => k (.slice (some ⟨H.size, 0, none⟩) len e) (H.push (.cells false cs))
      else none
  | .load t a => (aggOf P t).bind fun g => match g with
    | some n => (pLdN n (ev a) H).bind fun v => k v H
    | none => (pLd1 (ev a) H).bind fun v => k v H
  | .store t a x => (szOf P t).bind fun n => (pSt n (ev a) (ev x) H).bind fun H' => k undef H'
  | .nilCheck x => (pNil (ev x)).bind fun v => k v H
  | .binOp op t x y _ => (pBin (clsOf P t) op (ev x) (ev y)).bind fun v => k v H
  | .unOp op _ x => (pUn op (ev x)).bind fun v => k v H
  | .convert src dst x => match P.underlying src with
    | some _ => (pConv (kindOf P dst) (ev x)).bind fun v => k v H
    | none => none
  | .makeFunc fn first captured => k (.func fn (first.map ev) (captured.map ev)) H
  | .makeMap _ none => k (.map (some H.size)) (H.push (.map [] 0))
  | .makeSlice t l c => (elemOf' P t).bind fun el => (szOf P el).bind fun e => (bytesOf' P el).bind fun by' => (zeroOf P el).bind fun z => (pMake z.cells.toList e by' (ev l) (ev c) H).bind fun r => k r.1 r.2
  | .slice t x lo hi none => (elemOf' P t).bind fun el => (szOf P el).bind fun e => (pSlice e (ev x) (lo.map ev) (hi.map ev)).bind fun v => k v H
  | .slice t x none (some hi) (some mx) => (elemOf' P t).bind fun el => (szOf P el).bind fun _ => (pSlice0 (ev x) (ev hi) (ev mx)).bind fun v => k v H
  | .fieldAddr s x f => (fieldOf P s f).bind fun f => (szOf P f.type).bind fun n => if n = 0 then none else (pFld f.offset (ev x)).bind fun v => k v H
  | .field s x f => (fieldOf P s f).bind fun f => (aggOf P f.type).bind fun n => (pPart n f.offset (ev x)).bind fun v => k v H
  | .indexAddr t x i => match P.underlying t with
    | some (.slice el) => (szOf P el).bind fun e => (pIdx e (ev x) (ev i)).bind fun v => k v H
    | some (.array len el) => (szOf P el).bind fun e => (pIdxA len e (ev x) (ev i)).bind fun v => k v H
    | _ => none
  | .index t x i => match P.underlying t with
    | some (.array len el) => (szOf P el).bind fun e => (aggOf P el).bind fun n => (pIndexV len n e (ev x) (ev i)).bind fun v => k v H
    | some .string => (pIndexS (ev x) (ev i)).bind fun v => k v H
    | _ => none
  | .lookup t m key ok => (mapTypes P t).bind fun kt => (flatKey P kt.1).bind fun fl => (zeroOf P kt.2).bind fun z => (pLookup fl z (ev m) (ev key) ok H).bind fun v => k v H
  | .mapUpdate t m key x => (mapTypes P t).bind fun kt => (flatKey P kt.1).bind fun fl => (pUpdate fl (ev m) (ev key) (ev x) H).bind fun H' => k undef H'
  | .extract t i => (pExtract (ev t) i).bind fun v => k v H
  | .call c => match c.callee with
    | .builtin b => cBuiltin0 P b c.argTypes (c.args.toList.map ev) H k
    | .value f => (pCallee (ev f) (c.args.toList.map ev)).bind fun fa => (call fa.1 fa.2 H).bind fun r => k r.1 r.2
    | _ => none
  | _ => none
abbrev cBuiltin (P : Program) (b : Builtin) (argTypes : Array TypeId) (args : List Value) (H : AH) (k : Value → AH → Option R) : Option R :=
  match b, args with
  | .len, [x] => match (argTypes[0]?).bind fun t => P.underlying t with
    | some (.slice _) => match x with | .slice _ n _ => k (.int .i64 n) H | _ => none
    | some .string => match x with | .string s => k (.int .i64 s.size) H | _ => none
    | some (.map _ _) => (pLenM x H).bind fun v => k v H
    | _ => none
  | .max, args => (pMax args).bind fun v => k v H
  | .min, args => (pMin args).bind fun v => k v H
  | .append, [s, x] => tb (argTypes[0]?) fun t => tb (elemOf' P t) fun el => tb (szOf P el) fun e => tb (bytesOf' P el) fun by' => tb (zeroOf P el) fun z =>
      if z.cells.size = e ∧ (argTypes[1]?).bind (fun u => elemOf' P u) = some el then (pApp e by' s x H).bind fun r => k r.1 r.2 else none
  | .delete, [m, key] => tb (argTypes[0]?) fun t => tb (mapTypes P t) fun kt => tb (flatKey P kt.1) fun fl => (pDelete fl m key H).bind fun H' => k (.tuple #[]) H'
  | _, _ => none
abbrev cOp (P : Program) (call : CallF) (ev : Operand → Value) (o : Oper) (H : AH) (k : Value → AH → Option R) : Option R :=
  match o.op with
  | .move x => k (ev x) H
  | .assign x => k (ev x) H
  | .pick c a b => (pPick (ev c) (ev a) (ev b)).bind fun v => k v H
  | .alloc t => tb (zeroOf P t) fun z => k (.pointer (some ⟨H.size, 0, none⟩)) (H.push (.cells false z.cells.toList))
  | .box _ x => k (.pointer (some ⟨H.size, 0, none⟩)) (H.push (.cells false (ev x).cells.toList))
  | .build t parts => match P.underlying t with
    | some (.struct fs) => tb (zeroOf P t) fun z => tb (placesOf P fs.toList) fun ps => (pFill (ps[·]?) z.cells.toList (parts.toList.map fun p => (p.1, ev p.2))).bind fun cs => k (.agg cs.toArray) H
    | some (.array _ el) => tb (zeroOf P t) fun z => tb (szOf P el) fun e => (pFill (fun i => some (i * e, e)) z.cells.toList (parts.toList.map fun p => (p.1, ev p.2))).bind fun cs => k (.agg cs.toArray) H
    | _ => none
  | .buildSlice t len parts => tb (elemOf' P t) fun el => tb (szOf P el) fun e => tb (zeroOf P el) fun z =>
      if 0 < e ∧ z.cells.size = e ∧ len * e ≤ 2 ^ 24 then
        (pFill (fun i => some (i * e, e)) (List.replicate len z.cells.toList).flatten (parts.toList.map fun p => (p.1, ev p.2))).bind fun cs => k (.slice (some ⟨H.size, 0, none⟩) len e) (H.push (.cells false cs))
      else none
  | .load t a => tb (aggOf P t) fun g => match g with
    | some n => (pLdN n (ev a) H).bind fun v => k v H
    | none => (pLd1 (ev a) H).bind fun v => k v H
  | .store t a x => tb (szOf P t) fun n => (pSt n (ev a) (ev x) H).bind fun H' => k undef H'
  | .nilCheck x => (pNil (ev x)).bind fun v => k v H
  | .binOp op t x y _ => (pBin (clsOf P t) op (ev x) (ev y)).bind fun v => k v H
  | .unOp op _ x => (pUn op (ev x)).bind fun v => k v H
  | .convert src dst x => match P.underlying src with
    | some _ => (pConv (kindOf P dst) (ev x)).bind fun v => k v H
    | none => none
  | .makeFunc fn first captured => k (.func fn (first.map ev) (captured.map ev)) H
  | .makeMap _ none => k (.map (some H.size)) (H.push (.map [] 0))
  | .makeSlice t l c => tb (elemOf' P t) fun el => tb (szOf P el) fun e => tb (bytesOf' P el) fun by' => tb (zeroOf P el) fun z => (pMake z.cells.toList e by' (ev l) (ev c) H).bind fun r => k r.1 r.2
  | .slice t x lo hi none => tb (elemOf' P t) fun el => tb (szOf P el) fun e => (pSlice e (ev x) (lo.map ev) (hi.map ev)).bind fun v => k v H
  | .slice t x none (some hi) (some mx) => tb (elemOf' P t) fun el => tb (szOf P el) fun _ => (pSlice0 (ev x) (ev hi) (ev mx)).bind fun v => k v H
  | .fieldAddr s x f => tb (fieldOf P s f) fun f => tb (szOf P f.type) fun n => if n = 0 then none else (pFld f.offset (ev x)).bind fun v => k v H
  | .field s x f => tb (fieldOf P s f) fun f => tb (aggOf P f.type) fun n => (pPart n f.offset (ev x)).bind fun v => k v H
  | .indexAddr t x i => match P.underlying t with
    | some (.slice el) => tb (szOf P el) fun e => (pIdx e (ev x) (ev i)).bind fun v => k v H
    | some (.array len el) => tb (szOf P el) fun e => (pIdxA len e (ev x) (ev i)).bind fun v => k v H
    | _ => none
  | .index t x i => match P.underlying t with
    | some (.array len el) => tb (szOf P el) fun e => tb (aggOf P el) fun n => (pIndexV len n e (ev x) (ev i)).bind fun v => k v H
    | some .string => (pIndexS (ev x) (ev i)).bind fun v => k v H
    | _ => none
  | .lookup t m key ok => tb (mapTypes P t) fun kt => tb (flatKey P kt.1) fun fl => tb (zeroOf P kt.2) fun z => (pLookup fl z (ev m) (ev key) ok H).bind fun v => k v H
  | .mapUpdate t m key x => tb (mapTypes P t) fun kt => tb (flatKey P kt.1) fun fl => (pUpdate fl (ev m) (ev key) (ev x) H).bind fun H' => k undef H'
  | .extract t i => (pExtract (ev t) i).bind fun v => k v H
  | .call c => match c.callee with
    | .builtin b => cBuiltin P b c.argTypes (c.args.toList.map ev) H k
    | .value f => (pCallee (ev f) (c.args.toList.map ev)).bind fun fa => (call fa.1 fa.2 H).bind fun r => k r.1 r.2
    | _ => none
  | _ => none
theorem map_pair {α β γ : Type} (x : Option α) (b : β) (k : α → β → Option γ) : ((x.map (·, b)).bind fun r => k r.1 r.2) = x.bind fun v => k v b := by cases x <;> rfl
theorem map_undef {β γ : Type} (x : Option β) (v : Value) (k : Value → β → Option γ) : ((x.map fun H' => (v, H')).bind fun r => k r.1 r.2) = x.bind fun H' => k v H' := by cases x <;> rfl
theorem cBuiltin0_eq (P : Program) (b : Builtin) (ts : Array TypeId) (args : List Value) (H : AH) (k : Value → AH → Option R) : cBuiltin0 P b ts args H k = (aBuiltin P b ts args H).bind fun r => k r.1 r.2 := by
  cases b with
  | len =>
    match args with
    | [] => rfl
    | [x] =>
      simp only [cBuiltin0, aBuiltin]
      cases (ts[0]?).bind fun t => P.underlying t with
      | none => rfl
      | some d => cases d <;> first | rfl | (cases x <;> rfl) | (simp only [map_pair])
    | x :: y :: zs => rfl
  | max => simp only [cBuiltin0, aBuiltin, map_pair]
  | min => simp only [cBuiltin0, aBuiltin, map_pair]
  | append =>
    match args with
    | [] => rfl
    | [x] => rfl
    | [s, x] =>
      simp only [cBuiltin0, aBuiltin, Option.bind_assoc]
      congr 1; funext t; congr 1; funext el; congr 1; funext e; congr 1; funext b; congr 1; funext z
      split
      · rfl
      · rfl
    | x :: y :: z :: zs => rfl
  | delete =>
    match args with
    | [] => rfl
    | [x] => rfl
    | [s, x] => simp only [cBuiltin0, aBuiltin, Option.bind_assoc, map_undef]
    | x :: y :: z :: zs => rfl
  | _ => rfl
theorem cOp0_eq (P : Program) (call : CallF) (ev : Operand → Value) (o : Oper) (H : AH) (k : Value → AH → Option R) : cOp0 P call ev o H k = (aOp P call ev o H).bind fun r => k r.1 r.2 := by
  obtain ⟨dst, op, type, pos, after, guard⟩ := o
  cases op with
  | call c =>
    obtain ⟨callee, args, ats⟩ := c
    cases callee with
    | value f => simp only [cOp0, aOp, Option.bind_assoc]
    | invoke r m => rfl
    | builtin b => simp only [cOp0, aOp]; exact cBuiltin0_eq ..
  | makeMap t r => cases r <;> rfl
  | slice t x lo hi mx =>
    cases mx with
    | none => simp only [cOp0, aOp, Option.bind_assoc, map_pair]
    | some m => cases lo <;> cases hi <;> first | rfl | (simp only [cOp0, aOp, Option.bind_assoc, map_pair])
  | load t a =>
    simp only [cOp0, aOp, Option.bind_assoc]
    congr 1
    funext g
    cases g <;> simp only [map_pair]
  | build t parts =>
    simp only [cOp0, aOp]
    cases P.underlying t with
    | none => rfl
    | some d => cases d <;> first | rfl | (simp only [Option.bind_assoc, Option.bind_map]; rfl)
  | buildSlice t len parts =>
    simp only [cOp0, aOp, Option.bind_assoc]
    congr 1; funext el; congr 1; funext e; congr 1; funext z
    split
    · rw [Option.bind_map]; rfl
    · rfl
  | fieldAddr s x f =>
    simp only [cOp0, aOp, Option.bind_assoc]
    congr 1; funext el; congr 1; funext e
    split
    · rfl
    · rw [map_pair]
  | alloc t => simp only [cOp0, aOp, Option.bind_map]; rfl
  | indexAddr t x i =>
    simp only [cOp0, aOp]
    cases P.underlying t with
    | none => rfl
    | some d => cases d <;> first | rfl | (simp only [Option.bind_assoc, map_pair])
  | index t x i =>
    simp only [cOp0, aOp]
    cases P.underlying t with
    | none => rfl
    | some d => cases d <;> first | rfl | (simp only [Option.bind_assoc, map_pair])
  | convert s d x =>
    simp only [cOp0, aOp]
    cases P.underlying s with
    | none => rfl
    | some d => simp only [map_pair]
  | store t x y => simp only [cOp0, aOp, Option.bind_assoc, map_undef]
  | mapUpdate t m key x => simp only [cOp0, aOp, Option.bind_assoc, map_undef]
  | _ => first | rfl | (simp only [cOp0, aOp, Option.bind_assoc, map_pair]; done)
theorem cBuiltin_0 (P : Program) (b : Builtin) (ts : Array TypeId) (args : List Value) (H : AH) (k : Value → AH → Option R) : cBuiltin P b ts args H k = cBuiltin0 P b ts args H k := by
  unfold cBuiltin cBuiltin0
  simp only [tb_eq]
theorem cOp_0 (P : Program) (call : CallF) (ev : Operand → Value) (o : Oper) (H : AH) (k : Value → AH → Option R) : cOp P call ev o H k = cOp0 P call ev o H k := by
  unfold cOp cOp0
  simp only [tb_eq, cBuiltin_0]
theorem cOp_eq (P : Program) (call : CallF) (ev : Operand → Value) (o : Oper) (H : AH) (k : Value → AH → Option R) : cOp P call ev o H k = (aOp P call ev o H).bind fun r => k r.1 r.2 := (cOp_0 ..).trans (cOp0_eq ..)
def isLook (op : Op) : Bool := opK op == 0 || opK op == 2
theorem look_same {P : Program} {call : CallF} {ev : Operand → Value} {o : Oper} {H : AH} (h : isLook o.op = true) : aOp P call ev o H = (cOp P call ev o H fun v _ => some v).map (·, H) := by
  rw [cOp_eq]
  cases hx : aOp P call ev o H with
  | none => rfl
  | some r =>
    obtain ⟨v, H'⟩ := r
    simp only [Option.bind_some, Option.map_some]
    unfold isLook at h
    simp only [Bool.or_eq_true, beq_iff_eq] at h
    rcases h with h | h
    · rw [(aOp_pure h hx).1]
    · rw [aOp_rd h] at hx
      obtain ⟨y, _, e⟩ := Option.map_eq_some_iff.1 hx
      rw [(Prod.mk.inj e).2]
abbrev cStep (P : Program) (G : List Nat) (call : CallF) (ops : Array Oper) (o : Oper) (A : List Value) (H : AH) (k : List Value → AH → Option R) : Option R :=
  match o.op.operands.toList.all (okX G) with
  | true => match o.guard with
    | none => cOp P call (aEv A) o H fun v H' => k (aPut A o.dst v) H'
    | some g => match isLook o.op with
      | true => (match aYield ops A g.1 == some g.2 with
        | true => cOp P call (aEv A) o H fun v _ => some v
        | false => some undef).bind fun v => k (aPut A o.dst v) H
      | false => (match aYield ops A g.1 == some g.2 with
        | true => aOp P call (aEv A) o H
        | false => some (undef, H)).bind fun r => k (aPut A o.dst r.1) r.2
  | false => none
theorem cStep_eq (P : Program) (G : List Nat) (call : CallF) (ops : Array Oper) (o : Oper) (A : List Value) (H : AH) (k : List Value → AH → Option R) : cStep P G call ops o A H k = (aStep P G call ops o A H).bind fun s => k s.1 s.2 := by
  unfold cStep aStep
  cases o.op.operands.toList.all (okX G) with
  | false => rfl
  | true =>
    simp only [if_true]
    unfold Region.wanted
    cases o.guard with
    | none =>
      simp only [if_true]
      rw [cOp_eq, Option.bind_map]; rfl
    | some g =>
      obtain ⟨g, want⟩ := g
      simp only
      cases hl : isLook o.op with
      | true =>
        simp only
        by_cases h : (aYield ops A g == some want) = true
        · rw [if_pos h, h, look_same hl]
          simp only
          cases (cOp P call (aEv A) o H fun v _ => some v) <;> rfl
        · rw [if_neg h, Bool.eq_false_iff.2 h]; rfl
      | false =>
        simp only
        by_cases h : (aYield ops A g == some want) = true
        · rw [if_pos h, h, Option.bind_map]; rfl
        · rw [if_neg h, Bool.eq_false_iff.2 h]; rfl
abbrev cOps (P : Program) (G : List Nat) (call : CallF) (ops : Array Oper) : List Oper → List Value → AH → (List Value → AH → Option R) → Option R
  | [], A, H, k => k A H
  | o :: rest, A, H, k => cStep P G call ops o A H fun A' H' => cOps P G call ops rest A' H' k
theorem cOps_eq (P : Program) (G : List Nat) (call : CallF) (ops : Array Oper) : ∀ (l : List Oper) (A : List Value) (H : AH) (k : List Value → AH → Option R), cOps P G call ops l A H k = (aOps P G call ops l A H).bind fun s => k s.1 s.2 := by
  intro l
  induction l with
  | nil => intro A H k; rfl
  | cons o l ih =>
    intro A H k
    simp only [cOps, aOps]
    rw [cStep_eq, Option.bind_assoc]
    congr 1
    funext s
    exact ih _ _ _
noncomputable def eqK {R : Type} (x y : Option Value) (k : Option R) : Option R := chk (x = y) k
theorem eqK_of {R : Type} {x y : Option Value} (h : x = y) (k : Option R) : eqK x y k = k := chk_true h k
noncomputable abbrev cks {R : Type} (j : Nat) (hist : List ((AH → Option Value) × AH)) (rd : AH → Option Value) (H H' : AH) (k : Option R) : List (Nat × Nat) → Option R
  | [] => k
  | pq :: rest => match pq.1 == j with
    | true => match Nat.blt pq.2 j with
      | true => match hist[pq.2]? with
        | some h => eqK (rd h.2) (rd H) (cks j hist rd H H' k rest)
        | none => none
      | false => cks j hist rd H H' k rest
    | false => match pq.2 == j with
      | true => match Nat.blt pq.1 j with
        | true => match hist[pq.1]? with
          | some h => eqK (h.1 H') (h.1 h.2) (cks j hist rd H H' k rest)
          | none => none
        | false => cks j hist rd H H' k rest
      | false => cks j hist rd H H' k rest
theorem chk_bind {α β : Type} (p : Prop) (x : Option α) (k : α → Option β) : (chk p x).bind k = chk p (x.bind k) := by unfold chk; split <;> rfl
theorem cks_bind {α β : Type} {j : Nat} {hist : List ((AH → Option Value) × AH)} {rd : AH → Option Value} {H H' : AH} (x : Option α) (k : α → Option β) : ∀ l, (cks j hist rd H H' x l).bind k = cks j hist rd H H' (x.bind k) l := by
  intro l
  induction l with
  | nil => rfl
  | cons p l ih =>
    simp only [cks]
    cases p.1 == j with
    | true =>
      cases Nat.blt p.2 j with
      | true =>
        simp only
        cases hist[p.2]? with
        | none => rfl
        | some h => simp only [eqK]; rw [chk_bind, ih]
      | false => exact ih
    | false =>
      cases p.2 == j with
      | true =>
        cases Nat.blt p.1 j with
        | true =>
          simp only
          cases hist[p.1]? with
          | none => rfl
          | some h => simp only [eqK]; rw [chk_bind, ih]
        | false => exact ih
      | false => exact ih
def ckP (j : Nat) (hist : List ((AH → Option Value) × AH)) (rd : AH → Option Value) (H H' : AH) (p : Nat × Nat) : Prop :=
  (p.1 = j → p.2 < j → ∃ h, hist[p.2]? = some h ∧ rd h.2 = rd H) ∧ (p.2 = j → p.1 < j → ∃ h, hist[p.1]? = some h ∧ h.1 H' = h.1 h.2)
theorem chk_iff {α : Type} {p : Prop} {x : Option α} {r : α} : chk p x = some r ↔ p ∧ x = some r := ⟨chk_some, fun h => by rw [chk_true h.1]; exact h.2⟩
theorem cks_iff {α : Type} {j : Nat} {hist : List ((AH → Option Value) × AH)} {rd : AH → Option Value} {H H' : AH} {x : Option α} {r : α} : ∀ {l}, cks j hist rd H H' x l = some r ↔ (∀ p ∈ l, ckP j hist rd H H' p) ∧ x = some r := by
  intro l
  induction l with
  | nil => simp [cks]
  | cons p l ih =>
    have split : (∀ q ∈ p :: l, ckP j hist rd H H' q) ↔ ckP j hist rd H H' p ∧ ∀ q ∈ l, ckP j hist rd H H' q := by simp
    rw [split, and_assoc, ← ih]
    simp only [cks]
    by_cases h1 : p.1 = j
    · have e1 : (p.1 == j) = true := by simpa using h1
      rw [e1]
      simp only
      by_cases h2 : p.2 < j
      · have e2 : Nat.blt p.2 j = true := by simpa [Nat.blt_eq] using h2
        rw [e2]
        simp only
        have hn : ¬ p.2 = j := by omega
        unfold ckP
        cases hist[p.2]? with
        | none => simp [h1, h2]
        | some h => simp only [eqK]; rw [chk_iff]; simp [h1, h2, hn]
      · have e2 : Nat.blt p.2 j = false := by rw [Bool.eq_false_iff]; intro h; exact h2 (by simpa [Nat.blt_eq] using h)
        rw [e2]
        simp only
        have : ckP j hist rd H H' p := ⟨fun _ h => absurd h h2, fun _ h => absurd h (by omega)⟩
        simp [this]
    · have e1 : (p.1 == j) = false := by simpa using h1
      rw [e1]
      simp only
      by_cases h2 : p.2 = j
      · have e2 : (p.2 == j) = true := by simpa using h2
        rw [e2]
        simp only
        by_cases h3 : p.1 < j
        · have e3 : Nat.blt p.1 j = true := by simpa [Nat.blt_eq] using h3
          rw [e3]
          simp only
          unfold ckP
          cases hist[p.1]? with
          | none => simp [h1, h2, h3]
          | some h => simp only [eqK]; rw [chk_iff]; simp [h1, h2, h3]
        · have e3 : Nat.blt p.1 j = false := by rw [Bool.eq_false_iff]; intro h; exact h3 (by simpa [Nat.blt_eq] using h)
          rw [e3]
          simp only
          have : ckP j hist rd H H' p := ⟨fun h => absurd h h1, fun _ h => absurd h h3⟩
          simp [this]
      · have e2 : (p.2 == j) = false := by simpa using h2
        rw [e2]
        simp only
        have : ckP j hist rd H H' p := ⟨fun h => absurd h h1, fun h => absurd h h2⟩
        simp [this]
abbrev rdOf (P : Program) (A : List Value) (o : Oper) : AH → Option Value := fun H => aRd P (aEv A) o.op H
noncomputable def aOpsC (P : Program) (G : List Nat) (call : CallF) (ops : Array Oper) (pairs : List (Nat × Nat)) : List Oper → Nat → List ((AH → Option Value) × AH) → List Value → AH → Option (List Value × AH)
  | [], _, _, A, H => some (A, H)
  | o :: rest, j, hist, A, H => (aStep P G call ops o A H).bind fun s => cks j hist (rdOf P A o) H s.2 (aOpsC P G call ops pairs rest (j + 1) (hist ++ [(rdOf P A o, H)]) s.1 s.2) pairs
noncomputable abbrev cOpsC (P : Program) (G : List Nat) (call : CallF) (ops : Array Oper) (pairs : List (Nat × Nat)) : List Oper → Nat → List ((AH → Option Value) × AH) → List Value → AH → (List Value → AH → Option R) → Option R
  | [], _, _, A, H, k => k A H
  | o :: rest, j, hist, A, H, k => cStep P G call ops o A H fun A' H' => cks j hist (rdOf P A o) H H' (cOpsC P G call ops pairs rest (j + 1) (hist ++ [(rdOf P A o, H)]) A' H' k) pairs
theorem cOpsC_eq (P : Program) (G : List Nat) (call : CallF) (ops : Array Oper) (pairs : List (Nat × Nat)) : ∀ (l : List Oper) (j : Nat) (hist : List ((AH → Option Value) × AH)) (A : List Value) (H : AH) (k : List Value → AH → Option R), cOpsC P G call ops pairs l j hist A H k = (aOpsC P G call ops pairs l j hist A H).bind fun s => k s.1 s.2 := by
  intro l
  induction l with
  | nil => intro j hist A H k; rfl
  | cons o l ih =>
    intro j hist A H k
    simp only [cOpsC, aOpsC]
    rw [cStep_eq, Option.bind_assoc]
    congr 1
    funext s
    rw [cks_bind, ih]
theorem aOpsC_iff {P : Program} {G : List Nat} {call : CallF} {ops : Array Oper} {pairs : List (Nat × Nat)} {A0 : List Value} {H0 : AH} {r0 : List Value × AH} (h0 : aOps P G call ops ops.toList A0 H0 = some r0) (hp : ∀ p ∈ pairs, p.1 < ops.size ∧ p.2 < ops.size ∧ p.1 ≠ p.2) :
    ∀ (l : List Oper) (j : Nat) (hist : List ((AH → Option Value) × AH)), ops.toList.drop j = l → hist.length = j → (∀ i, i < j → ∃ o, ops[i]? = some o ∧ hist[i]? = some (rdOf P (stA P G call ops A0 H0 i).1 o, (stA P G call ops A0 H0 i).2)) →
      ∀ r, aOpsC P G call ops pairs l j hist (stA P G call ops A0 H0 j).1 (stA P G call ops A0 H0 j).2 = some r ↔ (∀ p ∈ pairs, j ≤ max p.1 p.2 → lookOK P (stA P G call ops A0 H0) ops p) ∧ r = r0 := by
  intro l
  induction l with
  | nil =>
    intro j hist hl hlen hh r
    have hj : ops.size ≤ j := by
      have := congrArg List.length hl
      simp at this; omega
    have hst : stA P G call ops A0 H0 j = r0 := by
      unfold stA
      rw [List.take_of_length_le (by simpa using hj), h0]; rfl
    simp only [aOpsC, hst]
    constructor
    · intro e
      exact ⟨fun p hpm hm => absurd (hp p hpm) (by omega), (Option.some.inj e).symm⟩
    · rintro ⟨_, rfl⟩; rfl
  | cons o l ih =>
    intro j hist hl hlen hh r
    have hj : ops.toList[j]? = some o := by
      have := congrArg (·[0]?) hl
      simpa using this
    have ho : ops[j]? = some o := by simpa using hj
    have hjs : j < ops.size := by
      have := (List.getElem?_eq_some_iff.1 hj).1
      simpa using this
    have hstep := stA_step h0 ho
    have hl' : ops.toList.drop (j + 1) = l := by
      have := congrArg (List.drop 1) hl
      simpa [List.drop_drop, Nat.add_comm] using this
    have hh' : ∀ i, i < j + 1 → ∃ o', ops[i]? = some o' ∧ (hist ++ [(rdOf P (stA P G call ops A0 H0 j).1 o, (stA P G call ops A0 H0 j).2)])[i]? = some (rdOf P (stA P G call ops A0 H0 i).1 o', (stA P G call ops A0 H0 i).2) := by
      intro i hi
      by_cases e : i = j
      · subst e
        exact ⟨o, ho, by rw [List.getElem?_append_right (by omega)]; simp [hlen]⟩
      · obtain ⟨o', h1, h2⟩ := hh i (by omega)
        exact ⟨o', h1, by rw [List.getElem?_append_left (by omega)]; exact h2⟩
    have hi := ih (j + 1) _ hl' (by simp [hlen]) hh' r
    simp only [aOpsC]
    rw [hstep]
    simp only [Option.bind_some]
    rw [cks_iff, hi]
    have key : ∀ p ∈ pairs, max p.1 p.2 = j → (ckP j hist (rdOf P (stA P G call ops A0 H0 j).1 o) (stA P G call ops A0 H0 j).2 (stA P G call ops A0 H0 (j + 1)).2 p ↔ lookOK P (stA P G call ops A0 H0) ops p) := by
      intro p hpm hm
      obtain ⟨h1, h2, h3⟩ := hp p hpm
      unfold ckP lookOK
      by_cases hlt : p.2 < p.1
      · have e1 : p.1 = j := by omega
        obtain ⟨o2, _, hg⟩ := hh p.2 (by omega)
        rw [if_pos hlt]
        constructor
        · intro ⟨a, _⟩ o' ho'
          rw [e1, ho] at ho'
          cases ho'
          obtain ⟨h, hg', e⟩ := a e1 (by omega)
          rw [hg] at hg'
          cases hg'
          rw [e1]
          exact e
        · intro a
          refine ⟨fun _ _ => ⟨_, hg, ?_⟩, fun e => absurd e (by omega)⟩
          have := a o (by rw [e1]; exact ho)
          rw [e1] at this
          exact this
      · have e2 : p.2 = j := by omega
        obtain ⟨o1, ho1, hg⟩ := hh p.1 (by omega)
        rw [if_neg hlt, e2]
        constructor
        · intro ⟨_, a⟩ o' ho'
          rw [ho1] at ho'
          cases ho'
          obtain ⟨h, hg', e⟩ := a rfl (by omega)
          rw [hg] at hg'
          cases hg'
          exact e
        · intro a
          refine ⟨fun e => absurd e (by omega), fun _ _ => ⟨_, hg, a o1 ho1⟩⟩
    have out : ∀ p ∈ pairs, max p.1 p.2 ≠ j → ckP j hist (rdOf P (stA P G call ops A0 H0 j).1 o) (stA P G call ops A0 H0 j).2 (stA P G call ops A0 H0 (j + 1)).2 p := by
      intro p hpm hm
      exact ⟨fun h1 h2 => absurd hm (by omega), fun h1 h2 => absurd hm (by omega)⟩
    constructor
    · rintro ⟨a, b, c⟩
      refine ⟨fun p hpm hm => ?_, c⟩
      by_cases e : max p.1 p.2 = j
      · exact (key p hpm e).1 (a p hpm)
      · exact b p hpm (by omega)
    · rintro ⟨a, c⟩
      refine ⟨fun p hpm => ?_, fun p hpm hm => a p hpm (by omega), c⟩
      by_cases e : max p.1 p.2 = j
      · exact (key p hpm e).2 (a p hpm (by omega))
      · exact out p hpm e
theorem aOpsC_aOps {P : Program} {G : List Nat} {call : CallF} {ops : Array Oper} {pairs : List (Nat × Nat)} : ∀ (l : List Oper) (j : Nat) (hist : List ((AH → Option Value) × AH)) (A : List Value) (H : AH) (r : List Value × AH), aOpsC P G call ops pairs l j hist A H = some r → aOps P G call ops l A H = some r := by
  intro l
  induction l with
  | nil => intro j hist A H r h; exact h
  | cons o l ih =>
    intro j hist A H r h
    simp only [aOpsC] at h
    obtain ⟨s, hs, h⟩ := Option.bind_eq_some_iff.1 h
    simp only [aOps]
    rw [hs]
    exact ih _ _ _ _ _ (cks_iff.1 h).2
theorem lookPairs_in {ops : Array Oper} : ∀ p ∈ lookPairs ops.toList, p.1 < ops.size ∧ p.2 < ops.size ∧ p.1 ≠ p.2 := by
  intro p hp
  unfold lookPairs at hp
  simp only [List.mem_flatMap, List.mem_filter, List.mem_map] at hp
  obtain ⟨x, ⟨hx, hx2⟩, y, ⟨hy, hy2⟩, rfl⟩ := hp
  have hx := List.mem_zipIdx hx
  have hy := List.mem_zipIdx hy
  simp only [beq_iff_eq] at hx2
  simp only [Bool.and_eq_true, beq_iff_eq] at hy2
  refine ⟨by have := hx.2.1; simpa using this, by have := hy.2.1; simpa using this, ?_⟩
  intro e
  simp only at e
  have e3 := hy2.1.1
  have ex := hx.2.2
  have ey := hy.2.2
  simp only [e, Nat.sub_zero] at ex ey
  have : x.1 = y.1 := by rw [ex, ey]
  rw [this, e3] at hx2
  cases hx2
theorem chk_inline {P : Program} {G : List Nat} {call : CallF} {ops : Array Oper} {pairs : List (Nat × Nat)} (hp : ∀ p ∈ pairs, p.1 < ops.size ∧ p.2 < ops.size ∧ p.1 ≠ p.2) (A : List Value) (H : AH) :
    chk (∀ q ∈ pairs, lookOK P (stA P G call ops A H) ops q) (aOps P G call ops ops.toList A H) = aOpsC P G call ops pairs ops.toList 0 [] A H := by
  cases hx : aOps P G call ops ops.toList A H with
  | none =>
    cases hy : aOpsC P G call ops pairs ops.toList 0 [] A H with
    | none => unfold chk; split <;> rfl
    | some r => have := aOpsC_aOps _ _ _ _ _ _ hy; rw [hx] at this; cases this
  | some r0 =>
    have hi := aOpsC_iff hx hp ops.toList 0 [] rfl rfl (fun i hi => absurd hi (by omega))
    simp only [stA_zero] at hi
    cases hy : aOpsC P G call ops pairs ops.toList 0 [] A H with
    | none =>
      cases hz : chk (∀ q ∈ pairs, lookOK P (stA P G call ops A H) ops q) (some r0) with
      | none => rfl
      | some r =>
        obtain ⟨h1, h2⟩ := chk_some hz
        have := (hi r0).2 ⟨fun p hpm _ => h1 p hpm, rfl⟩
        rw [hy] at this; cases this
    | some r =>
      obtain ⟨h1, h2⟩ := (hi r).1 hy
      rw [chk_true (fun p hpm => h1 p hpm (by omega)), h2]
noncomputable abbrev cRegion (P : Program) (G : List Nat) (call : CallF) (ops : Array Oper) (draw : Bool) (A : List Value) (H : AH) (k : List Value → AH → Option R) : Option R :=
  match draw with
  | false => cOps P G call ops ops.toList A H k
  | true => match regOK ops.toList with
    | false => none
    | true => match lookPairs ops.toList with
      | [] => cOps P G call ops ops.toList A H k
      | p :: ps => cOpsC P G call ops (p :: ps) ops.toList 0 [] A H k
theorem cRegion_eq (P : Program) (G : List Nat) (call : CallF) (ops : Array Oper) (draw : Bool) (A : List Value) (H : AH) (k : List Value → AH → Option R) : cRegion P G call ops draw A H k = (aRegion P G call ops draw A H).bind fun s => k s.1 s.2 := by
  unfold cRegion aRegion aDraw
  cases draw with
  | false => exact cOps_eq ..
  | true =>
    simp only
    cases regOK ops.toList with
    | false => rfl
    | true =>
      simp only
      cases hl : lookPairs ops.toList with
      | nil => exact cOps_eq ..
      | cons p ps =>
        simp only
        rw [chk_inline (fun q hq => lookPairs_in q (by rw [hl]; exact hq)), cOpsC_eq]
def disp (kn : List Value → AH → Option R) (kx : Nat → List Value → AH → Option R) (kr : List Value → AH → Option R) (r : AR) : Option R :=
  match r.1 with
  | .normal => kn r.2.1 r.2.2
  | .exit i => kx i r.2.1 r.2.2
  | .ret => kr r.2.1 r.2.2
noncomputable def cLoop (P : Program) (G : List Nat) (call : CallF) (x : Code) (A : List Value) (H : AH) (kx : Nat → List Value → AH → Option R) (kr : List Value → AH → Option R) : Option R :=
  (aLoop (aCode P G call x) A H).bind (disp (fun _ _ => none) kx kr)
noncomputable abbrev cCode (P : Program) (G : List Nat) (call : CallF) : Code → List Value → AH → (List Value → AH → Option R) → (Nat → List Value → AH → Option R) → (List Value → AH → Option R) → Option R
  | .skip, A, H, kn, _, _ => kn A H
  | .label _, A, H, kn, _, _ => kn A H
  | .region _ ops draw, A, H, kn, _, _ => cRegion P G call ops draw A H kn
  | .seq x y, A, H, kn, kx, kr => cCode P G call x A H (fun A H => cCode P G call y A H kn kx kr) kx kr
  | .cond c x y, A, H, kn, kx, kr => match aEv A c with
    | .bool true => cCode P G call x A H kn kx kr
    | .bool false => cCode P G call y A H kn kx kr
    | _ => none
  | .block id x, A, H, kn, kx, kr => cCode P G call x A H kn (fun i A H => if i = id then kn A H else kx i A H) kr
  | .loop x, A, H, _, kx, kr => cLoop P G call x A H kx kr
  | .exit id, A, H, _, kx, _ => kx id A H
  | .ret, A, H, _, _, kr => kr A H
  | _, _, _, _, _, _ => none
theorem aIter_not {f : List Value → AH → Option AR} : ∀ {n : Nat} {A : List Value} {H : AH} {r : AR}, aIter f n A H = some r → r.1 ≠ .normal := by
  intro n
  induction n with
  | zero => intro A H r h; cases h
  | succ n ih =>
    intro A H r h
    simp only [aIter] at h
    obtain ⟨s, hs, h⟩ := Option.bind_eq_some_iff.1 h
    split at h
    · exact ih h
    · rename_i e
      cases h
      exact fun he => e he
theorem aLoop_not {f : List Value → AH → Option AR} {A : List Value} {H : AH} {r : AR} (h : aLoop f A H = some r) : r.1 ≠ .normal := by
  obtain ⟨n, hn⟩ := aLoop_iff.1 h
  exact aIter_not hn
theorem cCode_eq (P : Program) (G : List Nat) (call : CallF) : ∀ (c : Code) (A : List Value) (H : AH) (kn : List Value → AH → Option R) (kx : Nat → List Value → AH → Option R) (kr : List Value → AH → Option R),
    cCode P G call c A H kn kx kr = (aCode P G call c A H).bind (disp kn kx kr) := by
  intro c
  induction c with
  | skip => intros; rfl
  | label => intros; rfl
  | exit => intros; rfl
  | ret => intros; rfl
  | region id ops draw =>
    intro A H kn kx kr
    simp only [cCode, aCode]
    rw [cRegion_eq, Option.bind_map]; rfl
  | seq x y ihx ihy =>
    intro A H kn kx kr
    simp only [cCode, aCode]
    rw [ihx, Option.bind_assoc]
    congr 1
    funext r
    obtain ⟨e, A1, H1⟩ := r
    cases e with
    | normal => simp only [disp]; exact ihy ..
    | exit i => rfl
    | ret => rfl
  | cond c x y ihx ihy =>
    intro A H kn kx kr
    simp only [cCode, aCode]
    generalize aEv A c = v
    cases v with
    | bool b => cases b <;> first | exact ihx .. | exact ihy ..
    | _ => rfl
  | block id x ih =>
    intro A H kn kx kr
    simp only [cCode, aCode]
    rw [ih, Option.bind_map]
    congr 1
    funext r
    obtain ⟨e, A1, H1⟩ := r
    cases e with
    | normal => rfl
    | exit i =>
      simp only [disp, Function.comp]
      split <;> rfl
    | ret => rfl
  | loop x ih =>
    intro A H kn kx kr
    simp only [cCode, aCode, cLoop]
    cases h : aLoop (aCode P G call x) A H with
    | none => rfl
    | some r =>
      simp only [Option.bind_some]
      have := aLoop_not h
      obtain ⟨e, A1, H1⟩ := r
      cases e with
      | normal => exact absurd rfl this
      | exit i => rfl
      | ret => rfl
  | rangeFunc => intros; rfl
  | scope => intros; rfl
  | goto => intros; rfl
  | refuse => intros; rfl
theorem cLoop_eq (P : Program) (G : List Nat) (call : CallF) (x : Code) (A : List Value) (H : AH) (kx : Nat → List Value → AH → Option R) (kr : List Value → AH → Option R) :
    cLoop P G call x A H kx kr = cCode P G call x A H (fun A H => cLoop P G call x A H kx kr) kx kr := by
  rw [cCode_eq]
  unfold cLoop
  rw [aLoop_eq, Option.bind_assoc]
  congr 1
  funext r
  obtain ⟨e, A1, H1⟩ := r
  cases e <;> rfl
abbrev cMany (P : Program) (A : List Value) (H : AH) : List ResultVar → (List Value → Option R) → Option R
  | [], k => k []
  | .tmp t :: rs, k => cMany P A H rs fun vs => k (A[t]?.getD undef :: vs)
  | .cell a t :: rs, k => tb (aggOf P t) fun g => match g with
    | some n => (pLdN n (A[a]?.getD undef) H).bind fun v => cMany P A H rs fun vs => k (v :: vs)
    | none => (pLd1 (A[a]?.getD undef) H).bind fun v => cMany P A H rs fun vs => k (v :: vs)
theorem cMany_eq (P : Program) (A : List Value) (H : AH) : ∀ (rs : List ResultVar) (k : List Value → Option R), cMany P A H rs k = (aMany P A H rs).bind k := by
  intro rs
  induction rs with
  | nil => intro k; rfl
  | cons r rs ih =>
    intro k
    simp only [aMany, Option.bind_assoc, Option.bind_some]
    cases r with
    | tmp t =>
      simp only [cMany, aResult, Option.bind_some]
      rw [ih]
    | cell a t =>
      simp only [cMany, aResult, Option.bind_assoc, tb_eq]
      congr 1
      funext g
      cases g <;> (simp only; congr 1; funext v; rw [ih])
end
def tup : List Value → Value
  | [v] => v
  | vs => .tuple vs.toArray
abbrev cFin (P : Program) (rs : List ResultVar) (A : List Value) (H : AH) : Option (Value × AH) := cMany P A H rs fun vs => some (tup vs, H)
noncomputable def cBody (P : Program) (G : List Nat) (call : CallF) (n : Nat) (rs : List ResultVar) (c : Code) (args : List Value) (H : AH) : Option (Value × AH) :=
  cCode P G call c (args ++ List.replicate (n - args.length) undef) H (cFin P rs) (fun _ _ _ => none) (cFin P rs)
theorem cFin_eq (P : Program) (rs : List ResultVar) (A : List Value) (H : AH) : cFin P rs A H = (aResults P A H rs).map (·, H) := by
  unfold cFin aResults
  rw [cMany_eq, Option.map_map]
  cases aMany P A H rs with
  | none => rfl
  | some vs =>
    simp only [Option.bind_some, Option.map_some, Function.comp]
    congr 2
theorem cBody_eq (P : Program) (G : List Nat) (call : CallF) (n : Nat) (rs : List ResultVar) (c : Code) (args : List Value) (H : AH) : cBody P G call n rs c args H = aBody P G call n rs c args H := by
  unfold cBody aBody
  rw [cCode_eq]
  congr 1
  funext r
  obtain ⟨e, A1, H1⟩ := r
  cases e with
  | normal => exact cFin_eq ..
  | exit i => rfl
  | ret => exact cFin_eq ..
def bodyOf (fn : Func) : Code := fn.body.getD .skip
theorem aF_of_body {P : Program} {G : List Nat} {f : Nat} {fn : Func} (hf : P.funcs[f]? = some fn) (hb : fn.body.isSome = true) (hn : (fn.name == "runtime.NumGoroutine") = false) (hd : dshape (bodyOf fn) = none) {args : List Value} {H : AH} {r : Value × AH}
    (h : cBody P G (aF P G) fn.ntmps fn.results.toList (bodyOf fn) args H = some r) : aF P G f args H = some r := by
  cases hc : fn.body with
  | none => rw [hc] at hb; cases hb
  | some c =>
    rw [cBody_eq] at h
    unfold bodyOf at h hd
    rw [hc] at h hd
    exact aF_of hf hc (by simpa using hn) hd h
def Code.sub : Code → List Nat → Code
  | c, [] => c
  | .seq x _, 0 :: p => Code.sub x p
  | .seq _ y, 1 :: p => Code.sub y p
  | .cond _ x _, 2 :: p => Code.sub x p
  | .cond _ _ y, 3 :: p => Code.sub y p
  | .block _ x, 4 :: p => Code.sub x p
  | .loop x, 5 :: p => Code.sub x p
  | _, _ => .skip
def yv : Value → Option Bool
  | .bool b => some b
  | _ => none
def newK {R : Type} (cs : List Value) (H : AH) (k : Value → AH → Option R) : Option R := k (.pointer (some ⟨H.size, 0, none⟩)) (H.push (.cells false cs))
def rowK {R : Type} (len e : Nat) (cs : List Value) (H : AH) (k : Value → AH → Option R) : Option R := k (.slice (some ⟨H.size, 0, none⟩) len e) (H.push (.cells false cs))
def mapK {R : Type} (H : AH) (k : Value → AH → Option R) : Option R := k (.map (some H.size)) (H.push (.map [] 0))
def lenK {R : Type} (x : Value) (k : Value → Option R) : Option R :=
  match x with
  | .slice _ n _ => k (.int .i64 n)
  | _ => none
def lenR (x : Value) : Option Value :=
  match x with
  | .slice _ _ _ => pLen x
  | _ => none
def condK {R : Type} (c : Value) (x y : Option R) : Option R :=
  match c with
  | .bool true => x
  | .bool false => y
  | _ => none
def onK {α : Type} (y : Option Bool) (want : Bool) (a b : Option α) : Option α :=
  match y == some want with
  | true => a
  | false => b
theorem pick_t (a b : Value) : pPick (.bool true) a b = some a := rfl
theorem pick_f (a b : Value) : pPick (.bool false) a b = some b := rfl
abbrev vi (n : Int) : Value := .int .i64 n
abbrev vw (n : Int) : Value := .int .u64 n
abbrev vu (n : Nat) : Value := .int .u64 (n : Int)
abbrev vb (b : Bool) : Value := .bool b
inductive Stp where
  | n
  | f (k : Nat)
  | i (e : Nat) (v : Value)
  | a (len e : Nat) (v : Value)
def ad {R : Type} : List Stp → Value → (Value → Option R) → Option R
  | [], a, k => k a
  | .n :: p, a, k => (pNil a).bind fun a => ad p a k
  | .f o :: p, a, k => (pFld o a).bind fun a => ad p a k
  | .i e v :: p, a, k => (pIdx e a v).bind fun a => ad p a k
  | .a len e v :: p, a, k => (pIdxA len e a v).bind fun a => ad p a k
def ld {R : Type} (p : List Stp) (x : Value) (H : AH) (k : Value → Option R) : Option R := ad p x fun a => (pLd1 a H).bind k
def ldN {R : Type} (n : Nat) (p : List Stp) (x : Value) (H : AH) (k : Value → Option R) : Option R := ad p x fun a => (pLdN n a H).bind k
def st {R : Type} (n : Nat) (p : List Stp) (x v : Value) (H : AH) (k : AH → Option R) : Option R := ad p x fun a => (pSt n a v H).bind k
def gB (c : Value) (want : Bool) (e : Option Value) : Option Value := onK (yv c) want (e.bind some) (some undef)
def gV (c : Value) (want : Bool) (e : Value) : Option Value := onK (yv c) want (some e) (some undef)
def gE (c : Value) (want : Bool) (H : AH) (e : Option (Value × AH)) : Option (Value × AH) := onK (yv c) want e (some (undef, H))
def gad {R : Type} (c : Value) (want : Bool) : List Stp → Value → (Value → Option R) → Option R
  | [], a, k => k a
  | .n :: p, a, k => (gB c want (pNil a)).bind fun a => gad c want p a k
  | .f o :: p, a, k => (gB c want (pFld o a)).bind fun a => gad c want p a k
  | .i e v :: p, a, k => (gB c want (pIdx e a v)).bind fun a => gad c want p a k
  | .a len e v :: p, a, k => (gB c want (pIdxA len e a v)).bind fun a => gad c want p a k
def gld {R : Type} (c : Value) (want : Bool) (p : List Stp) (x : Value) (H : AH) (k : Value → Option R) : Option R := gad c want p x fun a => (gB c want (pLd1 a H)).bind k
def gldN {R : Type} (c : Value) (want : Bool) (n : Nat) (p : List Stp) (x : Value) (H : AH) (k : Value → Option R) : Option R := gad c want p x fun a => (gB c want (pLdN n a H)).bind k
def mkS {R : Type} (ps : List (Nat × Nat)) (zero : List Value) (xs : List (Nat × Value)) (k : Value → Option R) : Option R := (pFill (fun i => ps[i]?) zero xs).bind fun cs => k (.agg cs.toArray)
def offs (e : Nat) (i : Nat) : Option (Nat × Nat) := some (i * e, e)
def mkR {R : Type} (len e : Nat) (zero : List Value) (xs : List (Nat × Value)) (H : AH) (k : Value → AH → Option R) : Option R := (pFill (offs e) (List.replicate len zero).flatten xs).bind fun cs => rowK len e cs H k
def Agree (D : Nat) (A A' : List Value) : Prop := A.length = A'.length ∧ ∀ t, D.testBit t = false → A[t]? = A'[t]?
def clearFrom (D : Nat) : Nat → List Value → List Value
  | _, [] => []
  | i, v :: vs => (match D.testBit i with | true => undef | false => v) :: clearFrom D (i + 1) vs
def clear (D : Nat) (A : List Value) : List Value := clearFrom D 0 A
theorem clearFrom_length (D : Nat) : ∀ (A : List Value) (i : Nat), (clearFrom D i A).length = A.length := by
  intro A
  induction A with
  | nil => intro i; rfl
  | cons v vs ih => intro i; simp [clearFrom, ih]
theorem clearFrom_get (D : Nat) : ∀ (A : List Value) (i t : Nat), D.testBit (i + t) = false → (clearFrom D i A)[t]? = A[t]? := by
  intro A
  induction A with
  | nil => intro i t _; rfl
  | cons v vs ih =>
    intro i t h
    cases t with
    | zero => simp only [Nat.add_zero] at h; simp [clearFrom, h]
    | succ t => simp only [clearFrom, List.getElem?_cons_succ]; exact ih (i + 1) t (by rw [show i + 1 + t = i + (t + 1) from by omega]; exact h)
theorem clear_agree (D : Nat) (A : List Value) : Agree D A (clear D A) := ⟨(clearFrom_length D A 0).symm, fun t h => (clearFrom_get D A 0 t (by simpa using h)).symm⟩
def Resp {R : Type} (D : Nat) (k : List Value → AH → Option R) : Prop := ∀ A A' H, Agree D A A' → k A H = k A' H
def opr (D : Nat) : Operand → Bool
  | .tmp t => !D.testBit t
  | _ => true
def wipe (D : Nat) : Option Tmp → Nat
  | some d => match D.testBit d with | true => D ^^^ 2 ^ d | false => D
  | none => D
theorem wipe_le {D : Nat} {d : Option Tmp} {t : Nat} (h : D.testBit t = false) : (wipe D d).testBit t = false := by
  unfold wipe
  split
  · split
    · rename_i hd
      rw [Nat.testBit_xor, h, Nat.testBit_two_pow]
      simp
      intro e
      subst e; rw [h] at hd; cases hd
    · exact h
  · exact h
theorem wipe_ne {D : Nat} {d : Option Tmp} {t : Nat} (h : (wipe D d).testBit t = false) (hd : d ≠ some t) : D.testBit t = false := by
  unfold wipe at h
  split at h
  · rename_i d
    split at h
    · rename_i hb
      rw [Nat.testBit_xor, Nat.testBit_two_pow] at h
      have : ¬ d = t := fun e => hd (by rw [e])
      simpa [this] using h
    · exact h
  · exact h
def okOper (D : Nat) (ops : Array Oper) (o : Oper) : Bool :=
  o.op.operands.toList.all (opr D) && match o.guard with
  | none => true
  | some g => match (ops[g.1]?).bind (·.dst) with
    | some t => !D.testBit t
    | none => true
def okOps (ops : Array Oper) : List Oper → Nat → Option Nat
  | [], D => some D
  | o :: rest, D => match okOper D ops o with
    | true => okOps ops rest (wipe D o.dst)
    | false => none
def okC : Code → Nat → Option Nat
  | .skip, D => some D
  | .label _, D => some D
  | .region _ ops _, D => okOps ops ops.toList D
  | .seq x y, D => match okC x D with
    | some D1 => match okC y D1 with
      | some D2 => some D2
      | none => none
    | none => none
  | .cond c x y, D => match opr D c with
    | true => match okC x D, okC y D with
      | some D1, some D2 => some (D1 ||| D2)
      | _, _ => none
    | false => none
  | .block _ x, D => match okC x D with
    | some _ => some D
    | none => none
  | .loop x, D => match okC x D with
    | some _ => some D
    | none => none
  | .exit _, _ => some 0
  | .ret, _ => some 0
  | _, _ => none
section
variable {P : Program} {G : List Nat} {call : CallF} {R : Type}
theorem Agree.mono {D D' : Nat} {A A' : List Value} (h : Agree D A A') (hm : ∀ t, D'.testBit t = false → D.testBit t = false) : Agree D' A A' := ⟨h.1, fun t ht => h.2 t (hm t ht)⟩
theorem Agree.ev {D : Nat} {A A' : List Value} (h : Agree D A A') {x : Operand} (hx : opr D x = true) : aEv A x = aEv A' x := by
  cases x with
  | tmp t => simp only [opr, Bool.not_eq_true'] at hx; simp only [aEv]; rw [h.2 t hx]
  | _ => rfl
theorem Agree.put {D : Nat} {A A' : List Value} (h : Agree D A A') (d : Option Tmp) (v : Value) : Agree (wipe D d) (aPut A d v) (aPut A' d v) := by
  refine ⟨by rw [aPut_length, aPut_length, h.1], fun t ht => ?_⟩
  by_cases hd : d = some t
  · subst hd; rw [aPut_eq, aPut_eq, h.1]
  · rw [aPut_ne hd, aPut_ne hd]; exact h.2 t (wipe_ne ht hd)
theorem okOps_le {ops : Array Oper} : ∀ {l : List Oper} {D D' : Nat}, okOps ops l D = some D' → ∀ t, D.testBit t = false → D'.testBit t = false := by
  intro l
  induction l with
  | nil => intro D D' h t ht; simp only [okOps] at h; cases h; exact ht
  | cons o l ih =>
    intro D D' h t ht
    simp only [okOps] at h
    split at h
    · exact ih h t (wipe_le ht)
    · cases h
theorem okC_le : ∀ {c : Code} {D D' : Nat}, okC c D = some D' → ∀ t, D.testBit t = false → D'.testBit t = false := by
  intro c
  induction c with
  | skip => intro D D' h t ht; simp only [okC] at h; cases h; exact ht
  | label l => intro D D' h t ht; simp only [okC] at h; cases h; exact ht
  | region id ops draw => intro D D' h; simp only [okC] at h; exact okOps_le h
  | seq x y ihx ihy =>
    intro D D' h t ht
    simp only [okC] at h
    split at h
    · rename_i D1 h1
      split at h
      · rename_i D2 h2; cases h; exact ihy h2 t (ihx h1 t ht)
      · cases h
    · cases h
  | cond c x y ihx ihy =>
    intro D D' h t ht
    simp only [okC] at h
    split at h
    · split at h
      · rename_i D1 D2 h1 h2; cases h
        rw [Nat.testBit_or, ihx h1 t ht, ihy h2 t ht]; rfl
      · cases h
    · cases h
  | block id x ih => intro D D' h t ht; simp only [okC] at h; split at h <;> cases h; exact ht
  | loop x ih => intro D D' h t ht; simp only [okC] at h; split at h <;> cases h; exact ht
  | exit id => intro D D' h t ht; simp only [okC] at h; cases h; simp
  | ret => intro D D' h t ht; simp only [okC] at h; cases h; simp
  | rangeFunc => intro D D' h; simp [okC] at h
  | scope => intro D D' h; simp [okC] at h
  | goto => intro D D' h; simp [okC] at h
  | refuse => intro D D' h; simp [okC] at h
inductive Both (D : Nat) : Option (List Value × AH) → Option (List Value × AH) → Prop
  | no : Both D none none
  | yes {A A' : List Value} (H : AH) (h : Agree D A A') : Both D (some (A, H)) (some (A', H))
theorem step_both {ops : Array Oper} {o : Oper} {D : Nat} (ho : okOper D ops o = true) {A A' : List Value} (h : Agree D A A') (H : AH) : Both (wipe D o.dst) (aStep P G call ops o A H) (aStep P G call ops o A' H) := by
  unfold okOper at ho
  simp only [Bool.and_eq_true] at ho
  have hev : ∀ x ∈ o.op.operands.toList, aEv A x = aEv A' x := fun x hx => h.ev (List.all_eq_true.1 ho.1 x hx)
  have hw : Region.wanted o (aYield ops A) = Region.wanted o (aYield ops A') := by
    unfold Region.wanted
    cases hg : o.guard with
    | none => rfl
    | some g =>
      obtain ⟨g, want⟩ := g
      rw [hg] at ho
      have hy : aYield ops A g = aYield ops A' g := by
        unfold aYield
        cases hd : (ops[g]?).bind (·.dst) with
        | none => rfl
        | some t =>
          have h2 := ho.2
          simp only [hd, Bool.not_eq_true'] at h2
          simp only [Option.bind_some]
          rw [h.2 t h2]
      simp only [hy]
  unfold aStep
  rw [hw, aOp_congr hev H]
  split
  · split
    · cases aOp P call (aEv A') o H with
      | none => exact .no
      | some r => exact .yes r.2 (h.put o.dst r.1)
    · exact .yes H (h.put o.dst undef)
  · exact .no
theorem ops_both {ops : Array Oper} : ∀ {l : List Oper} {D D' : Nat}, okOps ops l D = some D' → ∀ {A A' : List Value}, Agree D A A' → ∀ H, Both D' (aOps P G call ops l A H) (aOps P G call ops l A' H) := by
  intro l
  induction l with
  | nil => intro D D' h A A' hA H; simp only [okOps] at h; cases h; exact .yes H hA
  | cons o l ih =>
    intro D D' h A A' hA H
    simp only [okOps] at h
    split at h
    · rename_i ho
      simp only [aOps]
      have := step_both (P := P) (G := G) (call := call) ho hA H
      generalize aStep P G call ops o A H = x at this
      generalize aStep P G call ops o A' H = y at this
      cases this with
      | no => exact .no
      | yes H1 hA1 => exact ih h hA1 H1
    · cases h
theorem okOps_take {ops : Array Oper} : ∀ {l : List Oper} {D D' : Nat}, okOps ops l D = some D' → ∀ i, ∃ Di, okOps ops (l.take i) D = some Di ∧ ∀ o, l[i]? = some o → okOper Di ops o = true := by
  intro l
  induction l with
  | nil => intro D D' h i; exact ⟨D, by cases i <;> rfl, fun o ho => by simp at ho⟩
  | cons o l ih =>
    intro D D' h i
    simp only [okOps] at h
    split at h
    · rename_i ho
      cases i with
      | zero => exact ⟨D, rfl, fun o' ho' => by simp at ho'; subst ho'; exact ho⟩
      | succ i =>
        obtain ⟨Di, h1, h2⟩ := ih h i
        refine ⟨Di, ?_, fun o' ho' => h2 o' (by simpa using ho')⟩
        simp only [List.take_succ_cons, okOps, ho]
        exact h1
    · cases h
theorem draw_both {ops : Array Oper} {D D' : Nat} (h : okOps ops ops.toList D = some D') {A A' : List Value} (hA : Agree D A A') (H : AH) : Both D' (aDraw P G call ops A H) (aDraw P G call ops A' H) := by
  unfold aDraw
  split
  · exact .no
  · split
    · exact ops_both h hA H
    · rename_i p ps hp
      have hb := ops_both (P := P) (G := G) (call := call) h hA H
      have key : aOps P G call ops ops.toList A H ≠ none → ((∀ q ∈ p :: ps, lookOK P (stA P G call ops A H) ops q) ↔ ∀ q ∈ p :: ps, lookOK P (stA P G call ops A' H) ops q) := by
        intro hne
        have hst : ∀ i, ∃ Di, Agree Di (stA P G call ops A H i).1 (stA P G call ops A' H i).1 ∧ (stA P G call ops A H i).2 = (stA P G call ops A' H i).2 ∧ ∀ o, ops[i]? = some o → okOper Di ops o = true := by
          intro i
          obtain ⟨Di, h1, h2⟩ := okOps_take h i
          have hbi := ops_both (P := P) (G := G) (call := call) h1 hA H
          cases hx : aOps P G call ops ops.toList A H with
          | none => exact absurd hx hne
          | some r =>
            have h3 := stA_take hx i
            rw [h3] at hbi
            unfold stA at hbi ⊢
            rw [h3] at hbi ⊢
            generalize aOps P G call ops (ops.toList.take i) A' H = y at hbi
            simp only [Option.getD_some] at hbi ⊢
            generalize hz : stA P G call ops A H i = z at hbi
            unfold stA at hz
            rw [h3] at hz
            simp only [Option.getD_some] at hz
            cases hbi with
            | yes H1 hA1 =>
              exact ⟨Di, hA1, rfl, fun o ho => h2 o (by simpa using ho)⟩
        have one : ∀ q, lookOK P (stA P G call ops A H) ops q ↔ lookOK P (stA P G call ops A' H) ops q := by
          intro q
          unfold lookOK
          obtain ⟨D1, a1, e1, o1⟩ := hst q.1
          obtain ⟨D2, a2, e2, o2⟩ := hst (if q.2 < q.1 then q.2 else q.2 + 1)
          constructor
          · intro hl o ho
            have hev : ∀ x ∈ o.op.operands.toList, aEv (stA P G call ops A H q.1).1 x = aEv (stA P G call ops A' H q.1).1 x := fun x hx => a1.ev (by
              have := o1 o ho
              unfold okOper at this
              simp only [Bool.and_eq_true] at this
              exact List.all_eq_true.1 this.1 x hx)
            have := hl o ho
            rw [aRd_congr hev, aRd_congr hev, e1, e2] at this
            exact this
          · intro hl o ho
            have hev : ∀ x ∈ o.op.operands.toList, aEv (stA P G call ops A H q.1).1 x = aEv (stA P G call ops A' H q.1).1 x := fun x hx => a1.ev (by
              have := o1 o ho
              unfold okOper at this
              simp only [Bool.and_eq_true] at this
              exact List.all_eq_true.1 this.1 x hx)
            rw [aRd_congr hev, aRd_congr hev, e1, e2]
            exact hl o ho
        exact ⟨fun hl q hq => (one q).1 (hl q hq), fun hl q hq => (one q).2 (hl q hq)⟩
      have hn : aOps P G call ops ops.toList A H = none → aOps P G call ops ops.toList A' H = none := by
        intro e; rw [e] at hb; generalize aOps P G call ops ops.toList A' H = y at hb; cases hb; rfl
      by_cases hne : aOps P G call ops ops.toList A H = none
      · rw [hne, hn hne]
        unfold chk
        have : ∀ (c : Prop) [Decidable c], (if c then (none : Option (List Value × AH)) else none) = none := fun c _ => by split <;> rfl
        rw [this, this]; exact .no
      · unfold chk
        by_cases hc : ∀ q ∈ p :: ps, lookOK P (stA P G call ops A H) ops q
        · rw [if_pos hc, if_pos ((key hne).1 hc)]; exact hb
        · rw [if_neg hc, if_neg (fun h => hc ((key hne).2 h))]; exact .no
inductive BothR (D D' : Nat) : Option AR → Option AR → Prop
  | no : BothR D D' none none
  | normal {A A' : List Value} (H : AH) (h : Agree D' A A') : BothR D D' (some (.normal, A, H)) (some (.normal, A', H))
  | exit (i : Nat) {A A' : List Value} (H : AH) (h : Agree D A A') : BothR D D' (some (.exit i, A, H)) (some (.exit i, A', H))
  | ret {A A' : List Value} (H : AH) (h : Agree D A A') : BothR D D' (some (.ret, A, H)) (some (.ret, A', H))
theorem code_both : ∀ {c : Code} {D D' : Nat}, okC c D = some D' → ∀ {A A' : List Value}, Agree D A A' → ∀ H, BothR D D' (aCode P G call c A H) (aCode P G call c A' H) := by
  intro c
  induction c with
  | skip => intro D D' h A A' hA H; simp only [okC] at h; cases h; exact .normal H hA
  | label l => intro D D' h A A' hA H; simp only [okC] at h; cases h; exact .normal H hA
  | exit id => intro D D' h A A' hA H; exact .exit id H hA
  | ret => intro D D' h A A' hA H; exact .ret H hA
  | region id ops draw =>
    intro D D' h A A' hA H
    simp only [okC] at h
    simp only [aCode]
    have hb : Both D' (aRegion P G call ops draw A H) (aRegion P G call ops draw A' H) := by
      cases draw with
      | true => exact draw_both h hA H
      | false => exact ops_both h hA H
    generalize aRegion P G call ops draw A H = x at hb
    generalize aRegion P G call ops draw A' H = y at hb
    cases hb with
    | no => exact .no
    | yes H1 hA1 => exact .normal H1 hA1
  | seq x y ihx ihy =>
    intro D D' h A A' hA H
    simp only [okC] at h
    split at h
    · rename_i D1 h1
      split at h
      · rename_i D2 h2
        cases h
        simp only [aCode]
        have hb := ihx h1 hA H
        generalize aCode P G call x A H = u at hb
        generalize aCode P G call x A' H = v at hb
        cases hb with
        | no => exact .no
        | normal H1 hA1 =>
          have hb2 := ihy h2 hA1 H1
          simp only [Option.bind_some]
          rename_i A1 A1'
          generalize aCode P G call y A1 H1 = u at hb2
          generalize aCode P G call y A1' H1 = v at hb2
          cases hb2 with
          | no => exact .no
          | normal H2 hA2 => exact .normal H2 hA2
          | exit i H2 hA2 => exact .exit i H2 (hA2.mono (fun t ht => okC_le h1 t ht))
          | ret H2 hA2 => exact .ret H2 (hA2.mono (fun t ht => okC_le h1 t ht))
        | exit i H1 hA1 => exact .exit i H1 hA1
        | ret H1 hA1 => exact .ret H1 hA1
      · cases h
    · cases h
  | cond c x y ihx ihy =>
    intro D D' h A A' hA H
    simp only [okC] at h
    split at h
    · rename_i hc
      split at h
      · rename_i D1 D2 h1 h2
        cases h
        simp only [aCode]
        rw [hA.ev hc]
        have m1 : ∀ t, (D1 ||| D2).testBit t = false → D1.testBit t = false := fun t ht => by rw [Nat.testBit_or, Bool.or_eq_false_iff] at ht; exact ht.1
        have m2 : ∀ t, (D1 ||| D2).testBit t = false → D2.testBit t = false := fun t ht => by rw [Nat.testBit_or, Bool.or_eq_false_iff] at ht; exact ht.2
        generalize aEv A' c = v
        cases v with
        | bool b =>
          cases b with
          | true =>
            have hb := ihx h1 hA H
            simp only
            generalize aCode P G call x A H = u at hb
            generalize aCode P G call x A' H = v at hb
            cases hb with
            | no => exact .no
            | normal H1 hA1 => exact .normal H1 (hA1.mono m1)
            | exit i H1 hA1 => exact .exit i H1 hA1
            | ret H1 hA1 => exact .ret H1 hA1
          | false =>
            have hb := ihy h2 hA H
            simp only
            generalize aCode P G call y A H = u at hb
            generalize aCode P G call y A' H = v at hb
            cases hb with
            | no => exact .no
            | normal H1 hA1 => exact .normal H1 (hA1.mono m2)
            | exit i H1 hA1 => exact .exit i H1 hA1
            | ret H1 hA1 => exact .ret H1 hA1
        | _ => exact .no
      · cases h
    · cases h
  | block id x ih =>
    intro D D' h A A' hA H
    simp only [okC] at h
    split at h <;> cases h
    rename_i D1 h1
    simp only [aCode]
    have hb := ih h1 hA H
    generalize aCode P G call x A H = u at hb
    generalize aCode P G call x A' H = v at hb
    cases hb with
    | no => exact .no
    | normal H1 hA1 => exact .normal H1 (hA1.mono (fun t ht => okC_le h1 t ht))
    | exit i H1 hA1 =>
      simp only [Option.map_some]
      split
      · exact .normal H1 hA1
      · exact .exit i H1 hA1
    | ret H1 hA1 => exact .ret H1 hA1
  | loop x ih =>
    intro D D' h A A' hA H
    simp only [okC] at h
    split at h <;> cases h
    rename_i D1 h1
    simp only [aCode]
    have it : ∀ n {A A' : List Value} (H : AH), Agree D A A' → BothR D D (aIter (aCode P G call x) n A H) (aIter (aCode P G call x) n A' H) := by
      intro n
      induction n with
      | zero => intro A A' H _; exact .no
      | succ n ihn =>
        intro A A' H hA
        simp only [aIter]
        have hb := ih h1 hA H
        generalize aCode P G call x A H = u at hb
        generalize aCode P G call x A' H = v at hb
        cases hb with
        | no => exact .no
        | normal H1 hA1 => exact ihn H1 (hA1.mono (fun t ht => okC_le h1 t ht))
        | exit i H1 hA1 => exact .exit i H1 hA1
        | ret H1 hA1 => exact .ret H1 hA1
    cases hl : aLoop (aCode P G call x) A H with
    | some r =>
      obtain ⟨n, hn⟩ := aLoop_iff.1 hl
      have hb := it n H hA
      rw [hn] at hb
      cases hm : aIter (aCode P G call x) n A' H with
      | none => rw [hm] at hb; cases hb
      | some r' =>
        rw [aLoop_iff.2 ⟨n, hm⟩]
        rw [hm] at hb
        exact hb
    | none =>
      cases hl' : aLoop (aCode P G call x) A' H with
      | none => exact .no
      | some r' =>
        obtain ⟨n, hn⟩ := aLoop_iff.1 hl'
        have hb := it n H hA
        rw [hn] at hb
        cases hm : aIter (aCode P G call x) n A H with
        | none => rw [hm] at hb; cases hb
        | some r => rw [aLoop_iff.2 ⟨n, hm⟩] at hl; cases hl
  | rangeFunc => intro D D' h; simp [okC] at h
  | scope => intro D D' h; simp [okC] at h
  | goto => intro D D' h; simp [okC] at h
  | refuse => intro D D' h; simp [okC] at h
def subB (D D' : Nat) : Bool := D ||| D' == D'
theorem subB_le {D D' : Nat} (h : subB D D' = true) : ∀ t, D'.testBit t = false → D.testBit t = false := by
  intro t ht
  unfold subB at h
  have e : D ||| D' = D' := by simpa using h
  rw [← e, Nat.testBit_or, Bool.or_eq_false_iff] at ht
  exact ht.1
theorem Resp.le {D D' : Nat} {k : List Value → AH → Option R} (h : Resp D' k) (hs : subB D D' = true) : Resp D k := fun A A' H hA => h A A' H (hA.mono (subB_le hs))
def okInto (c : Code) (D D' : Nat) : Bool := match okC c D with
  | some D1 => subB D1 D'
  | none => false
theorem resp_code {c : Code} {D D' : Nat} {kn : List Value → AH → Option R} {kx : Nat → List Value → AH → Option R} {kr : List Value → AH → Option R} (h : okInto c D D' = true) (hn : Resp D' kn) (hx : ∀ i, Resp D (kx i)) (hr : Resp D kr) :
    Resp D (fun A H => cCode P G call c A H kn kx kr) := by
  intro A A' H hA
  unfold okInto at h
  split at h
  · rename_i D1 h1
    simp only
    rw [cCode_eq, cCode_eq]
    have hb := code_both (P := P) (G := G) (call := call) h1 hA H
    generalize aCode P G call c A H = u at hb
    generalize aCode P G call c A' H = v at hb
    cases hb with
    | no => rfl
    | normal H1 hA1 => exact hn _ _ H1 (hA1.mono (subB_le h))
    | exit i H1 hA1 => exact hx i _ _ H1 hA1
    | ret H1 hA1 => exact hr _ _ H1 hA1
  · cases h
theorem resp_loop {c : Code} {D : Nat} {kx : Nat → List Value → AH → Option R} {kr : List Value → AH → Option R} (h : okInto c D D = true) (hx : ∀ i, Resp D (kx i)) (hr : Resp D kr) :
    Resp D (fun A H => cLoop P G call c A H kx kr) := by
  intro A A' H hA
  unfold okInto at h
  split at h
  · rename_i D1 h1
    have hb := code_both (P := P) (G := G) (call := call) (c := .loop c) (D := D) (D' := D) (by simp only [okC, h1]) hA H
    simp only [aCode] at hb
    simp only [cLoop]
    generalize aLoop (aCode P G call c) A H = u at hb
    generalize aLoop (aCode P G call c) A' H = v at hb
    cases hb with
    | no => rfl
    | normal H1 hA1 => rfl
    | exit i H1 hA1 => exact hx i _ _ H1 hA1
    | ret H1 hA1 => exact hr _ _ H1 hA1
  · cases h
def okRes (D : Nat) (rs : List ResultVar) : Bool := rs.all fun r => match r with
  | .tmp t => !D.testBit t
  | .cell a _ => !D.testBit a
theorem resp_many {D : Nat} : ∀ {rs : List ResultVar} (_ : okRes D rs = true) (k : List Value → AH → Option R), Resp D (fun A H => cMany P A H rs fun vs => k vs H) := by
  intro rs
  induction rs with
  | nil => intro _ k A A' H hA; rfl
  | cons r rs ih =>
    intro h k A A' H hA
    unfold okRes at h
    simp only [List.all_cons, Bool.and_eq_true] at h
    cases r with
    | tmp t =>
      simp only [Bool.not_eq_true'] at h
      simp only [cMany]
      rw [hA.2 t h.1]
      exact ih h.2 (fun vs H => k ((A'[t]?.getD undef) :: vs) H) A A' H hA
    | cell a t =>
      simp only [Bool.not_eq_true'] at h
      simp only [cMany]
      rw [hA.2 a h.1, tb_eq, tb_eq]
      congr 1
      funext g
      cases g <;> (simp only; congr 1; funext v; exact ih h.2 (fun vs H => k (v :: vs) H) A A' H hA)
theorem resp_fin {D : Nat} {rs : List ResultVar} (h : okRes D rs = true) : Resp D (cFin P rs) := resp_many h fun vs H => some (tup vs, H)
theorem resp_none {D : Nat} : Resp D (fun (_ : List Value) (_ : AH) => (none : Option R)) := fun _ _ _ _ => rfl
theorem resp_block {D id : Nat} {kn : List Value → AH → Option R} {kx : Nat → List Value → AH → Option R} (hn : Resp D kn) (hx : ∀ i, Resp D (kx i)) : ∀ i, Resp D (fun A H => if i = id then kn A H else kx i A H) := by
  intro i A A' H hA
  simp only
  split
  · exact hn _ _ _ hA
  · exact hx i _ _ _ hA
theorem resp_clear {D : Nat} {n : List Value → AH → Option R} (h : Resp D n) : Resp D (fun A H => n (clear D A) H) := by
  intro A A' H hA
  simp only
  rw [← h A (clear D A) H (clear_agree D A), ← h A' (clear D A') H (clear_agree D A')]
  exact h A A' H hA
variable {A : List Value} {H : AH} {kn : List Value → AH → Option R} {kx : Nat → List Value → AH → Option R} {kr : List Value → AH → Option R}
theorem cond_at {c x y : Code} {e : Operand} (h : c = .cond e x y) : cCode P G call c A H kn kx kr = condK (aEv A e) (cCode P G call x A H kn kx kr) (cCode P G call y A H kn kx kr) := by subst h; rfl
theorem block_clear {c x : Code} {id : Nat} (h : c = .block id x) {D : Nat} {n : Nat → List Value → AH → Option R} (hn : n = fun i A H => if i = id then kn A H else kx i A H) (hD : ∀ i, Resp D (n i)) :
    cCode P G call c A H kn kx kr = cCode P G call x A H kn (fun i A H => n i (clear D A) H) kr := by
  subst h
  have e : (fun i A H => n i (clear D A) H) = n := by
    funext i A H
    exact (hD i A (clear D A) H (clear_agree D A)).symm
  rw [e, hn]; try rfl
theorem loop_at {c x : Code} (h : c = .loop x) : cCode P G call c A H kn kx kr = cLoop P G call x A H kx kr := by subst h; rfl
theorem loop_slots {x : Code} {D : Nat} {n : List Value → AH → Option R} (hn : n = fun A H => cLoop P G call x A H kx kr) (hD : Resp D n) : cLoop P G call x A H kx kr = n (clear D A) H := by
  have := hD A (clear D A) H (clear_agree D A)
  rw [← this, hn]
theorem loop_clear {x : Code} {D : Nat} {n : List Value → AH → Option R} (hn : n = fun A H => cLoop P G call x A H kx kr) (hD : Resp D n) :
    cLoop P G call x A H kx kr = cCode P G call x A H (fun A H => n (clear D A) H) kx kr := by
  have e : (fun A H => n (clear D A) H) = n := by
    funext A H
    exact (hD A (clear D A) H (clear_agree D A)).symm
  rw [e, hn]; exact cLoop_eq ..
def Code.pre : Nat → Code → Code
  | 0, .seq x _ => x
  | k + 1, .seq x y => .seq x (Code.pre k y)
  | _, c => c
def Code.post : Nat → Code → Code
  | 0, .seq _ y => y
  | k + 1, .seq _ y => Code.post k y
  | _, _ => .skip
theorem pre_at : ∀ (k : Nat) (c : Code) (A : List Value) (H : AH), cCode P G call c A H kn kx kr = cCode P G call (Code.pre k c) A H (fun A H => cCode P G call (Code.post k c) A H kn kx kr) kx kr := by
  intro k
  induction k with
  | zero => intro c A H; cases c <;> rfl
  | succ k ih =>
    intro c A H
    cases c with
    | seq x y =>
      have e : (fun A H => cCode P G call y A H kn kx kr) = fun A H => cCode P G call (Code.pre k y) A H (fun A H => cCode P G call (Code.post k y) A H kn kx kr) kx kr := by
        funext A H; exact ih y A H
      show cCode P G call x A H (fun A H => cCode P G call y A H kn kx kr) kx kr = _
      rw [e]; rfl
    | _ => rfl
variable {l T : Option R}
theorem pre_to {c : Code} {k D : Nat} {n : List Value → AH → Option R} (h0 : l = cCode P G call c A H kn kx kr) (hn : n = fun A H => cCode P G call (Code.post k c) A H kn kx kr) (hD : Resp D n)
    (h1 : cCode P G call (Code.pre k c) A H (fun A H => n (clear D A) H) kx kr = T) : l = T := by
  have e : (fun A H => n (clear D A) H) = n := by
    funext A H
    exact (hD A (clear D A) H (clear_agree D A)).symm
  rw [e, hn] at h1
  exact h0.trans ((pre_at k c A H).trans h1)
theorem condK_to {v v' : Value} {x x' y y' : Option R} (h : v = v') (hx : x = x') (hy : y = y') : condK v x y = condK v' x' y' := by rw [h, hx, hy]
theorem cond_to {c x y : Code} {e : Operand} (h0 : l = cCode P G call c A H kn kx kr) (h : c = .cond e x y) (h1 : condK (aEv A e) (cCode P G call x A H kn kx kr) (cCode P G call y A H kn kx kr) = T) : l = T := h0.trans ((cond_at h).trans h1)
theorem block_to {c x : Code} {id D : Nat} {n : Nat → List Value → AH → Option R} (h0 : l = cCode P G call c A H kn kx kr) (h : c = .block id x) (hn : n = fun i A H => if i = id then kn A H else kx i A H) (hD : ∀ i, Resp D (n i))
    (h1 : cCode P G call x A H kn (fun i A H => n i (clear D A) H) kr = T) : l = T := h0.trans ((block_clear h hn hD).trans h1)
theorem loop_in {c x : Code} {D : Nat} {n : List Value → AH → Option R} (h0 : l = cCode P G call c A H kn kx kr) (h : c = .loop x) (hn : n = fun A H => cLoop P G call x A H kx kr) (hD : Resp D n) (h1 : n (clear D A) H = T) : l = T :=
  h0.trans ((loop_at h).trans ((loop_slots hn hD).trans h1))
theorem loop_to {x : Code} {D : Nat} {n : List Value → AH → Option R} (h0 : l = cLoop P G call x A H kx kr) (hn : n = fun A H => cLoop P G call x A H kx kr) (hD : Resp D n)
    (h1 : cCode P G call x A H (fun A H => n (clear D A) H) kx kr = T) : l = T := h0.trans ((loop_clear hn hD).trans h1)
end
abbrev OV := Option (Value × AH)
abbrev u : Value := undef
abbrev KK := List Value → AH → OV
abbrev KX := Nat → List Value → AH → OV
noncomputable abbrev CK (P : Program) (G : List Nat) (call : CallF) (c : Code) (kn : KK) (kx : KX) (kr : KK) : KK := fun A H => cCode P G call c A H kn kx kr
noncomputable abbrev CL (P : Program) (G : List Nat) (call : CallF) (c : Code) (kx : KX) (kr : KK) : KK := fun A H => cLoop P G call c A H kx kr
abbrev BX (id : Nat) (kn : KK) (kx : KX) : KX := fun i A H => if i = id then kn A H else kx i A H
abbrev clr (D : Nat) (n : KK) : KK := fun A H => n (clear D A) H
abbrev clx (D : Nat) (n : KX) : KX := fun i A H => n i (clear D A) H
def kx0 : KX := fun _ _ _ => none
def fullD : Nat := 2 ^ 4096 - 1
def ls (l : List Value) (n : Nat) : List Value := l ++ List.replicate n u
section
variable {P : Program} {G : List Nat} {call : CallF} {A : List Value} {H : AH} {kn : KK} {kx : KX} {kr : KK} {l T : OV}
theorem kx0_d : ∀ i, Resp fullD (kx0 i) := fun _ => resp_none
theorem rf {rs : List ResultVar} {D : Nat} (h : okRes D rs = true := by kernel_rfl) : Resp D (cFin P rs) := resp_fin h
theorem rc {c : Code} {D Dn Dx Dr : Nat} (hn : Resp Dn kn) (hx : ∀ i, Resp Dx (kx i)) (hr : Resp Dr kr) (h : (okInto c D Dn && (subB D Dx && subB D Dr)) = true := by kernel_rfl) : Resp D (CK P G call c kn kx kr) := by
  simp only [Bool.and_eq_true] at h
  exact resp_code h.1 hn (fun i => (hx i).le h.2.1) (hr.le h.2.2)
theorem rl {c : Code} {D Dx Dr : Nat} (hx : ∀ i, Resp Dx (kx i)) (hr : Resp Dr kr) (h : (okInto c D D && (subB D Dx && subB D Dr)) = true := by kernel_rfl) : Resp D (CL P G call c kx kr) := by
  simp only [Bool.and_eq_true] at h
  exact resp_loop h.1 (fun i => (hx i).le h.2.1) (hr.le h.2.2)
theorem rb {D id Dn Dx : Nat} (hn : Resp Dn kn) (hx : ∀ i, Resp Dx (kx i)) (h : (subB D Dn && subB D Dx) = true := by kernel_rfl) : ∀ i, Resp D (BX id kn kx i) := by
  simp only [Bool.and_eq_true] at h
  exact resp_block (hn.le h.1) (fun i => (hx i).le h.2)
theorem cd {D : Nat} {n : KK} (h : Resp D n) : Resp D (clr D n) := resp_clear h
theorem cx {D : Nat} {n : KX} (h : ∀ i, Resp D (n i)) : ∀ i, Resp D (clx D n i) := fun i => resp_clear (h i)
theorem pt {c : Code} {D : Nat} {n : KK} (h0 : l = cCode P G call c A H kn kx kr) (k : Nat) (hD : Resp D n) (h1 : cCode P G call (Code.pre k c) A H (clr D n) kx kr = T)
    (hn : n = fun A H => cCode P G call (Code.post k c) A H kn kx kr := by kernel_rfl) : l = T := pre_to h0 hn hD h1
theorem ct {c : Code} (h0 : l = cCode P G call c A H kn kx kr) (x y : Code) (e : Operand) {v : Value} {X Y : OV} (hx : cCode P G call x A H kn kx kr = X) (hy : cCode P G call y A H kn kx kr = Y)
    (h : c = .cond e x y := by kernel_rfl) (he : aEv A e = v := by kernel_rfl) : l = condK v X Y := cond_to h0 h (condK_to he hx hy)
theorem bt {c : Code} {D : Nat} {n : KX} (h0 : l = cCode P G call c A H kn kx kr) (x : Code) (id : Nat) (hD : ∀ i, Resp D (n i)) (h1 : cCode P G call x A H kn (clx D n) kr = T)
    (h : c = .block id x := by kernel_rfl) (hn : n = fun i A H => if i = id then kn A H else kx i A H := by kernel_rfl) : l = T := block_to h0 h hn hD h1
theorem li {c : Code} {D : Nat} {n : KK} (h0 : l = cCode P G call c A H kn kx kr) (x : Code) (hD : Resp D n) (h1 : n (clear D A) H = T) (h : c = .loop x := by kernel_rfl)
    (hn : n = fun A H => cLoop P G call x A H kx kr := by kernel_rfl) : l = T := loop_in h0 h hn hD h1
theorem lt' {x : Code} {D : Nat} {n : KK} (h0 : l = cLoop P G call x A H kx kr) (hD : Resp D n) (h1 : cCode P G call x A H (clr D n) kx kr = T)
    (hn : n = fun A H => cLoop P G call x A H kx kr := by kernel_rfl) : l = T := loop_to h0 hn hD h1
theorem ht' {id : Nat} (h0 : l = BX id kn kx id A H) (h1 : kn A H = T) : l = T := by rw [h0, ← h1]; simp [BX]
theorem fo {f : Nat} {fn : Func} (hf : P.funcs[f]? = some fn) {args : List Value} {t : OV} {r : Value × AH} (e : cBody P G (aF P G) fn.ntmps fn.results.toList (bodyOf fn) args H = t) (h : t = some r)
    (hb : fn.body.isSome = true := by kernel_rfl) (hn : (fn.name == "runtime.NumGoroutine") = false := by kernel_rfl) (hd : dshape (bodyOf fn) = none := by kernel_rfl) : aF P G f args H = some r := aF_of_body hf hb hn hd (e.trans h)
end
end Go.Proofs.YtodpbobjmkhcfaaGreatDoor.Gst
namespace Go.Proofs.YtodpbobjmkhcfaaGreatDoor.Gst
open Go Go.RowKit Go.ChangeShapes
set_option linter.unusedSimpArgs false
def Keeps (H H' : AH) : Prop := H.size ≤ H'.size ∧ ∀ b, b < H.size → H'.get b = H.get b
theorem Keeps.refl (H : AH) : Keeps H H := ⟨Nat.le_refl _, fun _ _ => rfl⟩
theorem Keeps.trans {A B C : AH} (h : Keeps A B) (k : Keeps B C) : Keeps A C := ⟨Nat.le_trans h.1 k.1, fun b hb => by rw [k.2 b (by have := h.1; omega), h.2 b hb]⟩
theorem Keeps.push (H : AH) (o : AObj) : Keeps H (H.push o) := ⟨by rw [AH.size_push]; omega, fun b hb => AH.get_push_old hb⟩
theorem Keeps.get {H H' : AH} (h : Keeps H H') {b : Nat} {o : AObj} (hb : H.get b = some o) : H'.get b = some o := by rw [h.2 b (AH.lt_of_get hb)]; exact hb
inductive Ty where
  | int (k : IntKind)
  | bool
  | slice (t : Ty)
  | unit
  | pair (a b : Ty)
def Ty.w : Ty → Nat
  | .int _ | .bool | .slice _ => 1
  | .unit => 0
  | .pair a b => a.w + b.w
abbrev Ty.I : Ty → Type
  | .int _ => Int
  | .bool => Bool
  | .slice t => List t.I
  | .unit => Unit
  | .pair a b => a.I × b.I
inductive RowAbs {α : Type} (R : α → List Value → Prop) : List α → List Value → Prop
  | nil : RowAbs R [] []
  | cons {x : α} {l : List α} {c cs : List Value} (h : R x c) (k : RowAbs R l cs) : RowAbs R (x :: l) (c ++ cs)
def Abs (H : AH) : (t : Ty) → t.I → List Value → Prop
  | .int k, n, cs => cs = [.int k n] ∧ (Lit.int k n).wf = true
  | .bool, b, cs => cs = [.bool b]
  | .unit, _, cs => cs = []
  | .pair a b, x, cs => ∃ c1 c2, cs = c1 ++ c2 ∧ Abs H a x.1 c1 ∧ Abs H b x.2 c2
  | .slice t, l, cs => (l = [] ∧ cs = [.slice none 0 0]) ∨ (l = [] ∧ ∃ b, cs = [.slice (some ⟨b, 0, none⟩) 0 0]) ∨
      ∃ b row, H.get b = some (.cells true row) ∧ cs = [.slice (some ⟨b, 0, none⟩) l.length t.w] ∧ RowAbs (Abs H t) l row ∧ l.length ≤ maxLen
theorem RowAbs.mono {α : Type} {R S : α → List Value → Prop} (h : ∀ x c, R x c → S x c) {l : List α} {cs : List Value} (k : RowAbs R l cs) : RowAbs S l cs := by
  induction k with
  | nil => exact .nil
  | cons h1 _ ih => exact .cons (h _ _ h1) ih
theorem Abs.keep {H H' : AH} (k : Keeps H H') : ∀ (t : Ty) (x : t.I) (cs : List Value), Abs H t x cs → Abs H' t x cs := by
  intro t
  induction t with
  | int k => intro x cs h; exact h
  | bool => intro x cs h; exact h
  | unit => intro x cs h; exact h
  | pair a b iha ihb =>
    intro x cs h
    obtain ⟨c1, c2, e, h1, h2⟩ := h
    exact ⟨c1, c2, e, iha _ _ h1, ihb _ _ h2⟩
  | slice t ih =>
    intro x cs h
    rcases h with h | h | ⟨b, row, h1, h2, h3, h4⟩
    · exact .inl h
    · exact .inr (.inl h)
    · exact .inr (.inr ⟨b, row, k.get h1, h2, h3.mono ih, h4⟩)
theorem RowAbs.length {α : Type} {R : α → List Value → Prop} {n : Nat} (h : ∀ x c, R x c → c.length = n) {l : List α} {cs : List Value} (k : RowAbs R l cs) : cs.length = l.length * n := by
  induction k with
  | nil => simp
  | cons h1 _ ih => rw [List.length_append, h _ _ h1, ih, List.length_cons, Nat.add_mul]; omega
theorem Abs.length {H : AH} : ∀ (t : Ty) (x : t.I) (cs : List Value), Abs H t x cs → cs.length = t.w := by
  intro t
  induction t with
  | int k => intro x cs h; rw [h.1]; rfl
  | bool => intro x cs h; have h : cs = _ := h; rw [h]; rfl
  | unit => intro x cs h; have h : cs = _ := h; rw [h]; rfl
  | pair a b iha ihb =>
    intro x cs h
    obtain ⟨c1, c2, e, h1, h2⟩ := h
    rw [e, List.length_append, iha _ _ h1, ihb _ _ h2]; rfl
  | slice t ih =>
    intro x cs h
    rcases h with h | ⟨_, b, h⟩ | ⟨b, row, h1, h2, h3, h4⟩
    · rw [h.2]; rfl
    · rw [h]; rfl
    · rw [h2]; rfl
def Small : (t : Ty) → t.I → Prop
  | .int _, _ => True
  | .bool, _ => True
  | .unit, _ => True
  | .pair a b, x => Small a x.1 ∧ Small b x.2
  | .slice t, l => l.length ≤ reachBytes ∧ ∀ x ∈ l, Small t x
def wOK {Hd : Type} (P : Program) (t : TypeId) (d : DataW Hd) : Prop := ∀ n ∈ DataW.weights P t d, n ≤ reachBytes
theorem weightsAll_mem {Hd : Type} {P : Program} {e : TypeId} {d : DataW Hd} {n : Nat} : ∀ {l : List (DataW Hd)}, d ∈ l → n ∈ DataW.weights P e d → n ∈ DataW.weightsAll P e l := by
  intro l
  induction l with
  | nil => intro h; cases h
  | cons x l ih =>
    intro h hn
    rw [DataW.weightsAll, List.mem_append]
    rcases List.mem_cons.1 h with rfl | h
    · exact .inl hn
    · exact .inr (ih h hn)
theorem weightsEach_mem {Hd : Type} {P : Program} {n : Nat} : ∀ {ts : List TypeId} {ds : List (DataW Hd)} {i : Nat} {t : TypeId} {d : DataW Hd}, ts[i]? = some t → ds[i]? = some d → n ∈ DataW.weights P t d → n ∈ DataW.weightsEach P ts ds := by
  intro ts
  induction ts with
  | nil => intro ds i t d h; simp at h
  | cons t0 ts ih =>
    intro ds i t d h1 h2 hn
    cases ds with
    | nil => simp at h2
    | cons d0 ds =>
      rw [DataW.weightsEach, List.mem_append]
      cases i with
      | zero =>
        simp at h1 h2
        subst h1; subst h2
        exact .inl hn
      | succ i => exact .inr (ih (by simpa using h1) (by simpa using h2) hn)
def chkT (P : Program) : Ty → (TypeId → Bool) × (List Field → Nat → Bool)
  | .int k => (fun t => match P.underlying t with | some (.int k') => k' == k && P.cellsOf t == 1 | _ => false, fun _ _ => false)
  | .bool => (fun t => match P.underlying t with | some .bool => P.cellsOf t == 1 | _ => false, fun _ _ => false)
  | .slice ty => (fun t => match P.underlying t with | some (.slice e) => (chkT P ty).1 e && P.cellsOf e == ty.w && decide (0 < ty.w ∧ 0 < P.bytesOf e) && P.cellsOf t == 1 | _ => false, fun _ _ => false)
  | .unit => (fun _ => false, fun fs _ => fs.isEmpty)
  | .pair a b =>
    let F : List Field → Nat → Bool := fun fs off => match fs with
      | f :: fs => f.offset == off && (chkT P a).1 f.type && P.cellsOf f.type == a.w && (chkT P b).2 fs (off + a.w)
      | [] => false
    (fun t => match P.underlying t with | some (.struct fs) => P.cellsOf t == a.w + b.w && F fs.toList 0 | _ => false, F)
section
variable {Hd : Type} {enc : TypeId × Value → Hd} {P : Program} {w : World} {held : Bool}
theorem Rel.pushRo {B : Nat} {w0 : World} {ρ : Ren} {H : AH} (h : Rel P w0 B ρ H w) {row : List Value} {c d sz : Nat} (hc : c < w.heap.size) (hcB : c < B) (hor : ORel P ρ d sz (.cells true row) w.heap[c]?) :
    Rel P w0 B (ρ.upd H.size (c, d, sz)) (H.push (.cells true row)) w := by
  have hnone : ρ H.size = none := by
    cases hn : ρ H.size with
    | none => rfl
    | some x => have := h.dom _ _ hn; omega
  have hle := Ren.upd_le (x := (c, d, sz)) hnone
  have key : ∀ b1 o1, (H.push (.cells true row)).get b1 = some o1 → (b1 = H.size ∧ o1 = .cells true row) ∨ (b1 < H.size ∧ H.get b1 = some o1) := by
    intro b1 o1 h1
    rw [AH.get_push] at h1
    by_cases hb1 : b1 = H.size
    · rw [if_pos hb1] at h1; exact .inl ⟨hb1, (Option.some.inj h1).symm⟩
    · rw [if_neg hb1] at h1; exact .inr ⟨AH.lt_of_get h1, h1⟩
  have old : ∀ {b1 c1 d1 sz1}, b1 < H.size → ρ.upd H.size (c, d, sz) b1 = some (c1, d1, sz1) → ρ b1 = some (c1, d1, sz1) := by
    intro b1 c1 d1 sz1 hb1 hx
    rwa [Ren.upd_ne (by omega)] at hx
  have new : ∀ {c1 d1 sz1}, ρ.upd H.size (c, d, sz) H.size = some (c1, d1, sz1) → c1 = c ∧ d1 = d ∧ sz1 = sz := by
    intro c1 d1 sz1 hx
    rw [Ren.upd_same] at hx
    cases hx
    exact ⟨rfl, rfl, rfl⟩
  refine ⟨h.base, h.below, ?_, ?_, ?_, ?_, ?_, ?_⟩
  · intro b1 x hx
    rw [AH.size_push]
    by_cases hb1 : b1 = H.size
    · omega
    · rw [Ren.upd_ne hb1] at hx; have := h.dom b1 x hx; omega
  · intro b1 c1 d1 sz1 hx
    by_cases hb1 : b1 = H.size
    · subst hb1
      obtain ⟨rfl, _, _⟩ := new hx
      exact hc
    · rw [Ren.upd_ne hb1] at hx; exact h.blk b1 c1 d1 sz1 hx
  · intro b1 c1 d1 sz1 o1 hx h1
    rcases key b1 o1 h1 with ⟨rfl, rfl⟩ | ⟨hb1, h1⟩
    · obtain ⟨rfl, rfl, rfl⟩ := new hx
      exact hor.mono hle
    · exact (h.obj b1 c1 d1 sz1 o1 (old hb1 hx) h1).mono hle
  · intro b1 c1 d1 sz1 o1 hx h1 hrw
    rcases key b1 o1 h1 with ⟨rfl, rfl⟩ | ⟨hb1, h1⟩
    · cases hrw
    · exact h.own b1 c1 d1 sz1 o1 (old hb1 hx) h1 hrw
  · intro b1 c1 d1 sz1 cs1 hx h1
    rcases key b1 _ h1 with ⟨rfl, _⟩ | ⟨hb1, h1⟩
    · obtain ⟨rfl, _, _⟩ := new hx
      exact hcB
    · exact h.ro b1 c1 d1 sz1 cs1 (old hb1 hx) h1
  · intro b1 b2 c1 d1 d2 sz1 sz2 o1 o2 hx1 hx2 h1 h2 hr1 hr2
    rcases key b1 o1 h1 with ⟨rfl, rfl⟩ | ⟨hb1, h1⟩
    · cases hr1
    · rcases key b2 o2 h2 with ⟨rfl, rfl⟩ | ⟨hb2, h2⟩
      · cases hr2
      · exact h.inj b1 b2 c1 d1 d2 sz1 sz2 o1 o2 (old hb1 hx1) (old hb2 hx2) h1 h2 hr1 hr2
theorem ren_upd_le' {B : Nat} {w0 : World} {ρ : Ren} {H : AH} (h : Rel P w0 B ρ H w) (x : Nat × Nat × Nat) : ∀ b y, ρ b = some y → ρ.upd H.size x b = some y :=
  Ren.upd_le (by
    cases hn : ρ H.size with
    | none => rfl
    | some x => have := h.dom _ _ hn; omega)
def Got (P : Program) (w : World) (ρ : Ren) (H : AH) (ty : Ty) (cs : List Value) (ρ' : Ren) (H' : AH) : Prop :=
  ∃ x avs, Rel P w w.heap.size ρ' H' w ∧ (∀ b y, ρ b = some y → ρ' b = some y) ∧ Keeps H H' ∧ LRel P ρ' avs cs ∧ Abs H' ty x avs ∧ Small ty x
theorem trod_fuel {fuel : Nat} {t : TypeId} {cs : List Value} {x : DataW Hd × List MemPlace} (h : DataW.trod enc P w 0 (fun _ => true) held fuel t cs = some x) : ∃ n, fuel = n + 1 := by
  cases fuel with
  | zero => simp [DataW.trod] at h
  | succ n => exact ⟨n, rfl⟩
theorem row_abs {ty : Ty} {e : TypeId} {n : Nat} (ih : ∀ (cs : List Value) (x : DataW Hd × List MemPlace) (ρ : Ren) (H : AH), Rel P w w.heap.size ρ H w → DataW.trod enc P w 0 (fun _ => true) held n e cs = some x → wOK P e x.1 → ∃ ρ' H', Got P w ρ H ty cs ρ' H')
    (a : Addr) : ∀ (m i : Nat) (ρ : Ren) (H : AH), Rel P w w.heap.size ρ H w → (∀ j, i ≤ j → j < i + m → ∃ y, (w.cells? 0 (a.add (j * ty.w)) ty.w).bind (DataW.trod enc P w 0 (fun _ => true) held n e) = some y ∧ wOK P e y.1) →
      ∃ ρ' H' l row cc, Rel P w w.heap.size ρ' H' w ∧ (∀ b y, ρ b = some y → ρ' b = some y) ∧ Keeps H H' ∧ l.length = m ∧ RowAbs (Abs H' ty) l row ∧ LRel P ρ' row cc ∧ (∀ k, k < m * ty.w → w.cell? (a.add (i * ty.w + k)) = cc[k]?) ∧ cc.length = m * ty.w ∧ ∀ x ∈ l, Small ty x := by
  intro m
  induction m with
  | zero =>
    intro i ρ H hR _
    exact ⟨ρ, H, [], [], [], hR, fun _ _ h => h, Keeps.refl H, rfl, .nil, LRel.nil, fun k hk => by omega, by simp, fun x hx => by cases hx⟩
  | succ m ihm =>
    intro i ρ H hR hel
    obtain ⟨y, hy, hwy⟩ := hel i (Nat.le_refl _) (by omega)
    obtain ⟨cs, hcs, hy⟩ := Option.bind_eq_some_iff.1 hy
    obtain ⟨ρ1, H1, x, avs, hR1, hle1, hk1, hl1, ha1, hs1⟩ := ih cs y ρ H hR hy hwy
    obtain ⟨ρ2, H2, l, row, cc, hR2, hle2, hk2, hlen, hrow, hl2, hcell, hcl, hs2⟩ := ihm (i + 1) ρ1 H1 hR1 (fun j h1 h2 => hel j (by omega) (by omega))
    obtain ⟨_, hcsl, hcsg⟩ := World.cells?_some hcs
    refine ⟨ρ2, H2, x :: l, avs ++ row, cs ++ cc, hR2, fun b y h => hle2 b y (hle1 b y h), hk1.trans hk2, by simp [hlen], .cons (Abs.keep hk2 ty x avs ha1) hrow, (hl1.mono hle2).append hl2, ?_, ?_, ?_⟩
    · intro k hk
      have hmul : (m + 1) * ty.w = ty.w + m * ty.w := by rw [Nat.add_mul]; omega
      have hmul2 : (i + 1) * ty.w = i * ty.w + ty.w := by rw [Nat.add_mul]; omega
      by_cases hkw : k < ty.w
      · rw [List.getElem?_append_left (by omega), ← hcsg k hkw]
        congr 1
        unfold Addr.add
        repeat' split
        all_goals first | rfl | omega | (simp; done) | (simp; omega)
      · rw [List.getElem?_append_right (by omega), hcsl, ← hcell (k - ty.w) (by omega), hmul2]
        congr 2
        omega
    · rw [List.length_append, hcsl, hcl, Nat.add_mul]; omega
    · intro z hz
      rcases List.mem_cons.1 hz with rfl | hz
      · exact hs1
      · exact hs2 z hz
theorem trod_abs : ∀ (ty : Ty),
    (∀ (t : TypeId), (chkT P ty).1 t = true → ∀ (fuel : Nat) (cs : List Value) (x : DataW Hd × List MemPlace) (ρ : Ren) (H : AH), Rel P w w.heap.size ρ H w → DataW.trod enc P w 0 (fun _ => true) held fuel t cs = some x → wOK P t x.1 → ∃ ρ' H', Got P w ρ H ty cs ρ' H') ∧
    (∀ (fs : List Field) (off : Nat), (chkT P ty).2 fs off = true → ∀ (fuel : Nat) (cs : List Value) (ρ : Ren) (H : AH), Rel P w w.heap.size ρ H w → cs.length = off + ty.w →
      (∀ f ∈ fs, ∃ y, DataW.trod enc P w 0 (fun _ => true) held fuel f.type ((cs.drop f.offset).take (P.cellsOf f.type)) = some y ∧ wOK P f.type y.1) → ∃ ρ' H', Got P w ρ H ty (cs.drop off) ρ' H') := by
  intro ty
  induction ty with
  | int k =>
    refine ⟨?_, fun fs off h => by cases h⟩
    intro t ht fuel cs x ρ H hR h hwx
    obtain ⟨n, rfl⟩ := trod_fuel h
    simp only [chkT] at ht
    split at ht
    · rename_i k' hu
      simp only [Bool.and_eq_true, beq_iff_eq] at ht
      obtain ⟨rfl, _⟩ := ht
      obtain ⟨n, rfl, _, hw⟩ := DataW.trod_int hu h
      exact ⟨ρ, H, n, [.int k' n], hR, fun _ _ h => h, Keeps.refl H, LRel.of_all rfl, ⟨rfl, hw⟩, trivial⟩
    · cases ht
  | bool =>
    refine ⟨?_, fun fs off h => by cases h⟩
    intro t ht fuel cs x ρ H hR h hwx
    obtain ⟨n, rfl⟩ := trod_fuel h
    simp only [chkT] at ht
    split at ht
    · rename_i hu
      obtain ⟨b, rfl, _⟩ := DataW.trod_bool hu h
      exact ⟨ρ, H, b, [.bool b], hR, fun _ _ h => h, Keeps.refl H, LRel.of_all rfl, rfl, trivial⟩
    · cases ht
  | unit =>
    refine ⟨fun t h => by (cases h), ?_⟩
    intro fs off hfs fuel cs ρ H hR hl h
    refine ⟨ρ, H, (), [], hR, fun _ _ h => h, Keeps.refl H, ?_, rfl, trivial⟩
    have : cs.drop off = [] := List.drop_eq_nil_of_le (by simp [Ty.w] at hl; omega)
    rw [this]; exact LRel.nil
  | slice ty ih =>
    refine ⟨?_, fun fs off h => by cases h⟩
    intro t ht fuel cs x ρ H hR h hwx
    simp only [chkT] at ht
    split at ht
    · rename_i e hu
      simp only [Bool.and_eq_true, beq_iff_eq, decide_eq_true_eq] at ht
      obtain ⟨⟨⟨ht, he⟩, hw, hby⟩, _⟩ := ht
      rcases DataW.trod_slice hu h with ⟨rfl, _⟩ | ⟨a, len, cap, elems, rest, n, rfl, rfl, hx, _, hlc, hcm, hlen, hel, hsp, _⟩
      · exact ⟨ρ, H, [], [.slice none 0 0], hR, fun _ _ h => h, Keeps.refl H, LRel.of_all rfl, .inl ⟨rfl, rfl⟩, Nat.zero_le _, fun x hx => by cases hx⟩
      · have hwt : DataW.weights P t x.1 = (elems.length + rest.length) * P.bytesOf e :: (DataW.weightsAll P e (elems.map (·.1)) ++ DataW.weightsAll P e (rest.map (·.1))) := by
          rw [hx]
          unfold DataW.weights
          rw [hu]
          simp
        have hreach : len ≤ reachBytes := by
          have h1 := hwx _ (by rw [hwt]; exact List.mem_cons_self)
          have h2 : len + rest.length ≤ (elems.length + rest.length) * P.bytesOf e := by
            rw [hlen]
            exact Nat.le_mul_of_pos_right _ hby
          omega
        have hwe : ∀ (y : DataW Hd × List MemPlace), (y ∈ elems ∨ y ∈ rest) → wOK P e y.1 := by
          intro y hy n hn
          refine hwx n ?_
          rw [hwt, List.mem_cons, List.mem_append]
          rcases hy with hy | hy
          · exact .inr (.inl (weightsAll_mem (List.mem_map.2 ⟨y, hy, rfl⟩) hn))
          · exact .inr (.inr (weightsAll_mem (List.mem_map.2 ⟨y, hy, rfl⟩) hn))
        rw [he] at hel hsp
        by_cases hc0 : cap = 0
        · subst hc0
          obtain rfl : len = 0 := by omega
          exact ⟨ρ, H, [], [.slice (some ⟨0, 0, none⟩) 0 0], hR, fun _ _ h => h, Keeps.refl H, LRel.cons .empty LRel.nil, .inr (.inl ⟨rfl, 0, rfl⟩), Nat.zero_le _, fun x hx => by cases hx⟩
        · have all : ∀ j, 0 ≤ j → j < 0 + cap → ∃ y, (w.cells? 0 (a.add (j * ty.w)) ty.w).bind (DataW.trod enc P w 0 (fun _ => true) held n e) = some y ∧ wOK P e y.1 := by
            intro j _ hj
            by_cases hjl : j < len
            · rw [hel j hjl]
              exact ⟨elems[j]'(by omega), List.getElem?_eq_getElem (by omega), hwe _ (.inl (List.getElem_mem _))⟩
            · obtain ⟨hr1, hr2⟩ := hsp rfl
              have := hr2 (j - len) (by omega)
              rw [show len + (j - len) = j from by omega] at this
              rw [this]
              exact ⟨rest[j - len]'(by omega), List.getElem?_eq_getElem (by omega), hwe _ (.inr (List.getElem_mem _))⟩
          -- all cells of its room are there
          obtain ⟨_, _, _, _, cca, _, _, _, _, _, _, hca, hcal, _⟩ := row_abs (fun cs x ρ H => ih.1 e ht n cs x ρ H) a cap 0 ρ H hR all
          obtain ⟨ρ1, H1, l, row, cc, hR1, hle1, hk1, hll, hrow, hl1, hcell, hcl, hsm⟩ := row_abs (fun cs x ρ H => ih.1 e ht n cs x ρ H) a len 0 ρ H hR (fun j h1 h2 => all j h1 (by omega))
          have hpos : 0 < cap * ty.w := Nat.mul_pos (by omega) hw
          have h0 := hca 0 hpos
          have hsome : ∃ v, cca[0]? = some v := ⟨cca[0]'(by omega), List.getElem?_eq_getElem (by omega)⟩
          obtain ⟨v0, hv0⟩ := hsome
          rw [hv0] at h0
          have hadd0 : a.add (0 * ty.w + 0) = a := by simp [Addr.add]
          rw [hadd0] at h0
          unfold World.cell? at h0
          split at h0
          · rename_i c el fz hblk
            split at h0
            · cases h0
            · rename_i hspot
              obtain ⟨ab, ao, as'⟩ := a
              have : as' = none := by cases as' with | none => rfl | some _ => simp at hspot
              subst this
              have cellsAt : ∀ k, k < cap * ty.w → c[ao + k]? = cca[k]? := by
                intro k hk
                have := hca k hk
                rw [show 0 * ty.w + k = k from by omega, Addr.add_lit] at this
                unfold World.cell? at this
                simp only [hblk, Option.isSome_none] at this
                simpa using this
              have hfit : ao + cap * ty.w ≤ c.size := by
                have := cellsAt (cap * ty.w - 1) (by omega)
                rw [List.getElem?_eq_getElem (by omega)] at this
                have := (Array.getElem?_eq_some_iff.1 this).1
                omega
              have hsub : len * ty.w ≤ cap * ty.w := Nat.mul_le_mul_right _ hlc
              have hrl : row.length = len * ty.w := by rw [hl1.1, hcl]
              have hccs : (c.toList.drop ao).take row.length = cc := by
                apply List.ext_getElem?
                intro k
                rw [hrl, List.getElem?_take]
                by_cases hk : k < len * ty.w
                · rw [if_pos hk, List.getElem?_drop]
                  have h1 := hcell k hk
                  rw [show 0 * ty.w + k = k from by omega, Addr.add_lit] at h1
                  unfold World.cell? at h1
                  simp only [hblk, Option.isSome_none] at h1
                  rw [← h1]
                  simp
                · rw [if_neg hk, List.getElem?_eq_none (by omega)]
              have hblk' : w.heap[ab]? = some (.cells c el fz) := hblk
              have hab : ab < w.heap.size := (Array.getElem?_eq_some_iff.1 hblk').1
              have hp := hR1.pushRo (row := row) (c := ab) (d := ao) (sz := c.size) hab hab ⟨c, el, fz, hblk', rfl, by omega, (fun h => by cases h), by rw [hccs]; exact hl1⟩
              have hkp := Keeps.push H1 (.cells true row)
              refine ⟨_, _, l, [.slice (some ⟨H1.size, 0, none⟩) l.length ty.w], hp, fun b y h => ren_upd_le' hR1 _ b y (hle1 b y h), hk1.trans hkp, LRel.cons ?_ LRel.nil, .inr (.inr ⟨H1.size, row, AH.get_push_new _ _, rfl, hrow.mono (Abs.keep hkp ty), by omega⟩), by rw [hll]; exact hreach, hsm⟩
              rw [hll]
              have := VRel.slice (P := P) (ρ := ρ1.upd H1.size (ab, ao, c.size)) (b := H1.size) (o := 0) (n := len) (e := ty.w) (c := ab) (d := ao) (sz := c.size) (k := cap) (Ren.upd_same ..) (by omega) hlc hw
              simpa using this
          · cases h0
    · cases ht
  | pair a b iha ihb =>
    have fields : ∀ (fs : List Field) (off : Nat), (chkT P (.pair a b)).2 fs off = true → ∀ (fuel : Nat) (cs : List Value) (ρ : Ren) (H : AH), Rel P w w.heap.size ρ H w → cs.length = off + (a.w + b.w) →
      (∀ f ∈ fs, ∃ y, DataW.trod enc P w 0 (fun _ => true) held fuel f.type ((cs.drop f.offset).take (P.cellsOf f.type)) = some y ∧ wOK P f.type y.1) → ∃ ρ' H', Got P w ρ H (.pair a b) (cs.drop off) ρ' H' := by
      intro fs off hfs fuel cs ρ H hR hl h
      simp only [chkT] at hfs
      cases fs with
      | nil => cases hfs
      | cons f fs =>
        simp only [Bool.and_eq_true, beq_iff_eq] at hfs
        obtain ⟨⟨⟨h1, h2⟩, h3⟩, h4⟩ := hfs
        obtain ⟨y, hy, hwy⟩ := h f (by simp)
        rw [h1, h3] at hy
        obtain ⟨ρ1, H1, x1, a1, hR1, hle1, hk1, hl1, ha1, hs1⟩ := iha.1 f.type h2 fuel _ y ρ H hR hy hwy
        obtain ⟨ρ2, H2, x2, a2, hR2, hle2, hk2, hl2, ha2, hs2⟩ := ihb.2 fs (off + a.w) h4 fuel cs ρ1 H1 hR1 (by omega) (fun g hg => h g (by simp [hg]))
        refine ⟨ρ2, H2, (x1, x2), a1 ++ a2, hR2, fun b y h => hle2 b y (hle1 b y h), hk1.trans hk2, ?_, ⟨a1, a2, rfl, Abs.keep hk2 a x1 a1 ha1, ha2⟩, hs1, hs2⟩
        have e : cs.drop off = (cs.drop off).take a.w ++ cs.drop (off + a.w) := by
          rw [← List.drop_drop]
          exact (List.take_append_drop a.w (cs.drop off)).symm
        rw [e]
        exact (hl1.mono hle2).append hl2
    refine ⟨?_, fields⟩
    intro t ht fuel cs x ρ H hR h hwx
    obtain ⟨n, rfl⟩ := trod_fuel h
    have ht' := ht
    simp only [chkT] at ht
    split at ht
    · rename_i fs hu
      simp only [Bool.and_eq_true, beq_iff_eq] at ht
      obtain ⟨xs, n', _, hxe, hlen, hxl, hxs⟩ := DataW.trod_struct hu h
      have := fields fs.toList 0 ht.2 n' cs ρ H hR (by rw [hlen, ht.1]; simp) (fun f hf => by
        obtain ⟨i, hi, rfl⟩ := List.mem_iff_getElem.1 hf
        have := hxs i fs.toList[i] (by simp)
        rw [this]
        have hix : i < xs.length := by rw [hxl]; simpa using hi
        refine ⟨xs[i]'hix, List.getElem?_eq_getElem _, fun n hn => hwx n ?_⟩
        rw [hxe]
        unfold DataW.weights
        rw [hu]
        exact weightsEach_mem (i := i) (by rw [List.getElem?_map, List.getElem?_eq_getElem hi]; rfl) (by rw [List.getElem?_map, List.getElem?_eq_getElem hix]; rfl) hn)
      simpa using this
    · cases ht
end
def valOf : Ty → List Value → Value
  | .pair _ _, cs => .agg cs.toArray
  | .unit, cs => .agg cs.toArray
  | _, cs => cs.headD undef
abbrev Args : List Ty → Type
  | [] => Unit
  | t :: ts => t.I × Args ts
def AbsArgs (H : AH) : (ts : List Ty) → Args ts → List Value → Prop
  | [], _, vs => vs = []
  | t :: ts, x, vs => ∃ cs rest, vs = valOf t cs :: rest ∧ Abs H t x.1 cs ∧ AbsArgs H ts x.2 rest
theorem AbsArgs.keep {H H' : AH} (k : Keeps H H') : ∀ (ts : List Ty) (x : Args ts) (vs : List Value), AbsArgs H ts x vs → AbsArgs H' ts x vs := by
  intro ts
  induction ts with
  | nil => intro x vs h; exact h
  | cons t ts ih =>
    intro x vs h
    obtain ⟨cs, rest, e, h1, h2⟩ := h
    exact ⟨cs, rest, e, Abs.keep k t _ _ h1, ih _ _ h2⟩
def SmallArgs : (ts : List Ty) → Args ts → Prop
  | [], _ => True
  | t :: ts, x => Small t x.1 ∧ SmallArgs ts x.2
def chkArgs (P : Program) : List Ty → List TypeId → Bool
  | [], [] => true
  | ty :: tys, t :: ts => (chkT P ty).1 t && P.readableRec t && decide (t < P.types.size) && chkArgs P tys ts
  | _, _ => false
section
variable {Hd : Type} {enc : TypeId × Value → Hd} {P : Program} {w : World} {held : Bool}
theorem arg_abs {ty : Ty} {t : TypeId} (ht : (chkT P ty).1 t = true) {v : Value} {d : DataW Hd} {ps : List MemPlace} {r : Reach} {b0 : Nat} (hval : Value.okWide P w r b0 t v) (h : DataW.Trod enc P w 0 (fun _ => true) held t v d ps) (hwd : wOK P t d)
    {ρ : Ren} {H : AH} (hR : Rel P w w.heap.size ρ H w) : ∃ ρ' H' x avs, Rel P w w.heap.size ρ' H' w ∧ (∀ b y, ρ b = some y → ρ' b = some y) ∧ Keeps H H' ∧ VRel P ρ' (valOf ty avs) v ∧ Abs H' ty x avs ∧ Small ty x := by
  obtain ⟨fuel, h⟩ := h
  obtain ⟨ρ', H', x, avs, h1, h2, h3, h4, h5, h6⟩ := (trod_abs (enc := enc) (P := P) (w := w) (held := held) ty).1 t ht fuel _ _ ρ H hR h hwd
  refine ⟨ρ', H', x, avs, h1, h2, h3, ?_, h5, h6⟩
  have hlen := Abs.length ty x avs h5
  have one : ∀ (hw : ty.w = 1) (hva : ∀ cs, v ≠ .agg cs), VRel P ρ' (avs.headD undef) v := by
    intro hw hva
    have hc : v.cells.toList = [v] := by
      cases v <;> first | rfl | exact absurd rfl (hva _)
    rw [hc] at h4
    match avs, hlen with
    | [a], _ => exact h4.2 0 a v rfl rfl
    | [], hl => rw [hw] at hl; cases hl
    | a :: b :: l, hl => rw [hw] at hl; simp at hl
  cases ty with
  | int k =>
    refine one rfl (fun cs e => ?_)
    subst e
    simp only [chkT] at ht
    split at ht
    · rename_i hu
      unfold Value.okWide at hval
      rw [hu] at hval
      unfold Cell.okWide at hval
      rw [hu] at hval
      unfold Cell.ok at hval
      rw [hu] at hval
      exact hval
    · cases ht
  | bool =>
    refine one rfl (fun cs e => ?_)
    subst e
    simp only [chkT] at ht
    split at ht
    · rename_i hu
      unfold Value.okWide at hval
      rw [hu] at hval
      unfold Cell.okWide at hval
      rw [hu] at hval
      unfold Cell.ok at hval
      rw [hu] at hval
      exact hval
    · cases ht
  | slice e =>
    refine one rfl (fun cs e => ?_)
    subst e
    simp only [chkT] at ht
    split at ht
    · rename_i hu
      unfold Value.okWide at hval
      rw [hu] at hval
      unfold Cell.okWide at hval
      rw [hu] at hval
      unfold Cell.ok at hval
      rw [hu] at hval
      exact hval
    · cases ht
  | unit => simp only [chkT] at ht; cases ht
  | pair a b =>
    simp only [chkT] at ht
    split at ht
    · rename_i fs hu
      unfold Value.okWide at hval
      rw [hu] at hval
      obtain ⟨cs, rfl, _⟩ := hval
      have h4 : LRel P ρ' avs cs.toList := h4
      exact .agg (by simpa using h4.1) (fun i x y hx hy => h4.2 i x y (by simpa using hx) (by simpa using hy))
    · cases ht
theorem args_abs : ∀ (tys : List Ty) (ts : List TypeId) (vs : List Value) (ds : List (DataW Hd)) (ps : List MemPlace), chkArgs P tys ts = true → (∀ (j : Nat) t v, ts[j]? = some t → vs[j]? = some v → ∃ r b0, Value.okWide P w r b0 t v) →
    DataW.TrodAll enc P w 0 (fun _ => true) held ts vs ds ps → (∀ n ∈ DataW.weightsEach P ts ds, n ≤ reachBytes) → ∀ (ρ : Ren) (H : AH), Rel P w w.heap.size ρ H w →
    ∃ ρ' H' x avs, Rel P w w.heap.size ρ' H' w ∧ (∀ b y, ρ b = some y → ρ' b = some y) ∧ Keeps H H' ∧ LRel P ρ' avs vs ∧ AbsArgs H' tys x avs ∧ SmallArgs tys x := by
  intro tys
  induction tys with
  | nil =>
    intro ts vs ds ps hc hval h hwd ρ H hR
    cases ts with
    | cons t ts => cases hc
    | nil =>
      obtain ⟨rfl, _, _⟩ := trodAll_nil h
      exact ⟨ρ, H, (), [], hR, fun _ _ h => h, Keeps.refl H, LRel.nil, rfl, trivial⟩
  | cons ty tys ih =>
    intro ts vs ds ps hc hval h hwd ρ H hR
    cases ts with
    | nil => cases hc
    | cons t ts =>
      simp only [chkArgs, Bool.and_eq_true] at hc
      obtain ⟨⟨⟨hc1, _⟩, _⟩, hc2⟩ := hc
      obtain ⟨v, vs', d, ds', p, q, rfl, rfl, rfl, hd, hrest⟩ := trodAll_cons h
      obtain ⟨r, b0, hv0⟩ := hval 0 t v rfl rfl
      obtain ⟨ρ1, H1, x1, a1, hR1, hle1, hk1, hv1, ha1, hs1⟩ := arg_abs hc1 hv0 hd (fun n hn => hwd n (by rw [DataW.weightsEach]; exact List.mem_append_left _ hn)) hR
      obtain ⟨ρ2, H2, x2, a2, hR2, hle2, hk2, hl2, ha2, hs2⟩ := ih ts vs' ds' q hc2 (fun j t v h1 h2 => hval (j + 1) t v (by simpa using h1) (by simpa using h2)) hrest (fun n hn => hwd n (by rw [DataW.weightsEach]; exact List.mem_append_right _ hn)) ρ1 H1 hR1
      exact ⟨ρ2, H2, (x1, x2), valOf ty a1 :: a2, hR2, fun b y h => hle2 b y (hle1 b y h), hk1.trans hk2, LRel.cons (hv1.mono hle2) hl2, ⟨a1, a2, rfl, Abs.keep hk2 ty x1 a1 ha1, ha2⟩, hs1, hs2⟩
theorem args_stay (hl : laidOutB P = true) {W' : World} (hb : Below w.heap.size w W') : ∀ (tys : List Ty) (ts : List TypeId) (vs : List Value) (ds : List (DataW Hd)) (ps : List MemPlace), chkArgs P tys ts = true → (∀ x ∈ ps, x.block < w.heap.size) →
    DataW.TrodAll enc P w 0 (fun _ => true) true ts vs ds ps → DataW.TrodAll enc P W' 0 (fun b => decide (b < w.heap.size)) true ts vs ds ps := by
  intro tys
  induction tys with
  | nil =>
    intro ts vs ds ps hc hlt h
    cases ts with
    | cons t ts => cases hc
    | nil =>
      obtain ⟨rfl, rfl, rfl⟩ := trodAll_nil h
      exact trodAll_mk0
  | cons ty tys ih =>
    intro ts vs ds ps hc hlt h
    cases ts with
    | nil => cases hc
    | cons t ts =>
      simp only [chkArgs, Bool.and_eq_true, decide_eq_true_eq] at hc
      obtain ⟨⟨⟨_, hc1⟩, hc3⟩, hc2⟩ := hc
      obtain ⟨v, vs', d, ds', p, q, rfl, rfl, rfl, hd, hrest⟩ := trodAll_cons h
      exact ⟨p, q, Below.trod hl hc1 hc3 hd hb (fun x hx => hlt x (by simp [hx])), ih ts vs' ds' q hc2 (fun x hx => hlt x (by simp [hx])) hrest, rfl⟩
theorem law_post (hm : P.follows .mixedOrders = true) (hl : laidOutB P = true) {G : List Nat} {f : Nat} {fn : Func} {s : ChangeSpec} {tys : List Ty} (hc : chkArgs P tys fn.params.toList = true)
    {tb : TypeId} (hres : fn.resultTypes = #[tb]) (hb : P.underlying tb = some .bool) (hvars : s.vars = [])
    {args : Array Value} {ds gs : List (DataW Hd)} {before : List MemPlace} (hval : ∀ (j : Nat) t v, fn.params[j]? = some t → args[j]? = some v → ∃ r b0, Value.okWide P w r b0 t v)
    (hW : DataW.Whole enc P fn.params.toList s.vars false w args.toList ds gs before) (hspec : s.fn Hd (ds ++ gs) = { results := [.lit (.bool true)], args := ds })
    {ρ0 : Ren} {H0 : AH} (hR : Rel P w w.heap.size ρ0 H0 w) (hG : GlobRel ρ0 G)
    (hwt : (DataW.weightsEach P fn.params.toList ds).all (· ≤ reachBytes) = true)
    (run : ∀ (x : Args tys) (avs : List Value) (H : AH), Keeps H0 H → AbsArgs H tys x avs → SmallArgs tys x → ∃ H', aF P G f avs H = some (.bool true, H')) :
    Calls P f args w fun e w' => ∃ v, e = .returned v ∧ s.post enc P fn false true false false w args v w' := by
  have hW' := hW
  obtain ⟨p, q, hA, hV, rfl, hfz, hnd⟩ := hW
  rw [hvars] at hV
  obtain ⟨rfl, rfl⟩ := trodVars_none hV
  obtain ⟨ρ1, H1, x, avs, hR1, hle1, hk1, hl1, ha1, hs1⟩ := args_abs tys fn.params.toList args.toList ds p hc (fun j t v h1 h2 => hval j t v (by simpa using h1) (by simpa using h2)) hA (fun n hn => by simpa using List.all_eq_true.1 hwt n hn) ρ0 H0 hR
  obtain ⟨H', hrun⟩ := run x avs H1 hk1 ha1 hs1
  have hG1 : GlobRel ρ1 G := fun g hg => let ⟨sz, h⟩ := hG g hg; ⟨sz, hle1 _ _ h⟩
  have hcall := ((aF_ok (P := P) (G := G) hm).1 f avs H1 _ H' hrun).2 w w.heap.size ρ1 w args.toList hR1 hG1 hl1
  rw [show args.toList.toArray = args from by simp] at hcall
  refine hcall.mono fun e w' ⟨v', ρ', he, hv, hext, hR'⟩ => ?_
  have hv : v' = .bool true := by
    cases hv with
    | lit h => rfl
  subst hv
  subst he
  have hlt : ∀ y ∈ p, y.block < w.heap.size := fun y hy => by
    have := hW'.lt y (by simp [hy])
    simpa using this
  refine ⟨_, rfl, ds, [], p ++ [], [], p, [], hW', ?_, ?_, ?_, ?_, fun h => by cases h⟩
  · rw [hspec, hres]
    exact ⟨[], [], shut_bool hb true, trodAll_mk0, rfl⟩
  · rw [hspec]
    exact args_stay hl hR'.below tys _ _ _ _ hc hlt hA
  · rw [hvars, hspec]
    rfl
  · exact hR'.below.frame _
end
theorem rel_none (P : Program) (w : World) : Rel P w w.heap.size (fun _ => none) ⟨[]⟩ w where
  base := Nat.le_refl _
  below := Below.refl _ _
  dom := fun b x h => by cases h
  blk := fun b c d sz h => by cases h
  obj := fun b c d sz o h => by cases h
  own := fun b c d sz o h => by cases h
  ro := fun b c d sz cs h => by cases h
  inj := fun b b' c d d' sz sz' o o' h => by cases h
end Go.Proofs.YtodpbobjmkhcfaaGreatDoor.Gst
namespace Go.Proofs.YtodpbobjmkhcfaaGreatDoor.Gst
open Go Go.RowKit
set_option maxRecDepth 100000
set_option linter.unusedVariables false
set_option maxHeartbeats 1000000
noncomputable abbrev PP : Program := Tryz.prog
def GG : List Nat := [0]
noncomputable abbrev FF : CallF := aF PP GG
noncomputable abbrev CQ (c : Code) (kn : KK) (kx : KX) (kr : KK) : KK := CK PP GG FF c kn kx kr
noncomputable abbrev CLq (c : Code) (kx : KX) (kr : KK) : KK := CL PP GG FF c kx kr
def n_lEA : Nat := 4
def n_l23_Made : Nat := 9
def n_l23_awake : Nat := 10
def n_mem_Mem_Len : Nat := 11
def n_parts_Parts_Begin : Nat := 12
def n_enq_New : Nat := 13
def n_eE_Step : Nat := 14
def n_pPP : Nat := 15
def n_help_Ret : Nat := 16
def n_help_Point : Nat := 17
def n_play_Call : Nat := 18
def n_lAl : Nat := 19
def n_l23_Pair_Same : Nat := 20
def n_play_Mod : Nat := 21
def n_play_Config : Nat := 30
def n_parts_New : Nat := 31
def n_r16_NewParts : Nat := 32
def n_l23_Pair_put : Nat := 33
def n_table_Table_Shard : Nat := 34
def n_eE_first : Nat := 35
def n_sCp : Nat := 36
def n_sSo : Nat := 37
def n_parts_point_order : Nat := 38
def n_parts_own : Nat := 39
def n_help_Plainapi_Packet : Nat := 40
def n_l23_Pair_Begin : Nat := 41
def n_r16_NewTask : Nat := 42
def n_rTE : Nat := 43
def n_l23_Told : Nat := 44
def n_help_Plainapi_Event : Nat := 45
def n_mem_Mem_Events : Nat := 46
def n_hS_Point : Nat := 47
def n_mem_Mem_Add : Nat := 48
def n_r16_Mem_Add : Nat := 49
def n_r16_Loc : Nat := 50
def n_model_Right : Nat := 55
def n_mem_New : Nat := 56
def n_inbox_New : Nat := 57
def n_table_New : Nat := 58
def n_post_New : Nat := 59
def n_core_New : Nat := 60
def n_r16_NewInbox : Nat := 61
def n_r16_NewTable : Nat := 62
def n_r16_NewPost : Nat := 63
def n_r16_NewCore : Nat := 64
def n_r01_Inverse : Nat := 65
def n_parts_Parts_Make : Nat := 66
def n_r16_Parts_Make : Nat := 67
def n_table_Table_Put : Nat := 68
def n_r16_Table_Put : Nat := 69
def n_eE_refuse : Nat := 70
def n_eE_scan : Nat := 71
def n_sSt : Nat := 72
def n_cmp_Compareint : Nat := 73
def n_sCa : Nat := 74
def n_hS_Packet : Nat := 75
def n_help_Plainapi_Packet_1 : Nat := 76
def n_r16_Parts_Begin : Nat := 77
def n_r16_Table_Shard : Nat := 78
def n_r16_Task_note : Nat := 79
def n_rTs : Nat := 80
def n_r16_Table_Lock : Nat := 81
def n_r16_Table_Unlock : Nat := 82
def n_r16_Parts_Obj : Nat := 83
def n_r16_Task_word : Nat := 84
def n_r16_Task_ring : Nat := 85
def n_r16_Ring_Head : Nat := 86
def n_r01_Parts : Nat := 87
def n_r16_Ring_Full : Nat := 88
def n_r16_Task_claim : Nat := 89
def n_r16_Ring_Put : Nat := 90
def n_r16_Task_count : Nat := 91
def n_r16_Ring_Show : Nat := 92
def n_r16_Inbox_Begin : Nat := 93
def n_rTf : Nat := 94
def n_rTw : Nat := 95
def n_hS_Event : Nat := 96
def n_help_Plainapi_Event_1 : Nat := 97
def n_sCe : Nat := 98
def n_mem_Mem_turn : Nat := 99
def n_mem_Mem_Peek : Nat := 100
def n_rMp : Nat := 101
def n_r16_Mem_Log : Nat := 102
def n_parts_Parts_Ring : Nat := 103
def n_r16_Ring_Turn : Nat := 106
def n_model_within : Nat := 118
def n_inbox_site_at : Nat := 119
def n_queue_New : Nat := 120
def n_queue_Queue_Push : Nat := 121
def n_queue_Queue_Pop : Nat := 122
def n_queue_Queue_All : Nat := 123
def n_rNQ : Nat := 124
def n_mem_Mem_Write : Nat := 125
def n_ring_New : Nat := 126
def n_r16_NewRing : Nat := 127
def n_mem_Mem_Store : Nat := 128
def n_table_slot : Nat := 129
def n_r16_Mem_Store : Nat := 130
def n_eE_note : Nat := 131
def n_eE_ends : Nat := 132
def n_eE_hit : Nat := 133
def n_eE_on : Nat := 134
def n_eE_look : Nat := 135
def n_eE_lock : Nat := 136
def n_sIn : Nat := 137
def n_sMg : Nat := 138
def n_cmp_isNaNint : Nat := 139
def n_rPN : Nat := 140
def n_r16_Table_Slot : Nat := 141
def n_r16_Mem_Swap : Nat := 142
def n_r16_Ring_Word : Nat := 143
def n_r16_Mem_Load : Nat := 144
def n_r16_Ring_cell : Nat := 145
def n_r16_Parts_Seq : Nat := 146
def n_r16_Inbox_End : Nat := 147
def n_r16_Inbox_Top : Nat := 148
def n_r16_Inbox_Link : Nat := 149
def n_r16_Inbox_Push : Nat := 150
def n_mem_Mem_note : Nat := 151
def n_parts_Parts_made : Nat := 152
def n_ring_Ring_swap : Nat := 153
def n_r01_Turned : Nat := 155
def n_ring_Ring_at : Nat := 156
def n_table_Table_Lock : Nat := 160
def n_tour_New : Nat := 164
def n_shard_New : Nat := 165
def n_r01_Width : Nat := 174
def n_parts_Parts_Note : Nat := 175
def n_table_Table_Slot : Nat := 176
def n_table_Table_Slots : Nat := 177
def n_parts_Parts_Obj : Nat := 178
def n_eE_word : Nat := 179
def n_eE_search : Nat := 180
def n_sRo : Nat := 181
def n_r16_Inbox_at : Nat := 182
def n_mem_Mem_Swap : Nat := 183
def n_word_State : Nat := 184
def n_word_Pack : Nat := 185
def n_word_Count : Nat := 186
def n_r01_Pack : Nat := 187
def n_table_mutex : Nat := 190
def n_wheel_New : Nat := 195
def n_heap_New : Nat := 196
def n_mem_Mem_Load : Nat := 211
def n_mem_Mem_Read : Nat := 212
def n_ring_Ring_Word : Nat := 213
def n_eE_head : Nat := 214
def n_eE_unlock : Nat := 215
def n_sSw : Nat := 216
def n_word_Right : Nat := 217
def n_table_Table_Unlock : Nat := 221
def n_wheel_held : Nat := 224
def n_ring_Ring_Head : Nat := 253
def n_ring_Ring_Full : Nat := 254
def n_eE_seq : Nat := 255
def n_eE_claim : Nat := 256
def n_eE_begin : Nat := 257
def n_parts_Parts_Seq : Nat := 259
def n_eE_wordAgain : Nat := 276
def n_ring_Ring_Claim : Nat := 277
def n_eE_put : Nat := 278
def n_inbox_Inbox_Begin : Nat := 279
def n_eE_wake : Nat := 280
def n_eE_headAgain : Nat := 287
def n_word_More : Nat := 288
def n_eE_lay : Nat := 289
def n_eE_show : Nat := 290
def n_eE_back : Nat := 291
def n_eE_down : Nat := 292
def n_eE_seqAgain : Nat := 293
def n_ring_Ring_Put : Nat := 294
def n_ring_Ring_Show : Nat := 295
def n_inbox_Inbox_End : Nat := 296
def n_eE_shown : Nat := 297
def n_ring_Ring_cell : Nat := 298
def n_eE_topmost : Nat := 299
def n_inbox_Inbox_Top : Nat := 300
def n_eE_link : Nat := 301
def n_inbox_Inbox_Link : Nat := 302
def n_eE_push : Nat := 303
def n_inbox_Inbox_Push : Nat := 304
def n_eE_end : Nat := 305
noncomputable def f9_b (p : List Nat) : Code := Code.sub (bodyOf Tryz.f9) p
noncomputable def f9_r : KK := cFin PP (Tryz.f9).results.toList
noncomputable def f9_n0 : KK := CQ (f9_b [1, 1, 1, 1, 1]) f9_r kx0 f9_r
noncomputable def l23_Made_k0 (x1 x2 x4 x5 x8 : Value) (H : AH) : OV := f9_n0 (ls [u, x1, x2, u, x4, x5, u, u, x8] 79) H
noncomputable def f9_n1 : KK := CQ (f9_b [1, 1, 1, 1, 1, 1]) f9_r kx0 f9_r
noncomputable def f9_m1 : KK := clr 309485009821345068724780751 f9_n1
noncomputable def l23_Made_k1 (x4 x5 x8 : Value) (H : AH) : OV := f9_n1 (ls [u, u, u, u, x4, x5, u, u, x8] 79) H
noncomputable def f9_n5 : KK := CQ (f9_b [1, 1, 1, 1, 1, 0, 1]) f9_m1 kx0 f9_r
noncomputable def l23_Made_k5 (x1 x2 x4 x5 x8 x9 : Value) (H : AH) : OV := f9_n5 (ls [u, x1, x2, u, x4, x5, u, u, x8, x9] 78) H
noncomputable def f9_x6 : KX := BX 0 f9_m1 kx0
noncomputable def f9_y6 : KX := clx 309485009821345068724780751 f9_x6
noncomputable def f9_n7 : KK := CLq (f9_b [1, 1, 1, 1, 1, 0, 1, 4, 5]) f9_y6 f9_r
noncomputable def f9_m7 : KK := clr 309485009821345068724780233 f9_n7
noncomputable def l23_Made_k7 (x1 x2 x4 x5 x8 x9 : Value) (H : AH) : OV := f9_n7 (ls [u, x1, x2, u, x4, x5, u, u, x8, x9] 78) H
noncomputable def f9_n8 : KK := CQ (f9_b [1, 1, 1, 1, 1, 0, 1, 4, 5, 1]) f9_m7 f9_y6 f9_r
noncomputable def l23_Made_k8 (x1 x2 x4 x5 x8 x9 : Value) (H : AH) : OV := f9_n8 (ls [u, x1, x2, u, x4, x5, u, u, x8, x9] 78) H
noncomputable def f9_n9 : KK := CQ (f9_b [1, 1, 1, 1, 1, 0, 1, 4, 5, 1, 1]) f9_m7 f9_y6 f9_r
noncomputable def f9_m9 : KK := clr 309485009821345068724780233 f9_n9
noncomputable def l23_Made_k9 (x1 x2 x4 x5 x8 x9 : Value) (H : AH) : OV := f9_n9 (ls [u, x1, x2, u, x4, x5, u, u, x8, x9] 78) H
noncomputable def f9_x11 : KX := BX 1 f9_m9 f9_y6
noncomputable def l23_Made_e6_0 (x4 x5 x8 : Value) (H : AH) : OV := f9_x6 0 (ls [u, u, u, u, x4, x5, u, u, x8] 79) H
theorem f9_r_d : Resp 309485009821345068724781007 f9_r := rf
theorem f9_n0_d : Resp 309485009821345068724780745 f9_n0 := rc f9_r_d kx0_d f9_r_d
theorem f9_n1_d : Resp 309485009821345068724780751 f9_n1 := rc f9_r_d kx0_d f9_r_d
theorem f9_n5_d : Resp 309485009821345068724780233 f9_n5 := rc (cd f9_n1_d) kx0_d f9_r_d
theorem f9_x6_d : ∀ i, Resp 309485009821345068724780751 (f9_x6 i) := rb (cd f9_n1_d) kx0_d
theorem f9_n7_d : Resp 309485009821345068724780233 f9_n7 := rl (cx f9_x6_d) f9_r_d
theorem f9_n8_d : Resp 309485009821345068724780233 f9_n8 := rc (cd f9_n7_d) (cx f9_x6_d) f9_r_d
theorem f9_n9_d : Resp 309485009821345068724780233 f9_n9 := rc (cd f9_n7_d) (cx f9_x6_d) f9_r_d
theorem f9_x11_d : ∀ i, Resp 309485009821345068724780233 (f9_x11 i) := rb (cd f9_n9_d) (cx f9_x6_d)
theorem l23_Made_k1_eq (x4 x5 x8 : Value) (H : AH) : l23_Made_k1 x4 x5 x8 H =
 (pLdN 2 x8 H).bind fun v2 =>
 (pSt 2 x4 v2 H).bind fun H3 =>
 (pLdN 2 x4 H3).bind fun v4 => some (Value.tuple #[v4, (vb true)], H3) :=
 (by kernel_rfl)
theorem l23_Made_k9_eq (x1 x2 x4 x5 x8 x9 : Value) (H : AH) : l23_Made_k9 x1 x2 x4 x5 x8 x9 H =
 (pBin .other .add x9 (vi 1)).bind fun v10 =>
 l23_Made_k7 x1 x2 x4 x5 x8 v10 H :=
 (by kernel_rfl)
theorem l23_Made_k8_eq (x1 x2 x4 x5 x8 x9 : Value) (H : AH) : l23_Made_k8 x1 x2 x4 x5 x8 x9 H =
 ld [.f 0] x2 H fun v12 =>
 (pBin .other .quo x9 v12).bind fun v13 =>
 ld [.f 1] x2 H fun v14 =>
 (pBin .other .lss v13 v14).bind fun v15 =>
 (gB v15 true (pLdN 2 x8 H)).bind fun v16 =>
 (gV v15 true x9).bind fun v17 =>
 (gV v15 true x9).bind fun v18 =>
 (gB v15 true (pBin .other .add (vi 1) v18)).bind fun v19 =>
 (gV v15 true x9).bind fun v20 =>
 (gB v15 true (pBin .other .rem v20 (vi 2))).bind fun v21 =>
 (gB v15 true (pBin .other .add (vi 2) v21)).bind fun v22 =>
 (gE v15 true H (FF n_l23_Pair_put [v16, v17, v19, v22] H)).bind fun r23 =>
 (gB v15 true (pUn .not r23.1)).bind fun v24 =>
 (pPick v15 v24 (vb false)).bind fun v25 =>
 condK v25
 (mkS [(0, 1), (1, 1)] [(.pointer none), (.pointer none)] [] fun v26 =>
 (pSt 2 x4 v26 r23.2).bind fun H27 =>
 (pLdN 2 x4 H27).bind fun v28 => some (Value.tuple #[v28, (vb false)], H27))
 (l23_Made_k9 x1 x2 x4 x5 x8 x9 r23.2) :=
 (pt rfl 0 f9_n9_d (bt rfl (f9_b [1, 1, 1, 1, 1, 0, 1, 4, 5, 1, 0, 4]) 1 f9_x11_d (by kernel_rfl)))
theorem l23_Made_e6_0_eq (x4 x5 x8 : Value) (H : AH) : l23_Made_e6_0 x4 x5 x8 H = l23_Made_k1 x4 x5 x8 H :=
 (by kernel_rfl)
theorem l23_Made_k7_eq (x1 x2 x4 x5 x8 x9 : Value) (H : AH) : l23_Made_k7 x1 x2 x4 x5 x8 x9 H =
 (pBin .other .lss x9 x1).bind fun v29 =>
 condK v29
 (l23_Made_k8 x1 x2 x4 x5 x8 x9 H)
 (l23_Made_e6_0 x4 x5 x8 H) :=
 lt' rfl f9_n7_d (pt rfl 0 f9_n8_d (by kernel_rfl))
theorem l23_Made_k5_eq (x1 x2 x4 x5 x8 x9 : Value) (H : AH) : l23_Made_k5 x1 x2 x4 x5 x8 x9 H =
 l23_Made_k7 x1 x2 x4 x5 x8 x9 H :=
 (bt rfl (f9_b [1, 1, 1, 1, 1, 0, 1, 4]) 0 f9_x6_d (li rfl (f9_b [1, 1, 1, 1, 1, 0, 1, 4, 5]) f9_n7_d (by kernel_rfl)))
theorem l23_Made_k0_eq (x1 x2 x4 x5 x8 : Value) (H : AH) : l23_Made_k0 x1 x2 x4 x5 x8 H =
 l23_Made_k5 x1 x2 x4 x5 x8 (vi 0) H :=
 (pt rfl 0 f9_n1_d (pt rfl 0 f9_n5_d (by kernel_rfl)))
noncomputable def l23_Made (x0 x1 : Value) (H : AH) : OV := cCode PP GG FF (f9_b []) (ls [x0, x1] 86) H f9_r kx0 f9_r
theorem l23_Made_of (x0 x1 : Value) (H : AH) {r : Value × AH} (h : (
 newK (Value.cells x0).toList H fun v30 H31 =>
 newK [(.pointer none), (.pointer none)] H31 fun v32 H33 =>
 (pLdN 5 v30 H33).bind fun v34 =>
 (FF n_play_Config [v34] H33).bind fun r35 =>
 (pSt 5 v30 r35.1 r35.2).bind fun H36 =>
 (pLdN 5 v30 H36).bind fun v37 =>
 (FF n_parts_New [v37] H36).bind fun r38 =>
 (pExtract r38.1 0).bind fun v39 =>
 (pExtract r38.1 1).bind fun v40 =>
 (pBin .other .neq v40 (vi 0)).bind fun v41 =>
 (gV v41 false v39).bind fun v42 =>
 (gB v41 false (pBin .ptr .eql v42 (.pointer none))).bind fun v43 =>
 (pPick v41 (vb true) v43).bind fun v44 =>
 (gV v44 false v39).bind fun v45 =>
 gld v44 false  [.n, .f 0] v45 r38.2 fun v46 =>
 (gB v44 false (pBin .ptr .eql v46 (.pointer none))).bind fun v47 =>
 (pPick v44 (vb true) v47).bind fun v48 =>
 (gV v48 false v39).bind fun v49 =>
 gld v48 false  [.n, .f 1] v49 r38.2 fun v50 =>
 (gB v48 false (pBin .ptr .eql v50 (.pointer none))).bind fun v51 =>
 (pPick v48 (vb true) v51).bind fun v52 =>
 (gV v52 false v39).bind fun v53 =>
 gld v52 false  [.n, .f 2] v53 r38.2 fun v54 =>
 (gB v52 false (pBin .ptr .eql v54 (.pointer none))).bind fun v55 =>
 (pPick v52 (vb true) v55).bind fun v56 =>
 (gV v56 false v39).bind fun v57 =>
 gld v56 false  [.n, .f 3] v57 r38.2 fun v58 =>
 (gB v56 false (pBin .ptr .eql v58 (.pointer none))).bind fun v59 =>
 (pPick v56 (vb true) v59).bind fun v60 =>
 (gV v60 false v39).bind fun v61 =>
 gld v60 false  [.n, .f 4] v61 r38.2 fun v62 =>
 (gB v60 false (pBin .ptr .eql v62 (.pointer none))).bind fun v63 =>
 (pPick v60 (vb true) v63).bind fun v64 =>
 condK v64
 (mkS [(0, 1), (1, 1)] [(.pointer none), (.pointer none)] [] fun v65 =>
 (pSt 2 v32 v65 r38.2).bind fun H66 =>
 (pLdN 2 v32 H66).bind fun v67 => some (Value.tuple #[v67, (vb false)], H66))
 ((pLdN 5 v30 r38.2).bind fun v68 =>
 (FF n_r16_NewParts [v68] r38.2).bind fun r69 =>
 mkS [(0, 1), (1, 1)] [(.pointer none), (.pointer none)] [(0, v39), (1, r69.1)] fun v70 =>
 newK [(.pointer none), (.pointer none)] r69.2 fun v71 H72 =>
 (pSt 2 v71 v70 H72).bind fun H73 =>
 l23_Made_k0 x1 v30 v32 (vb false) v71 H73)) = some r) : FF n_l23_Made [x0, x1] H = some r :=
 fo (t := l23_Made x0 x1 H) Tryz.func9 (by kernel_rfl) (Eq.trans (pt rfl 4 f9_n0_d (by kernel_rfl)) h)
theorem mem_Mem_Len_of (x0 : Value) (H : AH) {r : Value × AH} (h : (
 ld [.n, .f 1] x0 H fun v0 =>
 lenK v0 fun v1 =>
 some (v1, H)) = some r) : FF n_mem_Mem_Len [x0] H = some r :=
 fo Tryz.func11 (by kernel_rfl) h
theorem parts_Parts_Begin_of (x0 x1 x2 : Value) (H : AH) {r : Value × AH} (h : (
 ld [.n, .f 11] x0 H fun v0 =>
 (pUpdate .int v0 x1 x2 H).bind fun H1 =>
 some (Value.tuple #[], H1)) = some r) : FF n_parts_Parts_Begin [x0, x1, x2] H = some r :=
 fo Tryz.func12 (by kernel_rfl) h
theorem enq_New_of (x0 x1 x2 : Value) (H : AH) {r : Value × AH} (h : (
 newK (Value.cells x2).toList H fun v0 H1 =>
 (pLdN 4 v0 H1).bind fun v2 =>
 ld [.n, .f 2] x0 H1 fun v3 =>
 ld [.f 1] v0 H1 fun v4 =>
 (FF n_table_Table_Shard [v3, v4] H1).bind fun r5 =>
 eqK (pLdN 4 v0 r5.2) (pLdN 4 v0 H1) <|
 mkS [(0, 1), (1, 1), (2, 4), (6, 1), (7, 1), (8, 1), (9, 1), (10, 1), (11, 1), (12, 1), (13, 1), (14, 1), (15, 1)] [(.pointer none), (vi 0), (vi 0), (vi 0), (vi 0), (vi 0), (vi 0), Value.nilFunc, (vi 0), (vi 0), (vb false), (.pointer none), (vw 0), (vw 0), (vi 0), (vw 0)] [(0, x0), (1, x1), (2, v2), (3, r5.1)] fun v6 =>
 newK (Value.cells v6).toList r5.2 fun v7 H8 =>
 st 1 [.n, .f 7] v7 (.func (.func n_eE_first) #[v7] #[]) H8 fun H9 =>
 some (v7, H9)) = some r) : FF n_enq_New [x0, x1, x2] H = some r :=
 fo Tryz.func13 (by kernel_rfl) h
theorem eE_Step_of (x0 x1 : Value) (H : AH) {r : Value × AH} (h : (
 newK [(vi 0), (.slice none 0 0), (vi 0), (vw 0)] H fun v0 H1 =>
 ld [.n, .f 7] x0 H1 fun v2 =>
 (pCallee v2 [x1]).bind fun c => (FF c.1 c.2 H1).bind fun r3 =>
 (pExtract r3.1 0).bind fun v4 =>
 (pExtract r3.1 1).bind fun v5 =>
 (pSt 4 v0 v4 r3.2).bind fun H6 =>
 (pLdN 4 v0 H6).bind fun v7 => some (Value.tuple #[v7, v5], H6)) = some r) : FF n_eE_Step [x0, x1] H = some r :=
 fo Tryz.func14 (by kernel_rfl) h
noncomputable def f15_b (p : List Nat) : Code := Code.sub (bodyOf Tryz.f15) p
noncomputable def f15_r : KK := cFin PP (Tryz.f15).results.toList
noncomputable def f15_n0 : KK := CQ (f15_b [1, 1, 1, 1]) f15_r kx0 f15_r
noncomputable def pPP_k0 (x2 x3 x4 : Value) (H : AH) : OV := f15_n0 (ls [u, u, x2, x3, x4] 25) H
noncomputable def f15_n1 : KK := CQ (f15_b [1, 1, 1, 1, 1]) f15_r kx0 f15_r
noncomputable def f15_m1 : KK := clr 1073741803 f15_n1
noncomputable def pPP_k1 (x2 x4 : Value) (H : AH) : OV := f15_n1 (ls [u, u, x2, u, x4] 25) H
noncomputable def f15_n2 : KK := CQ (f15_b [1, 1, 1, 1, 0, 1]) f15_m1 kx0 f15_r
noncomputable def pPP_k2 (x2 x4 x14 x15 x16 : Value) (H : AH) : OV := f15_n2 (ls [u, u, x2, u, x4, u, u, u, u, u, u, u, u, u, x14, x15, x16] 13) H
noncomputable def f15_x3 : KX := BX 0 f15_m1 kx0
noncomputable def f15_y3 : KX := clx 1073741803 f15_x3
noncomputable def f15_n4 : KK := CLq (f15_b [1, 1, 1, 1, 0, 1, 4, 5]) f15_y3 f15_r
noncomputable def f15_m4 : KK := clr 1073627115 f15_n4
noncomputable def pPP_k4 (x2 x4 x14 x15 x16 : Value) (H : AH) : OV := f15_n4 (ls [u, u, x2, u, x4, u, u, u, u, u, u, u, u, u, x14, x15, x16] 13) H
noncomputable def f15_n5 : KK := CQ (f15_b [1, 1, 1, 1, 0, 1, 4, 5, 1, 1]) f15_m4 f15_y3 f15_r
noncomputable def pPP_k5 (x2 x4 x14 x15 x16 : Value) (H : AH) : OV := f15_n5 (ls [u, u, x2, u, x4, u, u, u, u, u, u, u, u, u, x14, x15, x16] 13) H
noncomputable def f15_n6 : KK := CQ (f15_b [1, 1, 1, 1, 0, 1, 4, 5, 1, 1, 1]) f15_m4 f15_y3 f15_r
noncomputable def f15_m6 : KK := clr 1073627115 f15_n6
noncomputable def pPP_k6 (x2 x4 x14 x15 x16 : Value) (H : AH) : OV := f15_n6 (ls [u, u, x2, u, x4, u, u, u, u, u, u, u, u, u, x14, x15, x16] 13) H
noncomputable def f15_x8 : KX := BX 1 f15_m6 f15_y3
noncomputable def pPP_e3_0 (x2 x4 : Value) (H : AH) : OV := f15_x3 0 (ls [u, u, x2, u, x4] 25) H
theorem f15_r_d : Resp 1073741819 f15_r := rf
theorem f15_n0_d : Resp 1073741795 f15_n0 := rc f15_r_d kx0_d f15_r_d
theorem f15_n1_d : Resp 1073741803 f15_n1 := rc f15_r_d kx0_d f15_r_d
theorem f15_n2_d : Resp 1073627115 f15_n2 := rc (cd f15_n1_d) kx0_d f15_r_d
theorem f15_x3_d : ∀ i, Resp 1073741803 (f15_x3 i) := rb (cd f15_n1_d) kx0_d
theorem f15_n4_d : Resp 1073627115 f15_n4 := rl (cx f15_x3_d) f15_r_d
theorem f15_n5_d : Resp 1073627115 f15_n5 := rc (cd f15_n4_d) (cx f15_x3_d) f15_r_d
theorem f15_n6_d : Resp 1073627115 f15_n6 := rc (cd f15_n4_d) (cx f15_x3_d) f15_r_d
theorem f15_x8_d : ∀ i, Resp 1073627115 (f15_x8 i) := rb (cd f15_n6_d) (cx f15_x3_d)
theorem pPP_k1_eq (x2 x4 : Value) (H : AH) : pPP_k1 x2 x4 H =
 some (x4, H) :=
 (by kernel_rfl)
theorem pPP_k6_eq (x2 x4 x14 x15 x16 : Value) (H : AH) : pPP_k6 x2 x4 x14 x15 x16 H =
 (pBin .other .add x16 (vi 1)).bind fun v7 =>
 pPP_k4 x2 x4 x14 x15 v7 H :=
 (by kernel_rfl)
theorem pPP_k5_eq (x2 x4 x14 x15 x16 : Value) (H : AH) : pPP_k5 x2 x4 x14 x15 x16 H =
 ldN 7 [.i 7 x16] x14 H fun v9 =>
 newK [(vi 0), (vi 0), (vi 0), (vi 0), (.slice none 0 0), (vi 0), (vw 0)] H fun v10 H11 =>
 (pSt 7 v10 v9 H11).bind fun H12 =>
 ldN 4 [.f 3] v10 H12 fun v13 =>
 (FF n_parts_own [v13] H12).bind fun r14 =>
 st 4 [.f 3] v10 r14.1 r14.2 fun H15 =>
 (pLdN 7 v10 H15).bind fun v16 =>
 mkR 1 7 [(vi 0), (vi 0), (vi 0), (vi 0), (.slice none 0 0), (vi 0), (vw 0)] [(0, v16)] H15 fun v17 H18 =>
 (pApp 7 72 x4 v17 H18).bind fun r19 =>
 pPP_k6 x2 r19.1 x14 x15 x16 r19.2 :=
 (pt rfl 0 f15_n6_d (bt rfl (f15_b [1, 1, 1, 1, 0, 1, 4, 5, 1, 1, 0, 4]) 1 f15_x8_d (by kernel_rfl)))
theorem pPP_e3_0_eq (x2 x4 : Value) (H : AH) : pPP_e3_0 x2 x4 H = pPP_k1 x2 x4 H :=
 (by kernel_rfl)
theorem pPP_k4_eq (x2 x4 x14 x15 x16 : Value) (H : AH) : pPP_k4 x2 x4 x14 x15 x16 H =
 (pBin .other .lss x16 x15).bind fun v20 =>
 condK v20
 (pPP_k5 x2 x4 x14 x15 x16 H)
 (pPP_e3_0 x2 x4 H) :=
 lt' rfl f15_n4_d (pt rfl 1 f15_n5_d (by kernel_rfl))
theorem pPP_k2_eq (x2 x4 x14 x15 x16 : Value) (H : AH) : pPP_k2 x2 x4 x14 x15 x16 H =
 pPP_k4 x2 x4 x14 x15 x16 H :=
 (bt rfl (f15_b [1, 1, 1, 1, 0, 1, 4]) 0 f15_x3_d (li rfl (f15_b [1, 1, 1, 1, 0, 1, 4, 5]) f15_n4_d (by kernel_rfl)))
theorem pPP_k0_eq (x2 x3 x4 : Value) (H : AH) : pPP_k0 x2 x3 x4 H =
 lenK x3 fun v21 =>
 pPP_k2 x2 x4 x3 v21 (vi 0) H :=
 (pt rfl 0 f15_n1_d (pt rfl 0 f15_n2_d (by kernel_rfl)))
noncomputable def pPP (x0 : Value) (H : AH) : OV := cCode PP GG FF (f15_b []) (ls [x0] 29) H f15_r kx0 f15_r
theorem pPP_of (x0 : Value) (H : AH) {r : Value × AH} (h : (
 ld [.n, .f 12] x0 H fun v22 =>
 (FF n_sCp [v22] H).bind fun r23 =>
 (FF n_sSo [r23.1, (.func (.func n_parts_point_order) #[] #[])] r23.2).bind fun r24 =>
 pPP_k0 (.slice none 0 0) r23.1 (.slice none 0 0) r24.2) = some r) : FF n_pPP [x0] H = some r :=
 fo (t := pPP x0 H) Tryz.func15 (by kernel_rfl) (Eq.trans (pt rfl 3 f15_n0_d (by kernel_rfl)) h)
theorem help_Ret_of (x0 x1 : Value) (H : AH) {r : Value × AH} (h : (
 newK (Value.cells x0).toList H fun v0 H1 =>
 newK (Value.cells x1).toList H1 fun v2 H3 =>
 ld [.f 0] v0 H3 fun v4 =>
 ld [.f 0] v2 H3 fun v5 =>
 (pBin .other .eql v4 v5).bind fun v6 =>
 gld v6 true  [.f 2] v0 H3 fun v7 =>
 gld v6 true  [.f 2] v2 H3 fun v8 =>
 (gB v6 true (pBin .other .eql v7 v8)).bind fun v9 =>
 (pPick v6 v9 (vb false)).bind fun v10 =>
 gld v10 true  [.f 3] v0 H3 fun v11 =>
 gld v10 true  [.f 3] v2 H3 fun v12 =>
 (gB v10 true (pBin .other .eql v11 v12)).bind fun v13 =>
 (pPick v10 v13 (vb false)).bind fun v14 =>
 gld v14 true  [.f 1] v0 H3 fun v15 =>
 gld v14 true  [.f 1] v2 H3 fun v16 =>
 (gE v14 true H3 (FF n_help_Plainapi_Packet [v15, v16] H3)).bind fun r17 =>
 (pPick v14 r17.1 (vb false)).bind fun v18 =>
 some (v18, r17.2)) = some r) : FF n_help_Ret [x0, x1] H = some r :=
 fo Tryz.func16 (by kernel_rfl) h
theorem help_Point_of (x0 x1 : Value) (H : AH) {r : Value × AH} (h : (
 newK (Value.cells x0).toList H fun v0 H1 =>
 newK (Value.cells x1).toList H1 fun v2 H3 =>
 ld [.f 0] v0 H3 fun v4 =>
 ld [.f 0] v2 H3 fun v5 =>
 (pBin .other .eql v4 v5).bind fun v6 =>
 gld v6 true  [.f 1] v0 H3 fun v7 =>
 gld v6 true  [.f 1] v2 H3 fun v8 =>
 (gB v6 true (pBin .other .eql v7 v8)).bind fun v9 =>
 (pPick v6 v9 (vb false)).bind fun v10 =>
 gld v10 true  [.f 2] v0 H3 fun v11 =>
 gld v10 true  [.f 2] v2 H3 fun v12 =>
 (gB v10 true (pBin .other .eql v11 v12)).bind fun v13 =>
 (pPick v10 v13 (vb false)).bind fun v14 =>
 gldN v14 true  4 [.f 3] v0 H3 fun v15 =>
 gldN v14 true  4 [.f 3] v2 H3 fun v16 =>
 (gE v14 true H3 (FF n_help_Ret [v15, v16] H3)).bind fun r17 =>
 (pPick v14 r17.1 (vb false)).bind fun v18 =>
 some (v18, r17.2)) = some r) : FF n_help_Point [x0, x1] H = some r :=
 fo Tryz.func17 (by kernel_rfl) h
noncomputable def f18_b (p : List Nat) : Code := Code.sub (bodyOf Tryz.f18) p
noncomputable def f18_r : KK := cFin PP (Tryz.f18).results.toList
noncomputable def f18_n0 : KK := CQ (f18_b [1, 1, 1]) f18_r kx0 f18_r
noncomputable def play_Call_k0 (x1 x2 x3 : Value) (H : AH) : OV := f18_n0 (ls [u, x1, x2, x3] 61) H
noncomputable def f18_n1 : KK := CQ (f18_b [1, 1, 1, 1]) f18_r kx0 f18_r
noncomputable def f18_m1 : KK := clr 36893488147419103219 f18_n1
noncomputable def play_Call_k1 (x2 x3 : Value) (H : AH) : OV := f18_n1 (ls [u, u, x2, x3] 61) H
noncomputable def f18_n5 : KK := CQ (f18_b [1, 1, 1, 0, 1]) f18_m1 kx0 f18_r
noncomputable def play_Call_k5 (x1 x2 x3 x15 : Value) (H : AH) : OV := f18_n5 (ls [u, x1, x2, x3, u, u, u, u, u, u, u, u, u, u, u, x15] 49) H
noncomputable def f18_x6 : KX := BX 0 f18_m1 kx0
noncomputable def f18_y6 : KX := clx 36893488147419103219 f18_x6
noncomputable def f18_n7 : KK := CQ (f18_b [1, 1, 1, 0, 1, 4, 1]) f18_m1 f18_y6 f18_r
noncomputable def play_Call_k7 (x1 x2 x3 x15 x35 : Value) (H : AH) : OV := f18_n7 (ls [u, x1, x2, x3, u, u, u, u, u, u, u, u, u, u, u, x15, u, u, u, u, u, u, u, u, u, u, u, u, u, u, u, u, u, u, u, x35] 29) H
noncomputable def f18_n18 : KK := CQ (f18_b [1, 1, 1, 0, 1, 4, 1, 3, 1]) f18_m1 f18_y6 f18_r
noncomputable def play_Call_k18 (x1 x2 x3 x15 x48 : Value) (H : AH) : OV := f18_n18 (ls [u, x1, x2, x3, u, u, u, u, u, u, u, u, u, u, u, x15, u, u, u, u, u, u, u, u, u, u, u, u, u, u, u, u, u, u, u, u, u, u, u, u, u, u, u, u, u, u, u, u, x48] 16) H
noncomputable def f18_n20 : KK := CQ (f18_b [1, 1, 1, 0, 1, 4, 1, 3, 1, 3, 1]) f18_m1 f18_y6 f18_r
noncomputable def play_Call_k20 (x1 x2 x3 x15 x51 : Value) (H : AH) : OV := f18_n20 (ls [u, x1, x2, x3, u, u, u, u, u, u, u, u, u, u, u, x15, u, u, u, u, u, u, u, u, u, u, u, u, u, u, u, u, u, u, u, u, u, u, u, u, u, u, u, u, u, u, u, u, u, u, u, x51] 13) H
theorem f18_r_d : Resp 36893488147419103227 f18_r := rf
theorem f18_n0_d : Resp 36893488147419103217 f18_n0 := rc f18_r_d kx0_d f18_r_d
theorem f18_n1_d : Resp 36893488147419103219 f18_n1 := rc f18_r_d kx0_d f18_r_d
theorem f18_n5_d : Resp 36893488147419070449 f18_n5 := rc (cd f18_n1_d) kx0_d f18_r_d
theorem f18_x6_d : ∀ i, Resp 36893488147419103219 (f18_x6 i) := rb (cd f18_n1_d) kx0_d
theorem f18_n7_d : Resp 36893488113059332081 f18_n7 := rc (cd f18_n1_d) (cx f18_x6_d) f18_r_d
theorem f18_n18_d : Resp 36893206672442359793 f18_n18 := rc (cd f18_n1_d) (cx f18_x6_d) f18_r_d
theorem f18_n20_d : Resp 36891236347605385201 f18_n20 := rc (cd f18_n1_d) (cx f18_x6_d) f18_r_d
theorem play_Call_k1_eq (x2 x3 : Value) (H : AH) : play_Call_k1 x2 x3 H =
 (pLdN 4 x3 H).bind fun v2 =>
 (pSt 4 x2 v2 H).bind fun H3 =>
 (pLdN 4 x2 H3).bind fun v4 => some (v4, H3) :=
 (by kernel_rfl)
theorem play_Call_k20_eq (x1 x2 x3 x15 x51 : Value) (H : AH) : play_Call_k20 x1 x2 x3 x15 x51 H =
 condK x51
 (mkS [(0, 1), (1, 1), (2, 1), (3, 1)] [(vi 0), (vi 0), (vi 0), (vi 0)] [(0, (vi 4))] fun v21 =>
 (pSt 4 x3 v21 H).bind fun H22 =>
 play_Call_k1 x2 x3 H22)
 ((pBin .other .eql x15 (vi 8)).bind fun v23 =>
 condK v23
 (ld [.f 2] x1 H fun v24 =>
 (FF n_play_Mod [v24, (vi 6)] H).bind fun r25 =>
 mkS [(0, 1), (1, 1), (2, 1), (3, 1)] [(vi 0), (vi 0), (vi 0), (vi 0)] [(0, (vi 5)), (2, r25.1)] fun v26 =>
 (pSt 4 x3 v26 r25.2).bind fun H27 =>
 play_Call_k1 x2 x3 H27)
 ((pBin .other .eql x15 (vi 9)).bind fun v28 =>
 condK v28
 (mkS [(0, 1), (1, 1), (2, 1), (3, 1)] [(vi 0), (vi 0), (vi 0), (vi 0)] [(0, (vi 6))] fun v29 =>
 (pSt 4 x3 v29 H).bind fun H30 =>
 play_Call_k1 x2 x3 H30)
 (ld [.f 2] x1 H fun v31 =>
 (FF n_play_Mod [v31, (vi 9)] H).bind fun r32 =>
 (pBin .other .add (vi 1) r32.1).bind fun v33 =>
 ad [.f 3] x1 fun v34 =>
 (pLd1 v34 r32.2).bind fun v35 =>
 eqK (pLd1 v34 H) (pLd1 v34 r32.2) <|
 (FF n_play_Mod [v35, (vi 1000)] r32.2).bind fun r36 =>
 st 1 [.f 0] x3 (vi 3) r36.2 fun H37 =>
 st 1 [.f 2] x3 v33 H37 fun H38 =>
 st 1 [.f 3] x3 r36.1 H38 fun H39 =>
 ld [.f 2] x1 H39 fun v40 =>
 (FF n_play_Mod [v40, (vi 13)] H39).bind fun r41 =>
 (pBin .other .eql r41.1 (vi 12)).bind fun v42 =>
 condK v42
 (ld [.f 2] x1 r41.2 fun v43 =>
 (FF n_play_Mod [v43, (vi 65536)] r41.2).bind fun r44 =>
 (pBin .other .add (vi 1) r44.1).bind fun v45 =>
 st 1 [.f 2] x3 v45 r44.2 fun H46 =>
 play_Call_k1 x2 x3 H46)
 (play_Call_k1 x2 x3 r41.2)))) :=
 (by kernel_rfl)
theorem play_Call_k18_eq (x1 x2 x3 x15 x48 : Value) (H : AH) : play_Call_k18 x1 x2 x3 x15 x48 H =
 condK x48
 (st 1 [.f 0] x3 (vi 2) H fun H19 =>
 play_Call_k1 x2 x3 H19)
 ((pBin .other .eql x15 (vi 6)).bind fun v47 =>
 condK v47
 (play_Call_k20 x1 x2 x3 x15 v47 H)
 ((pBin .other .eql x15 (vi 7)).bind fun v48 =>
 play_Call_k20 x1 x2 x3 x15 v48 H)) :=
 (ct rfl (f18_b [1, 1, 1, 0, 1, 4, 1, 3, 1, 2]) (f18_b [1, 1, 1, 0, 1, 4, 1, 3, 1, 3]) (.tmp 48) (by kernel_rfl) (pt rfl 0 f18_n20_d (by kernel_rfl)))
theorem play_Call_k7_eq (x1 x2 x3 x15 x35 : Value) (H : AH) : play_Call_k7 x1 x2 x3 x15 x35 H =
 condK x35
 (ld [.f 2] x1 H fun v8 =>
 (FF n_play_Mod [v8, (vi 5)] H).bind fun r9 =>
 (pBin .other .add (vi 1) r9.1).bind fun v10 =>
 ad [.f 3] x1 fun v11 =>
 (pLd1 v11 r9.2).bind fun v12 =>
 eqK (pLd1 v11 H) (pLd1 v11 r9.2) <|
 (FF n_play_Mod [v12, (vi 3)] r9.2).bind fun r13 =>
 (pBin .other .add (vi 1) r13.1).bind fun v14 =>
 st 1 [.f 0] x3 (vi 1) r13.2 fun H15 =>
 st 1 [.f 2] x3 v10 H15 fun H16 =>
 st 1 [.f 3] x3 v14 H16 fun H17 =>
 play_Call_k1 x2 x3 H17)
 ((pBin .other .eql x15 (vi 1)).bind fun v49 =>
 play_Call_k18 x1 x2 x3 x15 v49 H) :=
 (ct rfl (f18_b [1, 1, 1, 0, 1, 4, 1, 2]) (f18_b [1, 1, 1, 0, 1, 4, 1, 3]) (.tmp 35) (by kernel_rfl) (pt rfl 0 f18_n18_d (by kernel_rfl)))
theorem play_Call_k5_eq (x1 x2 x3 x15 : Value) (H : AH) : play_Call_k5 x1 x2 x3 x15 H =
 (pBin .other .eql x15 (vi 0)).bind fun v50 =>
 play_Call_k7 x1 x2 x3 x15 v50 H :=
 (bt rfl (f18_b [1, 1, 1, 0, 1, 4]) 0 f18_x6_d (pt rfl 0 f18_n7_d (by kernel_rfl)))
theorem play_Call_k0_eq (x1 x2 x3 : Value) (H : AH) : play_Call_k0 x1 x2 x3 H =
 ld [.f 0] x1 H fun v51 =>
 (FF n_play_Mod [v51, (vi 10)] H).bind fun r52 =>
 play_Call_k5 x1 x2 x3 r52.1 r52.2 :=
 (pt rfl 0 f18_n1_d (pt rfl 0 f18_n5_d (by kernel_rfl)))
noncomputable def play_Call (x0 : Value) (H : AH) : OV := cCode PP GG FF (f18_b []) (ls [x0] 64) H f18_r kx0 f18_r
theorem play_Call_of (x0 : Value) (H : AH) {r : Value × AH} (h : (
 newK (Value.cells x0).toList H fun v53 H54 =>
 newK [(vi 0), (vi 0), (vi 0), (vi 0)] H54 fun v55 H56 =>
 ld [.f 1] v53 H56 fun v57 =>
 (FF n_play_Mod [v57, (vi 23)] H56).bind fun r58 =>
 (pBin .other .eql r58.1 (vi 22)).bind fun v59 =>
 condK v59
 ((pLdN 4 v53 r58.2).bind fun v60 =>
 (pSt 4 v55 v60 r58.2).bind fun H61 =>
 (pLdN 4 v55 H61).bind fun v62 => some (v62, H61))
 (ld [.f 1] v53 r58.2 fun v63 =>
 (FF n_play_Mod [v63, (vi 5)] r58.2).bind fun r64 =>
 mkS [(0, 1), (1, 1), (2, 1), (3, 1)] [(vi 0), (vi 0), (vi 0), (vi 0)] [(1, r64.1)] fun v65 =>
 newK [(vi 0), (vi 0), (vi 0), (vi 0)] r64.2 fun v66 H67 =>
 (pSt 4 v66 v65 H67).bind fun H68 =>
 play_Call_k0 v53 v55 v66 H68)) = some r) : FF n_play_Call [x0] H = some r :=
 fo (t := play_Call x0 H) Tryz.func18 (by kernel_rfl) (Eq.trans (pt rfl 2 f18_n0_d (by kernel_rfl)) h)
theorem play_Mod_of (x0 x1 : Value) (H : AH) {r : Value × AH} (h : (
 (pConv (some .u64) x0).bind fun v0 =>
 (pConv (some .u64) x1).bind fun v1 =>
 (pBin .other .rem v0 v1).bind fun v2 =>
 (pConv (some .i64) v2).bind fun v3 =>
 some (v3, H)) = some r) : FF n_play_Mod [x0, x1] H = some r :=
 fo Tryz.func21 (by kernel_rfl) h
noncomputable def f30_b (p : List Nat) : Code := Code.sub (bodyOf Tryz.f30) p
noncomputable def f30_r : KK := cFin PP (Tryz.f30).results.toList
noncomputable def f30_n0 : KK := CQ (f30_b [1, 1]) f30_r kx0 f30_r
noncomputable def play_Config_k0 (x1 x2 x3 : Value) (H : AH) : OV := f30_n0 (ls [u, x1, x2, x3] 29) H
noncomputable def f30_n1 : KK := CQ (f30_b [1, 1, 1]) f30_r kx0 f30_r
noncomputable def play_Config_k1 (x1 x2 x3 : Value) (H : AH) : OV := f30_n1 (ls [u, x1, x2, x3] 29) H
theorem f30_r_d : Resp 8589934587 f30_r := rf
theorem f30_n0_d : Resp 8589934577 f30_n0 := rc f30_r_d kx0_d f30_r_d
theorem f30_n1_d : Resp 8589934577 f30_n1 := rc f30_r_d kx0_d f30_r_d
theorem play_Config_k1_eq (x1 x2 x3 : Value) (H : AH) : play_Config_k1 x1 x2 x3 H =
 ld [.f 0] x1 H fun v2 =>
 (FF n_play_Mod [v2, (vi 4)] H).bind fun r3 =>
 (pBin .other .add (vi 1) r3.1).bind fun v4 =>
 ad [.f 1] x1 fun v5 =>
 (pLd1 v5 r3.2).bind fun v6 =>
 eqK (pLd1 v5 H) (pLd1 v5 r3.2) <|
 (FF n_play_Mod [v6, (vi 4)] r3.2).bind fun r7 =>
 (pBin .other .add (vi 1) r7.1).bind fun v8 =>
 ad [.f 2] x1 fun v9 =>
 (pLd1 v9 r7.2).bind fun v10 =>
 eqK (pLd1 v9 H) (pLd1 v9 r7.2) <|
 eqK (pLd1 v9 r3.2) (pLd1 v9 r7.2) <|
 (FF n_play_Mod [v10, (vi 6)] r7.2).bind fun r11 =>
 (pBin .other .add (vi 1) r11.1).bind fun v12 =>
 ad [.f 3] x1 fun v13 =>
 (pLd1 v13 r11.2).bind fun v14 =>
 eqK (pLd1 v13 H) (pLd1 v13 r11.2) <|
 eqK (pLd1 v13 r3.2) (pLd1 v13 r11.2) <|
 eqK (pLd1 v13 r7.2) (pLd1 v13 r11.2) <|
 (FF n_play_Mod [v14, (vi 12)] r11.2).bind fun r15 =>
 mkS [(0, 1), (1, 1), (2, 1), (3, 1), (4, 1)] [(vi 0), (vi 0), (vi 0), (vi 0), (vw 0)] [(0, v4), (1, v8), (2, v12), (3, r15.1), (4, x3)] fun v16 =>
 (pSt 5 x2 v16 r15.2).bind fun H17 =>
 (pLdN 5 x2 H17).bind fun v18 => some (v18, H17) :=
 (by kernel_rfl)
theorem play_Config_k0_eq (x1 x2 x3 : Value) (H : AH) : play_Config_k0 x1 x2 x3 H =
 ld [.f 4] x1 H fun v19 =>
 (pBin .other .rem v19 (vw 4)).bind fun v20 =>
 (pBin .other .eql v20 (vw 3)).bind fun v21 =>
 condK v21
 (ld [.f 4] x1 H fun v22 =>
 (pBin .other .rem v22 (vw 4611686018427387904)).bind fun v23 =>
 (pBin .other .add (vw 1) v23).bind fun v24 =>
 play_Config_k1 x1 x2 v24 H)
 (play_Config_k1 x1 x2 x3 H) :=
 (pt rfl 0 f30_n1_d (by kernel_rfl))
noncomputable def play_Config (x0 : Value) (H : AH) : OV := cCode PP GG FF (f30_b []) (ls [x0] 32) H f30_r kx0 f30_r
theorem play_Config_of (x0 : Value) (H : AH) {r : Value × AH} (h : (
 newK (Value.cells x0).toList H fun v25 H26 =>
 newK [(vi 0), (vi 0), (vi 0), (vi 0), (vw 0)] H26 fun v27 H28 =>
 ld [.f 4] v25 H28 fun v29 =>
 (pBin .other .rem v29 (vw 5000)).bind fun v30 =>
 (pBin .other .add (vw 1) v30).bind fun v31 =>
 play_Config_k0 v25 v27 v31 H28) = some r) : FF n_play_Config [x0] H = some r :=
 fo (t := play_Config x0 H) Tryz.func30 (by kernel_rfl) (Eq.trans (pt rfl 1 f30_n0_d (by kernel_rfl)) h)
theorem parts_New_of (x0 : Value) (H : AH) {r : Value × AH} (h : (
 newK (Value.cells x0).toList H fun v0 H1 =>
 (pLdN 5 v0 H1).bind fun v2 =>
 (FF n_model_Right [v2] H1).bind fun r3 =>
 (pUn .not r3.1).bind fun v4 =>
 condK v4
 (some (Value.tuple #[(.pointer none), (vi 1)], r3.2))
 ((FF n_mem_New [] r3.2).bind fun r5 =>
 ld [.f 0] v0 r5.2 fun v6 =>
 (FF n_inbox_New [r5.1, v6] r5.2).bind fun r7 =>
 ad [.f 0] v0 fun v8 =>
 (pLd1 v8 r7.2).bind fun v9 =>
 eqK (pLd1 v8 r5.2) (pLd1 v8 r7.2) <|
 ad [.f 1] v0 fun v10 =>
 (pLd1 v10 r7.2).bind fun v11 =>
 eqK (pLd1 v10 r5.2) (pLd1 v10 r7.2) <|
 (FF n_table_New [r5.1, v9, v11] r7.2).bind fun r12 =>
 ad [.f 2] v0 fun v13 =>
 (pLd1 v13 r12.2).bind fun v14 =>
 eqK (pLd1 v13 r5.2) (pLd1 v13 r12.2) <|
 eqK (pLd1 v13 r7.2) (pLd1 v13 r12.2) <|
 (FF n_post_New [r5.1, v14] r12.2).bind fun r15 =>
 (pLdN 5 v0 r15.2).bind fun v16 =>
 eqK (pLdN 5 v0 r5.2) (pLdN 5 v0 r15.2) <|
 eqK (pLdN 5 v0 r7.2) (pLdN 5 v0 r15.2) <|
 eqK (pLdN 5 v0 r12.2) (pLdN 5 v0 r15.2) <|
 (FF n_core_New [v16] r15.2).bind fun r17 =>
 (pLdN 5 v0 r17.2).bind fun v18 =>
 eqK (pLdN 5 v0 r5.2) (pLdN 5 v0 r17.2) <|
 eqK (pLdN 5 v0 r7.2) (pLdN 5 v0 r17.2) <|
 eqK (pLdN 5 v0 r12.2) (pLdN 5 v0 r17.2) <|
 eqK (pLdN 5 v0 r15.2) (pLdN 5 v0 r17.2) <|
 mapK r17.2 fun v19 H20 =>
 mkS [(0, 1), (1, 1), (2, 1), (3, 1), (4, 1), (5, 5), (10, 1), (11, 1), (12, 1)] [(.pointer none), (.pointer none), (.pointer none), (.pointer none), (.pointer none), (vi 0), (vi 0), (vi 0), (vi 0), (vw 0), (.slice none 0 0), (.map none), (.slice none 0 0)] [(0, r5.1), (1, r7.1), (2, r12.1), (3, r15.1), (4, r17.1), (5, v18), (7, v19)] fun v21 =>
 newK (Value.cells v21).toList H20 fun v22 H23 =>
 some (Value.tuple #[v22, (vi 0)], H23))) = some r) : FF n_parts_New [x0] H = some r :=
 fo Tryz.func31 (by kernel_rfl) h
theorem r16_NewParts_of (x0 : Value) (H : AH) {r : Value × AH} (h : (
 newK (Value.cells x0).toList H fun v0 H1 =>
 mkS [(0, 1), (1, 1), (2, 1)] [(.slice none 0 0), (.slice none 0 0), (.slice none 0 0)] [] fun v2 =>
 newK (Value.cells v2).toList H1 fun v3 H4 =>
 (pLdN 5 v0 H4).bind fun v5 =>
 ld [.f 0] v0 H4 fun v6 =>
 (FF n_r16_NewInbox [v3, v6] H4).bind fun r7 =>
 eqK (pLdN 5 v0 r7.2) (pLdN 5 v0 H4) <|
 ad [.f 0] v0 fun v8 =>
 (pLd1 v8 r7.2).bind fun v9 =>
 eqK (pLd1 v8 H4) (pLd1 v8 r7.2) <|
 ad [.f 1] v0 fun v10 =>
 (pLd1 v10 r7.2).bind fun v11 =>
 eqK (pLd1 v10 H4) (pLd1 v10 r7.2) <|
 (FF n_r16_NewTable [v3, v9, v11] r7.2).bind fun r12 =>
 eqK (pLdN 5 v0 r12.2) (pLdN 5 v0 H4) <|
 ad [.f 2] v0 fun v13 =>
 (pLd1 v13 r12.2).bind fun v14 =>
 eqK (pLd1 v13 H4) (pLd1 v13 r12.2) <|
 eqK (pLd1 v13 r7.2) (pLd1 v13 r12.2) <|
 (FF n_r16_NewPost [v3, v14] r12.2).bind fun r15 =>
 eqK (pLdN 5 v0 r15.2) (pLdN 5 v0 H4) <|
 (pLdN 5 v0 r15.2).bind fun v16 =>
 eqK (pLdN 5 v0 H4) (pLdN 5 v0 r15.2) <|
 eqK (pLdN 5 v0 r7.2) (pLdN 5 v0 r15.2) <|
 eqK (pLdN 5 v0 r12.2) (pLdN 5 v0 r15.2) <|
 (FF n_r16_NewCore [v16] r15.2).bind fun r17 =>
 eqK (pLdN 5 v0 r17.2) (pLdN 5 v0 H4) <|
 mkS [(0, 5), (5, 1), (6, 1), (7, 1), (8, 1), (9, 1), (10, 1), (11, 1), (12, 1), (13, 1)] [(vi 0), (vi 0), (vi 0), (vi 0), (vw 0), (.pointer none), (.pointer none), (.pointer none), (.pointer none), (.pointer none), (.slice none 0 0), (.slice none 0 0), (.slice none 0 0), (.slice none 0 0)] [(0, v5), (1, v3), (2, r7.1), (3, r12.1), (4, r15.1), (5, r17.1)] fun v18 =>
 newK (Value.cells v18).toList r17.2 fun v19 H20 =>
 some (v19, H20)) = some r) : FF n_r16_NewParts [x0] H = some r :=
 fo Tryz.func32 (by kernel_rfl) h
theorem l23_Pair_put_of (x0 x1 x2 x3 : Value) (H : AH) {r : Value × AH} (h : (
 newK (Value.cells x0).toList H fun v0 H1 =>
 ld [.f 1] v0 H1 fun v2 =>
 ldN 5 [.n, .f 0] v2 H1 fun v3 =>
 newK [(vi 0), (vi 0), (vi 0), (vi 0), (vw 0)] H1 fun v4 H5 =>
 (pSt 5 v4 v3 H5).bind fun H6 =>
 ld [.f 4] v4 H6 fun v7 =>
 (FF n_r01_Inverse [v7, x2] H6).bind fun r8 =>
 (pExtract r8.1 0).bind fun v9 =>
 (pExtract r8.1 1).bind fun v10 =>
 mkS [(0, 1), (1, 1), (2, 1)] [(vi 0), (vi 0), (vw 0)] [(0, x1), (1, x3), (2, v9)] fun v11 =>
 newK [(vi 0), (vi 0), (vw 0)] r8.2 fun v12 H13 =>
 (pSt 3 v12 v11 H13).bind fun H14 =>
 ld [.f 0] v0 H14 fun v15 =>
 (pLdN 3 v12 H14).bind fun v16 =>
 (FF n_parts_Parts_Make [v15, (vi 0), v16] H14).bind fun r17 =>
 ad [.f 1] v0 fun v18 =>
 (pLd1 v18 r17.2).bind fun v19 =>
 eqK (pLd1 v18 H14) (pLd1 v18 r17.2) <|
 (pLdN 3 v12 r17.2).bind fun v20 =>
 eqK (pLdN 3 v12 H14) (pLdN 3 v12 r17.2) <|
 (FF n_r16_Parts_Make [v19, (vi 0), v20] r17.2).bind fun r21 =>
 (pBin .other .eql r17.1 r21.1).bind fun v22 =>
 gld v22 true  [.f 0] v0 r21.2 fun v23 =>
 gld v22 true  [.n, .f 2] v23 r21.2 fun v24 =>
 (gV v22 true x1).bind fun v25 =>
 gld v22 true  [.f 0] v4 r21.2 fun v26 =>
 (gB v22 true (pBin .other .rem v25 v26)).bind fun v27 =>
 (gV v22 true x1).bind fun v28 =>
 gld v22 true  [.f 0] v4 r21.2 fun v29 =>
 (gB v22 true (pBin .other .quo v28 v29)).bind fun v30 =>
 (gV v22 true x1).bind fun v31 =>
 (gV v22 true r17.1).bind fun v32 =>
 (gE v22 true r21.2 (FF n_table_Table_Put [v24, (vi 0), v27, v30, v31, v32] r21.2)).bind fun r33 =>
 (pPick v22 r33.1 (vb false)).bind fun v34 =>
 gld v34 true  [.f 1] v0 r33.2 fun v35 =>
 gld v34 true  [.n, .f 7] v35 r33.2 fun v36 =>
 (gV v34 true x1).bind fun v37 =>
 gld v34 true  [.f 0] v4 r33.2 fun v38 =>
 (gB v34 true (pBin .other .rem v37 v38)).bind fun v39 =>
 (gV v34 true x1).bind fun v40 =>
 gld v34 true  [.f 0] v4 r33.2 fun v41 =>
 (gB v34 true (pBin .other .quo v40 v41)).bind fun v42 =>
 (gV v34 true x1).bind fun v43 =>
 (gV v34 true r21.1).bind fun v44 =>
 (gE v34 true r33.2 (FF n_r16_Table_Put [v36, (vi 0), v39, v42, v43, v44] r33.2)).bind fun r45 =>
 (pPick v34 r45.1 (vb false)).bind fun v46 =>
 some (v46, r45.2)) = some r) : FF n_l23_Pair_put [x0, x1, x2, x3] H = some r :=
 fo Tryz.func33 (by kernel_rfl) h
theorem table_Table_Shard_of (x0 x1 : Value) (H : AH) {r : Value × AH} (h : (
 ld [.n, .f 1] x0 H fun v0 =>
 (pBin .other .rem x1 v0).bind fun v1 =>
 ld [.n, .f 1] x0 H fun v2 =>
 (pBin .other .add v1 v2).bind fun v3 =>
 ld [.n, .f 1] x0 H fun v4 =>
 (pBin .other .rem v3 v4).bind fun v5 =>
 some (v5, H)) = some r) : FF n_table_Table_Shard [x0, x1] H = some r :=
 fo Tryz.func34 (by kernel_rfl) h
noncomputable def f35_b (p : List Nat) : Code := Code.sub (bodyOf Tryz.f35) p
noncomputable def f35_r : KK := cFin PP (Tryz.f35).results.toList
noncomputable def f35_n0 : KK := CQ (f35_b [1]) f35_r kx0 f35_r
noncomputable def eE_first_k0 (x0 x1 x4 x5 : Value) (H : AH) : OV := f35_n0 (ls [x0, x1, u, u, x4, x5] 45) H
noncomputable def f35_n1 : KK := CQ (f35_b [1, 1]) f35_r kx0 f35_r
noncomputable def f35_m1 : KK := clr 2251799813685196 f35_n1
noncomputable def eE_first_k1 (x0 x1 x4 x5 : Value) (H : AH) : OV := f35_n1 (ls [x0, x1, u, u, x4, x5] 45) H
noncomputable def f35_x7 : KX := BX 0 f35_m1 kx0
theorem f35_r_d : Resp 2251799813685199 f35_r := rf
theorem f35_n0_d : Resp 2251799813685196 f35_n0 := rc f35_r_d kx0_d f35_r_d
theorem f35_n1_d : Resp 2251799813685196 f35_n1 := rc f35_r_d kx0_d f35_r_d
theorem f35_x7_d : ∀ i, Resp 2251799813685196 (f35_x7 i) := rb (cd f35_n1_d) kx0_d
theorem eE_first_k1_eq (x0 x1 x4 x5 : Value) (H : AH) : eE_first_k1 x0 x1 x4 x5 H =
 (FF n_eE_scan [x0, x1] H).bind fun r2 =>
 (pExtract r2.1 0).bind fun v3 =>
 (pExtract r2.1 1).bind fun v4 =>
 (pSt 4 x4 v3 r2.2).bind fun H5 =>
 (pLdN 4 x4 H5).bind fun v6 => some (Value.tuple #[v6, v4], H5) :=
 (by kernel_rfl)
theorem eE_first_k0_eq (x0 x1 x4 x5 : Value) (H : AH) : eE_first_k0 x0 x1 x4 x5 H =
 ld [.n, .f 2, .f 2] x0 H fun v8 =>
 (pBin .other .lss v8 (vi 1)).bind fun v9 =>
 (gV v9 false x0).bind fun v10 =>
 gld v9 false  [.n, .f 2, .f 2] v10 H fun v11 =>
 (gB v9 false (pBin .other .gtr v11 (vi 65536))).bind fun v12 =>
 (pPick v9 (vb true) v12).bind fun v13 =>
 condK v13
 ((FF n_eE_refuse [x0, x1, (vi 3)] H).bind fun r14 =>
 (pExtract r14.1 0).bind fun v15 =>
 (pExtract r14.1 1).bind fun v16 =>
 (pSt 4 x4 v15 r14.2).bind fun H17 =>
 (pLdN 4 x4 H17).bind fun v18 => some (Value.tuple #[v18, v16], H17))
 (ld [.n, .f 2, .f 1] x0 H fun v19 =>
 (pBin .other .lss v19 (vi 0)).bind fun v20 =>
 (gV v20 false x0).bind fun v21 =>
 gld v20 false  [.n, .f 2, .f 1] v21 H fun v22 =>
 (gB v20 false (pBin .other .gtr v22 (vi 1048576))).bind fun v23 =>
 (pPick v20 (vb true) v23).bind fun v24 =>
 condK v24
 ((FF n_eE_refuse [x0, x1, (vi 5)] H).bind fun r25 =>
 (pExtract r25.1 0).bind fun v26 =>
 (pExtract r25.1 1).bind fun v27 =>
 (pSt 4 x4 v26 r25.2).bind fun H28 =>
 (pLdN 4 x4 H28).bind fun v29 => some (Value.tuple #[v29, v27], H28))
 (eE_first_k1 x0 x1 x4 x5 H)) :=
 (pt rfl 0 f35_n1_d (bt rfl (f35_b [1, 0, 4]) 0 f35_x7_d (by kernel_rfl)))
noncomputable def eE_first (x0 x1 : Value) (H : AH) : OV := cCode PP GG FF (f35_b []) (ls [x0, x1] 49) H f35_r kx0 f35_r
theorem eE_first_of (x0 x1 : Value) (H : AH) {r : Value × AH} (h : (
 newK [(vi 0), (.slice none 0 0), (vi 0), (vw 0)] H fun v30 H31 =>
 eE_first_k0 x0 x1 v30 (vb false) H31) = some r) : FF n_eE_first [x0, x1] H = some r :=
 fo (t := eE_first x0 x1 H) Tryz.func35 (by kernel_rfl) (Eq.trans (pt rfl 0 f35_n0_d (by kernel_rfl)) h)
theorem sCp_of (x0 : Value) (H : AH) {r : Value × AH} (h : (
 (pBin .slice .eql x0 (.slice none 0 0)).bind fun v0 =>
 condK v0
 (some ((.slice none 0 0), H))
 (mkR 0 7 [(vi 0), (vi 0), (vi 0), (vi 0), (.slice none 0 0), (vi 0), (vw 0)] [] H fun v1 H2 =>
 (pApp 7 72 v1 x0 H2).bind fun r3 =>
 some (r3.1, r3.2))) = some r) : FF n_sCp [x0] H = some r :=
 fo Tryz.func36 (by kernel_rfl) h
theorem sSo_of (x0 x1 : Value) (H : AH) {r : Value × AH} (h : (
 lenK x0 fun v0 =>
 (FF n_sSt [x0, v0, x1] H).bind fun r1 =>
 some (Value.tuple #[], r1.2)) = some r) : FF n_sSo [x0, x1] H = some r :=
 fo Tryz.func37 (by kernel_rfl) h
theorem parts_own_of (x0 : Value) (H : AH) {r : Value × AH} (h : (
 newK (Value.cells x0).toList H fun v0 H1 =>
 newK [(vi 0), (.slice none 0 0), (vi 0), (vw 0)] H1 fun v2 H3 =>
 ld [.f 1] v0 H3 fun v4 =>
 (FF n_sCa [v4] H3).bind fun r5 =>
 st 1 [.f 1] v0 r5.1 r5.2 fun H6 =>
 (pLdN 4 v0 H6).bind fun v7 =>
 (pSt 4 v2 v7 H6).bind fun H8 =>
 (pLdN 4 v2 H8).bind fun v9 => some (v9, H8)) = some r) : FF n_parts_own [x0] H = some r :=
 fo Tryz.func39 (by kernel_rfl) h
theorem help_Plainapi_Packet_of (x0 x1 : Value) (H : AH) {r : Value × AH} (h : (
 (FF n_hS_Packet [x0, x1, (.func (.func n_help_Plainapi_Packet_1) #[] #[])] H).bind fun r0 =>
 some (r0.1, r0.2)) = some r) : FF n_help_Plainapi_Packet [x0, x1] H = some r :=
 fo Tryz.func40 (by kernel_rfl) h
theorem mem_Mem_Add_of (x0 x1 x2 x3 : Value) (H : AH) {r : Value × AH} (h : (
 newK (Value.cells x2).toList H fun v0 H1 =>
 (pLdN 3 v0 H1).bind fun v2 =>
 (pLdN 3 v0 H1).bind fun v3 =>
 (FF n_mem_Mem_Peek [x0, v3] H1).bind fun r4 =>
 eqK (pLdN 3 v0 r4.2) (pLdN 3 v0 H1) <|
 (pBin .other .add r4.1 x3).bind fun v5 =>
 (FF n_mem_Mem_turn [x0, x1, v2, v5] r4.2).bind fun r6 =>
 some (r6.1, r6.2)) = some r) : FF n_mem_Mem_Add [x0, x1, x2, x3] H = some r :=
 fo Tryz.func48 (by kernel_rfl) h
theorem r16_Mem_Add_of (x0 x1 x2 x3 : Value) (H : AH) {r : Value × AH} (h : (
 newK (Value.cells x2).toList H fun v0 H1 =>
 (pLdN 3 v0 H1).bind fun v2 =>
 (FF n_rMp [x0, v2] H1).bind fun r3 =>
 (pLdN 3 v0 r3.2).bind fun v4 =>
 (FF n_r16_Mem_Log [x0, x1, (vi 3), v4] r3.2).bind fun r5 =>
 ld [.n, .f 1] x0 r5.2 fun v6 =>
 ld [.i 1 r3.1] v6 r5.2 fun v7 =>
 ld [.n, .f 1] x0 r5.2 fun v8 =>
 (pBin .other .add v7 x3).bind fun v9 =>
 st 1 [.i 1 r3.1] v8 v9 r5.2 fun H10 =>
 some (v7, H10)) = some r) : FF n_r16_Mem_Add [x0, x1, x2, x3] H = some r :=
 fo Tryz.func49 (by kernel_rfl) h
theorem r16_Loc_of (x0 x1 x2 : Value) (H : AH) {r : Value × AH} (h : (
 newK [(vi 0), (vi 0), (vi 0)] H fun v0 H1 =>
 mkS [(0, 1), (1, 1), (2, 1)] [(vi 0), (vi 0), (vi 0)] [(0, x0), (1, x1), (2, x2)] fun v2 =>
 (pSt 3 v0 v2 H1).bind fun H3 =>
 (pLdN 3 v0 H3).bind fun v4 => some (v4, H3)) = some r) : FF n_r16_Loc [x0, x1, x2] H = some r :=
 fo Tryz.func50 (by kernel_rfl) h
theorem model_Right_of (x0 : Value) (H : AH) {r : Value × AH} (h : (
 newK (Value.cells x0).toList H fun v0 H1 =>
 ld [.f 0] v0 H1 fun v2 =>
 (FF n_model_within [v2, (vi 1), (vi 4)] H1).bind fun r3 =>
 gld r3.1 true  [.f 1] v0 r3.2 fun v4 =>
 (gE r3.1 true r3.2 (FF n_model_within [v4, (vi 1), (vi 4)] r3.2)).bind fun r5 =>
 (pPick r3.1 r5.1 (vb false)).bind fun v6 =>
 gld v6 true  [.f 2] v0 r5.2 fun v7 =>
 (gE v6 true r5.2 (FF n_model_within [v7, (vi 1), (vi 6)] r5.2)).bind fun r8 =>
 (pPick v6 r8.1 (vb false)).bind fun v9 =>
 gld v9 true  [.f 3] v0 r8.2 fun v10 =>
 (gE v9 true r8.2 (FF n_model_within [v10, (vi 0), (vi 40)] r8.2)).bind fun r11 =>
 (pPick v9 r11.1 (vb false)).bind fun v12 =>
 gld v12 true  [.f 4] v0 r11.2 fun v13 =>
 (gB v12 true (pBin .other .geq v13 (vw 1))).bind fun v14 =>
 (pPick v12 v14 (vb false)).bind fun v15 =>
 gld v15 true  [.f 4] v0 r11.2 fun v16 =>
 (gB v15 true (pBin .other .leq v16 (vw 4611686018427387904))).bind fun v17 =>
 (pPick v15 v17 (vb false)).bind fun v18 =>
 some (v18, r11.2)) = some r) : FF n_model_Right [x0] H = some r :=
 fo Tryz.func55 (by kernel_rfl) h
theorem mem_New_of (H : AH) {r : Value × AH} (h : (
 mapK H fun v0 H1 =>
 mkS [(0, 1), (1, 1)] [(.map none), (.slice none 0 0)] [(0, v0)] fun v2 =>
 newK (Value.cells v2).toList H1 fun v3 H4 =>
 some (v3, H4)) = some r) : FF n_mem_New [] H = some r :=
 fo Tryz.func56 (by kernel_rfl) h
theorem inbox_New_of (x0 x1 : Value) (H : AH) {r : Value × AH} (h : (
 (pMax [x1, (vi 1)]).bind fun v0 =>
 (pMin [v0, (vi 4)]).bind fun v1 =>
 mapK H fun v2 H3 =>
 mkS [(0, 1), (1, 1), (2, 1), (3, 1), (4, 1)] [(.pointer none), (vi 0), (.map none), Value.nilFunc, Value.nilFunc] [(0, x0), (1, v1), (2, v2), (3, (.func (.func n_inbox_site_at) #[(vi 9)] #[])), (4, (.func (.func n_inbox_site_at) #[(vi 14)] #[]))] fun v4 =>
 newK (Value.cells v4).toList H3 fun v5 H6 =>
 some (v5, H6)) = some r) : FF n_inbox_New [x0, x1] H = some r :=
 fo Tryz.func57 (by kernel_rfl) h
theorem table_New_of (x0 x1 x2 : Value) (H : AH) {r : Value × AH} (h : (
 (pMax [x1, (vi 1)]).bind fun v0 =>
 (pMin [v0, (vi 4)]).bind fun v1 =>
 (pMax [x2, (vi 1)]).bind fun v2 =>
 (pMin [v2, (vi 4)]).bind fun v3 =>
 mkS [(0, 1), (1, 1), (2, 1)] [(.pointer none), (vi 0), (vi 0)] [(0, x0), (1, v1), (2, v3)] fun v4 =>
 newK (Value.cells v4).toList H fun v5 H6 =>
 some (v5, H6)) = some r) : FF n_table_New [x0, x1, x2] H = some r :=
 fo Tryz.func58 (by kernel_rfl) h
theorem post_New_of (x0 x1 : Value) (H : AH) {r : Value × AH} (h : (
 (pMax [x1, (vi 1)]).bind fun v0 =>
 (pMin [v0, (vi 6)]).bind fun v1 =>
 mapK H fun v2 H3 =>
 mapK H3 fun v4 H5 =>
 mkS [(0, 1), (1, 1), (2, 1), (3, 1)] [(.pointer none), (vi 0), (.map none), (.map none)] [(0, x0), (1, v1), (2, v2), (3, v4)] fun v6 =>
 newK (Value.cells v6).toList H5 fun v7 H8 =>
 some (v7, H8)) = some r) : FF n_post_New [x0, x1] H = some r :=
 fo Tryz.func59 (by kernel_rfl) h
theorem core_New_of (x0 : Value) (H : AH) {r : Value × AH} (h : (
 newK (Value.cells x0).toList H fun v0 H1 =>
 ld [.f 0] v0 H1 fun v2 =>
 ld [.f 3] v0 H1 fun v3 =>
 (FF n_queue_New [v2, v3] H1).bind fun r4 =>
 mapK r4.2 fun v5 H6 =>
 mapK H6 fun v7 H8 =>
 mkS [(0, 1), (1, 1), (2, 1), (3, 1), (4, 1), (5, 1), (6, 1), (7, 1), (8, 3)] [Value.nilFunc, Value.nilFunc, Value.nilFunc, (vw 0), (vw 0), (vi 0), (.map none), (.map none), (vb false), (vi 0), (vw 0)] [(0, (.func (.func n_queue_Queue_Push) #[r4.1] #[])), (1, (.func (.func n_queue_Queue_Pop) #[r4.1] #[])), (2, (.func (.func n_queue_Queue_All) #[r4.1] #[])), (6, v5), (7, v7)] fun v9 =>
 newK (Value.cells v9).toList H8 fun v10 H11 =>
 some (v10, H11)) = some r) : FF n_core_New [x0] H = some r :=
 fo Tryz.func60 (by kernel_rfl) h
theorem r16_NewInbox_of (x0 x1 : Value) (H : AH) {r : Value × AH} (h : (
 (pMax [x1, (vi 1)]).bind fun v0 =>
 (pMin [v0, (vi 4)]).bind fun v1 =>
 mkS [(0, 1), (1, 1), (2, 1), (3, 1)] [(.pointer none), (vi 0), (.slice none 0 0), (.slice none 0 0)] [(0, x0), (1, v1)] fun v2 =>
 newK (Value.cells v2).toList H fun v3 H4 =>
 some (v3, H4)) = some r) : FF n_r16_NewInbox [x0, x1] H = some r :=
 fo Tryz.func61 (by kernel_rfl) h
theorem r16_NewTable_of (x0 x1 x2 : Value) (H : AH) {r : Value × AH} (h : (
 (pMax [x1, (vi 1)]).bind fun v0 =>
 (pMin [v0, (vi 4)]).bind fun v1 =>
 (pMax [x2, (vi 1)]).bind fun v2 =>
 (pMin [v2, (vi 4)]).bind fun v3 =>
 mkS [(0, 1), (1, 1), (2, 1)] [(.pointer none), (vi 0), (vi 0)] [(0, x0), (1, v1), (2, v3)] fun v4 =>
 newK (Value.cells v4).toList H fun v5 H6 =>
 some (v5, H6)) = some r) : FF n_r16_NewTable [x0, x1, x2] H = some r :=
 fo Tryz.func62 (by kernel_rfl) h
theorem r16_NewPost_of (x0 x1 : Value) (H : AH) {r : Value × AH} (h : (
 (pMax [x1, (vi 1)]).bind fun v0 =>
 (pMin [v0, (vi 6)]).bind fun v1 =>
 mkS [(0, 1), (1, 1), (2, 1), (3, 1), (4, 1), (5, 1)] [(.pointer none), (vi 0), (.slice none 0 0), (.slice none 0 0), (.slice none 0 0), (.slice none 0 0)] [(0, x0), (1, v1)] fun v2 =>
 newK (Value.cells v2).toList H fun v3 H4 =>
 some (v3, H4)) = some r) : FF n_r16_NewPost [x0, x1] H = some r :=
 fo Tryz.func63 (by kernel_rfl) h
theorem r16_NewCore_of (x0 : Value) (H : AH) {r : Value × AH} (h : (
 newK (Value.cells x0).toList H fun v0 H1 =>
 ld [.f 0] v0 H1 fun v2 =>
 ld [.f 3] v0 H1 fun v3 =>
 (FF n_rNQ [v2, v3] H1).bind fun r4 =>
 mkS [(0, 1), (1, 1), (2, 1), (3, 1), (4, 1), (5, 1), (6, 1), (7, 1), (8, 1)] [(.pointer none), (vw 0), (vw 0), (vi 0), (.slice none 0 0), (.slice none 0 0), (vb false), (vi 0), (vw 0)] [(0, r4.1)] fun v5 =>
 newK (Value.cells v5).toList r4.2 fun v6 H7 =>
 some (v6, H7)) = some r) : FF n_r16_NewCore [x0] H = some r :=
 fo Tryz.func64 (by kernel_rfl) h
theorem r01_Inverse_of (x0 x1 : Value) (H : AH) {r : Value × AH} (h : (
 (pBin .other .lss x0 (vw 1)).bind fun v0 =>
 (gV v0 false x0).bind fun v1 =>
 (gB v0 false (pBin .other .gtr v1 (vw 4611686018427387904))).bind fun v2 =>
 (pPick v0 (vb true) v2).bind fun v3 =>
 (gV v3 false x1).bind fun v4 =>
 (gB v3 false (pBin .other .lss v4 (vi 1))).bind fun v5 =>
 (pPick v3 (vb true) v5).bind fun v6 =>
 (gV v6 false x1).bind fun v7 =>
 (gB v6 false (pBin .other .gtr v7 (vi 65536))).bind fun v8 =>
 (pPick v6 (vb true) v8).bind fun v9 =>
 condK v9
 (some (Value.tuple #[(vw 0), (vb false)], H))
 ((pConv (some .u64) x1).bind fun v10 =>
 (pBin .other .quo x0 v10).bind fun v11 =>
 (pMax [v11, (vw 1)]).bind fun v12 =>
 some (Value.tuple #[v12, (vb true)], H))) = some r) : FF n_r01_Inverse [x0, x1] H = some r :=
 fo Tryz.func65 (by kernel_rfl) h
theorem parts_Parts_Make_of (x0 x1 x2 : Value) (H : AH) {r : Value × AH} (h : (
 newK (Value.cells x2).toList H fun v0 H1 =>
 ld [.n, .f 10] x0 H1 fun v2 =>
 lenK v2 fun v3 =>
 ld [.n, .f 0] x0 H1 fun v4 =>
 mkS [(0, 1), (1, 1), (2, 1)] [(vi 0), (vi 0), (vi 0)] [(0, (vi 13)), (1, v3)] fun v5 =>
 (FF n_mem_Mem_Write [v4, x1, v5] H1).bind fun r6 =>
 ad [.n, .f 10] x0 fun v7 =>
 (pLd1 v7 r6.2).bind fun v8 =>
 (pLdN 3 v0 r6.2).bind fun v9 =>
 ld [.n, .f 0] x0 r6.2 fun v10 =>
 ld [.f 1] v0 r6.2 fun v11 =>
 (FF n_ring_New [v10, v3, v11] r6.2).bind fun r12 =>
 eqK (pLd1 v7 r12.2) (pLd1 v7 r6.2) <|
 eqK (pLdN 3 v0 r12.2) (pLdN 3 v0 r6.2) <|
 mkS [(0, 3), (3, 1)] [(vi 0), (vi 0), (vw 0), (.pointer none)] [(0, v9), (1, r12.1)] fun v13 =>
 mkR 1 4 [(vi 0), (vi 0), (vw 0), (.pointer none)] [(0, v13)] r12.2 fun v14 H15 =>
 (pApp 4 32 v8 v14 H15).bind fun r16 =>
 st 1 [.n, .f 10] x0 r16.1 r16.2 fun H17 =>
 some (v3, H17)) = some r) : FF n_parts_Parts_Make [x0, x1, x2] H = some r :=
 fo Tryz.func66 (by kernel_rfl) h
theorem r16_Parts_Make_of (x0 x1 x2 : Value) (H : AH) {r : Value × AH} (h : (
 newK (Value.cells x2).toList H fun v0 H1 =>
 ld [.n, .f 10] x0 H1 fun v2 =>
 lenK v2 fun v3 =>
 ad [.n, .f 5] x0 fun v4 =>
 (pLd1 v4 H1).bind fun v5 =>
 (FF n_r16_Loc [(vi 13), v3, (vi 0)] H1).bind fun r6 =>
 eqK (pLd1 v4 r6.2) (pLd1 v4 H1) <|
 (FF n_r16_Mem_Log [v5, x1, (vi 6), r6.1] r6.2).bind fun r7 =>
 ld [.n, .f 10] x0 r7.2 fun v8 =>
 (pLdN 3 v0 r7.2).bind fun v9 =>
 mkR 1 3 [(vi 0), (vi 0), (vw 0)] [(0, v9)] r7.2 fun v10 H11 =>
 (pApp 3 24 v8 v10 H11).bind fun r12 =>
 ad [.n, .f 11] x0 fun v13 =>
 (pLd1 v13 r12.2).bind fun v14 =>
 eqK (pLd1 v13 H11) (pLd1 v13 r12.2) <|
 ad [.n, .f 5] x0 fun v15 =>
 (pLd1 v15 r12.2).bind fun v16 =>
 eqK (pLd1 v15 H11) (pLd1 v15 r12.2) <|
 ad [.f 1] v0 fun v17 =>
 (pLd1 v17 r12.2).bind fun v18 =>
 eqK (pLd1 v17 H11) (pLd1 v17 r12.2) <|
 (FF n_r16_NewRing [v16, v3, v18] r12.2).bind fun r19 =>
 eqK (pLd1 v13 r19.2) (pLd1 v13 r12.2) <|
 mkR 1 1 [(.pointer none)] [(0, r19.1)] r19.2 fun v20 H21 =>
 (pApp 1 8 v14 v20 H21).bind fun r22 =>
 st 1 [.n, .f 10] x0 r12.1 r22.2 fun H23 =>
 st 1 [.n, .f 11] x0 r22.1 H23 fun H24 =>
 some (v3, H24)) = some r) : FF n_r16_Parts_Make [x0, x1, x2] H = some r :=
 fo Tryz.func67 (by kernel_rfl) h
theorem table_Table_Put_of (x0 x1 x2 x3 x4 x5 : Value) (H : AH) {r : Value × AH} (h : (
 (pBin .other .lss x4 (vi 0)).bind fun v0 =>
 (gV v0 false x4).bind fun v1 =>
 (gB v0 false (pBin .other .gtr v1 (vi 1048576))).bind fun v2 =>
 (pPick v0 (vb true) v2).bind fun v3 =>
 (gV v3 false x5).bind fun v4 =>
 (gB v3 false (pBin .other .lss v4 (vi 0))).bind fun v5 =>
 (pPick v3 (vb true) v5).bind fun v6 =>
 (gV v6 false x5).bind fun v7 =>
 (gB v6 false (pBin .other .geq v7 (vi 4294967296))).bind fun v8 =>
 (pPick v6 (vb true) v8).bind fun v9 =>
 condK v9
 (some ((vb false), H))
 (ad [.n, .f 0] x0 fun v10 =>
 (pLd1 v10 H).bind fun v11 =>
 (FF n_table_slot [x2, x3] H).bind fun r12 =>
 eqK (pLd1 v10 r12.2) (pLd1 v10 H) <|
 (pBin .other .add x4 (vi 1)).bind fun v13 =>
 (pConv (some .u64) v13).bind fun v14 =>
 (pBin .other .shl v14 (vw 32)).bind fun v15 =>
 (pConv (some .u64) x5).bind fun v16 =>
 (pBin .other .or v15 v16).bind fun v17 =>
 (FF n_mem_Mem_Store [v11, x1, r12.1, v17] r12.2).bind fun r18 =>
 some ((vb true), r18.2))) = some r) : FF n_table_Table_Put [x0, x1, x2, x3, x4, x5] H = some r :=
 fo Tryz.func68 (by kernel_rfl) h
theorem r16_Table_Put_of (x0 x1 x2 x3 x4 x5 : Value) (H : AH) {r : Value × AH} (h : (
 (pBin .other .lss x4 (vi 0)).bind fun v0 =>
 (gV v0 false x4).bind fun v1 =>
 (gB v0 false (pBin .other .gtr v1 (vi 1048576))).bind fun v2 =>
 (pPick v0 (vb true) v2).bind fun v3 =>
 (gV v3 false x5).bind fun v4 =>
 (gB v3 false (pBin .other .lss v4 (vi 0))).bind fun v5 =>
 (pPick v3 (vb true) v5).bind fun v6 =>
 (gV v6 false x5).bind fun v7 =>
 (gB v6 false (pConv (some .u64) v7)).bind fun v8 =>
 (gB v6 false (pBin .other .geq v8 (vw 4294967296))).bind fun v9 =>
 (pPick v6 (vb true) v9).bind fun v10 =>
 condK v10
 (some ((vb false), H))
 (ad [.n, .f 0] x0 fun v11 =>
 (pLd1 v11 H).bind fun v12 =>
 (FF n_r16_Loc [(vi 10), x2, x3] H).bind fun r13 =>
 eqK (pLd1 v11 r13.2) (pLd1 v11 H) <|
 (pBin .other .add x4 (vi 1)).bind fun v14 =>
 (pConv (some .u64) v14).bind fun v15 =>
 (pBin .other .mul v15 (vw 4294967296)).bind fun v16 =>
 (pConv (some .u64) x5).bind fun v17 =>
 (pBin .other .add v16 v17).bind fun v18 =>
 (FF n_r16_Mem_Store [v12, x1, r13.1, v18] r13.2).bind fun r19 =>
 some ((vb true), r19.2))) = some r) : FF n_r16_Table_Put [x0, x1, x2, x3, x4, x5] H = some r :=
 fo Tryz.func69 (by kernel_rfl) h
theorem eE_refuse_of (x0 x1 x2 : Value) (H : AH) {r : Value × AH} (h : (
 newK [(vi 0), (.slice none 0 0), (vi 0), (vw 0)] H fun v0 H1 =>
 (FF n_eE_note [x0, x1, x2] H1).bind fun r2 =>
 (FF n_eE_ends [x0, x2] r2.2).bind fun r3 =>
 (pExtract r3.1 0).bind fun v4 =>
 (pExtract r3.1 1).bind fun v5 =>
 (pSt 4 v0 v4 r3.2).bind fun H6 =>
 (pLdN 4 v0 H6).bind fun v7 => some (Value.tuple #[v7, v5], H6)) = some r) : FF n_eE_refuse [x0, x1, x2] H = some r :=
 fo Tryz.func70 (by kernel_rfl) h
noncomputable def f72_b (p : List Nat) : Code := Code.sub (bodyOf Tryz.f72) p
noncomputable def f72_r : KK := cFin PP (Tryz.f72).results.toList
noncomputable def f72_n0 : KK := CQ (f72_b [1, 1]) f72_r kx0 f72_r
noncomputable def sSt_k0 (x0 x1 x2 x6 x7 x8 : Value) (H : AH) : OV := f72_n0 (ls [x0, x1, x2, u, u, u, x6, x7, x8] 54) H
noncomputable def f72_n1 : KK := CQ (f72_b [1, 1, 1]) f72_r kx0 f72_r
noncomputable def f72_m1 : KK := clr 9223372036854775608 f72_n1
noncomputable def sSt_k1 (x0 x1 x2 x6 x7 : Value) (H : AH) : OV := f72_n1 (ls [x0, x1, x2, u, u, u, x6, x7] 55) H
noncomputable def f72_n2 : KK := CQ (f72_b [1, 1, 1, 1]) f72_r kx0 f72_r
noncomputable def sSt_k2 (x0 x1 x2 x6 : Value) (H : AH) : OV := f72_n2 (ls [x0, x1, x2, u, u, u, x6] 56) H
noncomputable def f72_x3 : KX := BX 2 f72_r kx0
noncomputable def f72_y3 : KX := clx 9223372036854775807 f72_x3
noncomputable def f72_n4 : KK := CLq (f72_b [1, 1, 1, 1, 4, 5]) f72_y3 f72_r
noncomputable def f72_m4 : KK := clr 9223372036854775736 f72_n4
noncomputable def sSt_k4 (x0 x1 x2 x6 : Value) (H : AH) : OV := f72_n4 (ls [x0, x1, x2, u, u, u, x6] 56) H
noncomputable def f72_n5 : KK := CQ (f72_b [1, 1, 1, 1, 4, 5, 1]) f72_m4 f72_y3 f72_r
noncomputable def sSt_k5 (x0 x1 x2 x6 : Value) (H : AH) : OV := f72_n5 (ls [x0, x1, x2, u, u, u, x6] 56) H
noncomputable def f72_x6 : KX := BX 3 f72_m4 f72_y3
noncomputable def f72_y6 : KX := clx 9223372036854775736 f72_x6
noncomputable def f72_n7 : KK := CQ (f72_b [1, 1, 1, 1, 4, 5, 1, 4, 1]) f72_m4 f72_y6 f72_r
noncomputable def sSt_k7 (x0 x1 x2 x6 x7 x8 : Value) (H : AH) : OV := f72_n7 (ls [x0, x1, x2, u, u, u, x6, x7, x8] 54) H
noncomputable def f72_n8 : KK := CQ (f72_b [1, 1, 1, 1, 4, 5, 1, 4, 1, 1]) f72_m4 f72_y6 f72_r
noncomputable def f72_m8 : KK := clr 9223372036854775608 f72_n8
noncomputable def sSt_k8 (x0 x1 x2 x6 x7 : Value) (H : AH) : OV := f72_n8 (ls [x0, x1, x2, u, u, u, x6, x7] 55) H
noncomputable def f72_n9 : KK := CQ (f72_b [1, 1, 1, 1, 4, 5, 1, 4, 1, 1, 1]) f72_m4 f72_y6 f72_r
noncomputable def sSt_k9 (x0 x1 x2 x6 : Value) (H : AH) : OV := f72_n9 (ls [x0, x1, x2, u, u, u, x6] 56) H
noncomputable def f72_x14 : KX := BX 4 f72_m8 f72_y6
noncomputable def f72_y14 : KX := clx 9223372036854775608 f72_x14
noncomputable def f72_n15 : KK := CLq (f72_b [1, 1, 1, 1, 4, 5, 1, 4, 1, 0, 4, 5]) f72_y14 f72_r
noncomputable def f72_m15 : KK := clr 9223372036854775352 f72_n15
noncomputable def sSt_k15 (x0 x1 x2 x6 x7 x8 : Value) (H : AH) : OV := f72_n15 (ls [x0, x1, x2, u, u, u, x6, x7, x8] 54) H
noncomputable def f72_n16 : KK := CQ (f72_b [1, 1, 1, 1, 4, 5, 1, 4, 1, 0, 4, 5, 1]) f72_m15 f72_y14 f72_r
noncomputable def sSt_k16 (x0 x1 x2 x6 x7 x8 : Value) (H : AH) : OV := f72_n16 (ls [x0, x1, x2, u, u, u, x6, x7, x8] 54) H
noncomputable def f72_x17 : KX := BX 5 f72_m15 f72_y14
noncomputable def sSt_e14_4 (x0 x1 x2 x6 x7 : Value) (H : AH) : OV := f72_x14 4 (ls [x0, x1, x2, u, u, u, x6, x7] 55) H
noncomputable def sSt_e3_2 (H : AH) : OV := f72_x3 2 (ls [] 63) H
noncomputable def f72_x26 : KX := BX 0 f72_m1 kx0
noncomputable def f72_y26 : KX := clx 9223372036854775608 f72_x26
noncomputable def f72_n27 : KK := CLq (f72_b [1, 1, 0, 4, 5]) f72_y26 f72_r
noncomputable def f72_m27 : KK := clr 9223372036854775352 f72_n27
noncomputable def sSt_k27 (x0 x1 x2 x6 x7 x8 : Value) (H : AH) : OV := f72_n27 (ls [x0, x1, x2, u, u, u, x6, x7, x8] 54) H
noncomputable def f72_n28 : KK := CQ (f72_b [1, 1, 0, 4, 5, 1]) f72_m27 f72_y26 f72_r
noncomputable def sSt_k28 (x0 x1 x2 x6 x7 x8 : Value) (H : AH) : OV := f72_n28 (ls [x0, x1, x2, u, u, u, x6, x7, x8] 54) H
noncomputable def f72_x29 : KX := BX 1 f72_m27 f72_y26
noncomputable def sSt_e26_0 (x0 x1 x2 x6 x7 : Value) (H : AH) : OV := f72_x26 0 (ls [x0, x1, x2, u, u, u, x6, x7] 55) H
theorem f72_r_d : Resp 9223372036854775807 f72_r := rf
theorem f72_n0_d : Resp 9223372036854775352 f72_n0 := rc f72_r_d kx0_d f72_r_d
theorem f72_n1_d : Resp 9223372036854775608 f72_n1 := rc f72_r_d kx0_d f72_r_d
theorem f72_n2_d : Resp 9223372036854775736 f72_n2 := rc f72_r_d kx0_d f72_r_d
theorem f72_x3_d : ∀ i, Resp 9223372036854775807 (f72_x3 i) := rb f72_r_d kx0_d
theorem f72_n4_d : Resp 9223372036854775736 f72_n4 := rl (cx f72_x3_d) f72_r_d
theorem f72_n5_d : Resp 9223372036854775736 f72_n5 := rc (cd f72_n4_d) (cx f72_x3_d) f72_r_d
theorem f72_x6_d : ∀ i, Resp 9223372036854775736 (f72_x6 i) := rb (cd f72_n4_d) (cx f72_x3_d)
theorem f72_n7_d : Resp 9223372036854775352 f72_n7 := rc (cd f72_n4_d) (cx f72_x6_d) f72_r_d
theorem f72_n8_d : Resp 9223372036854775608 f72_n8 := rc (cd f72_n4_d) (cx f72_x6_d) f72_r_d
theorem f72_n9_d : Resp 9223372036854775736 f72_n9 := rc (cd f72_n4_d) (cx f72_x6_d) f72_r_d
theorem f72_x14_d : ∀ i, Resp 9223372036854775608 (f72_x14 i) := rb (cd f72_n8_d) (cx f72_x6_d)
theorem f72_n15_d : Resp 9223372036854775352 f72_n15 := rl (cx f72_x14_d) f72_r_d
theorem f72_n16_d : Resp 9223372036854775352 f72_n16 := rc (cd f72_n15_d) (cx f72_x14_d) f72_r_d
theorem f72_x17_d : ∀ i, Resp 9223372036854775352 (f72_x17 i) := rb (cd f72_n15_d) (cx f72_x14_d)
theorem f72_x26_d : ∀ i, Resp 9223372036854775608 (f72_x26 i) := rb (cd f72_n1_d) kx0_d
theorem f72_n27_d : Resp 9223372036854775352 f72_n27 := rl (cx f72_x26_d) f72_r_d
theorem f72_n28_d : Resp 9223372036854775352 f72_n28 := rc (cd f72_n27_d) (cx f72_x26_d) f72_r_d
theorem f72_x29_d : ∀ i, Resp 9223372036854775352 (f72_x29 i) := rb (cd f72_n27_d) (cx f72_x26_d)
theorem sSt_k9_eq (x0 x1 x2 x6 : Value) (H : AH) : sSt_k9 x0 x1 x2 x6 H =
 (pBin .other .mul x6 (vi 2)).bind fun v10 =>
 sSt_k4 x0 x1 x2 v10 H :=
 (by kernel_rfl)
theorem sSt_k8_eq (x0 x1 x2 x6 x7 : Value) (H : AH) : sSt_k8 x0 x1 x2 x6 x7 H =
 (pBin .other .add x7 x6).bind fun v11 =>
 (pBin .other .lss v11 x1).bind fun v12 =>
 condK v12
 ((FF n_sMg [x0, x7, v11, x1, x2] H).bind fun r13 =>
 sSt_k9 x0 x1 x2 x6 r13.2)
 (sSt_k9 x0 x1 x2 x6 H) :=
 (pt rfl 0 f72_n9_d (by kernel_rfl))
theorem sSt_k16_eq (x0 x1 x2 x6 x7 x8 : Value) (H : AH) : sSt_k16 x0 x1 x2 x6 x7 x8 H =
 (pBin .other .add x7 x6).bind fun v18 =>
 (FF n_sMg [x0, x7, v18, x8, x2] H).bind fun r19 =>
 (pBin .other .mul (vi 2) x6).bind fun v20 =>
 (pBin .other .add x8 v20).bind fun v21 =>
 sSt_k15 x0 x1 x2 x6 x8 v21 r19.2 :=
 (bt rfl (f72_b [1, 1, 1, 1, 4, 5, 1, 4, 1, 0, 4, 5, 1, 4]) 5 f72_x17_d (by kernel_rfl))
theorem sSt_e14_4_eq (x0 x1 x2 x6 x7 : Value) (H : AH) : sSt_e14_4 x0 x1 x2 x6 x7 H = sSt_k8 x0 x1 x2 x6 x7 H :=
 (by kernel_rfl)
theorem sSt_k15_eq (x0 x1 x2 x6 x7 x8 : Value) (H : AH) : sSt_k15 x0 x1 x2 x6 x7 x8 H =
 (pBin .other .leq x8 x1).bind fun v22 =>
 condK v22
 (sSt_k16 x0 x1 x2 x6 x7 x8 H)
 (sSt_e14_4 x0 x1 x2 x6 x7 H) :=
 lt' rfl f72_n15_d (pt rfl 0 f72_n16_d (by kernel_rfl))
theorem sSt_k7_eq (x0 x1 x2 x6 x7 x8 : Value) (H : AH) : sSt_k7 x0 x1 x2 x6 x7 x8 H =
 sSt_k15 x0 x1 x2 x6 x7 x8 H :=
 (pt rfl 0 f72_n8_d (bt rfl (f72_b [1, 1, 1, 1, 4, 5, 1, 4, 1, 0, 4]) 4 f72_x14_d (li rfl (f72_b [1, 1, 1, 1, 4, 5, 1, 4, 1, 0, 4, 5]) f72_n15_d (by kernel_rfl))))
theorem sSt_k5_eq (x0 x1 x2 x6 : Value) (H : AH) : sSt_k5 x0 x1 x2 x6 H =
 (pBin .other .mul (vi 2) x6).bind fun v23 =>
 sSt_k7 x0 x1 x2 x6 (vi 0) v23 H :=
 (bt rfl (f72_b [1, 1, 1, 1, 4, 5, 1, 4]) 3 f72_x6_d (pt rfl 0 f72_n7_d (by kernel_rfl)))
theorem sSt_e3_2_eq (H : AH) : sSt_e3_2 H = some (Value.tuple #[], H) :=
 (by kernel_rfl)
theorem sSt_k4_eq (x0 x1 x2 x6 : Value) (H : AH) : sSt_k4 x0 x1 x2 x6 H =
 (pBin .other .lss x6 x1).bind fun v24 =>
 condK v24
 (sSt_k5 x0 x1 x2 x6 H)
 (sSt_e3_2 H) :=
 lt' rfl f72_n4_d (pt rfl 0 f72_n5_d (by kernel_rfl))
theorem sSt_k2_eq (x0 x1 x2 x6 : Value) (H : AH) : sSt_k2 x0 x1 x2 x6 H =
 sSt_k4 x0 x1 x2 x6 H :=
 (bt rfl (f72_b [1, 1, 1, 1, 4]) 2 f72_x3_d (li rfl (f72_b [1, 1, 1, 1, 4, 5]) f72_n4_d (by kernel_rfl)))
theorem sSt_k1_eq (x0 x1 x2 x6 x7 : Value) (H : AH) : sSt_k1 x0 x1 x2 x6 x7 H =
 (FF n_sIn [x0, x7, x1, x2] H).bind fun r25 =>
 sSt_k2 x0 x1 x2 x6 r25.2 :=
 (pt rfl 0 f72_n2_d (by kernel_rfl))
theorem sSt_k28_eq (x0 x1 x2 x6 x7 x8 : Value) (H : AH) : sSt_k28 x0 x1 x2 x6 x7 x8 H =
 (FF n_sIn [x0, x7, x8, x2] H).bind fun r30 =>
 (pBin .other .add x8 x6).bind fun v31 =>
 sSt_k27 x0 x1 x2 x6 x8 v31 r30.2 :=
 (bt rfl (f72_b [1, 1, 0, 4, 5, 1, 4]) 1 f72_x29_d (by kernel_rfl))
theorem sSt_e26_0_eq (x0 x1 x2 x6 x7 : Value) (H : AH) : sSt_e26_0 x0 x1 x2 x6 x7 H = sSt_k1 x0 x1 x2 x6 x7 H :=
 (by kernel_rfl)
theorem sSt_k27_eq (x0 x1 x2 x6 x7 x8 : Value) (H : AH) : sSt_k27 x0 x1 x2 x6 x7 x8 H =
 (pBin .other .leq x8 x1).bind fun v32 =>
 condK v32
 (sSt_k28 x0 x1 x2 x6 x7 x8 H)
 (sSt_e26_0 x0 x1 x2 x6 x7 H) :=
 lt' rfl f72_n27_d (pt rfl 0 f72_n28_d (by kernel_rfl))
theorem sSt_k0_eq (x0 x1 x2 x6 x7 x8 : Value) (H : AH) : sSt_k0 x0 x1 x2 x6 x7 x8 H =
 sSt_k27 x0 x1 x2 x6 x7 x8 H :=
 (pt rfl 0 f72_n1_d (bt rfl (f72_b [1, 1, 0, 4]) 0 f72_x26_d (li rfl (f72_b [1, 1, 0, 4, 5]) f72_n27_d (by kernel_rfl))))
noncomputable def sSt (x0 x1 x2 : Value) (H : AH) : OV := cCode PP GG FF (f72_b []) (ls [x0, x1, x2] 60) H f72_r kx0 f72_r
theorem sSt_of (x0 x1 x2 : Value) (H : AH) {r : Value × AH} (h : (
 sSt_k0 x0 x1 x2 (vi 20) (vi 0) (vi 20) H) = some r) : FF n_sSt [x0, x1, x2] H = some r :=
 fo (t := sSt x0 x1 x2 H) Tryz.func72 (by kernel_rfl) (Eq.trans (pt rfl 1 f72_n0_d (by kernel_rfl)) h)
theorem sCa_of (x0 : Value) (H : AH) {r : Value × AH} (h : (
 (pBin .slice .eql x0 (.slice none 0 0)).bind fun v0 =>
 condK v0
 (some ((.slice none 0 0), H))
 (mkR 0 3 [(vi 0), (vi 0), (vi 0)] [] H fun v1 H2 =>
 (pApp 3 24 v1 x0 H2).bind fun r3 =>
 some (r3.1, r3.2))) = some r) : FF n_sCa [x0] H = some r :=
 fo Tryz.func74 (by kernel_rfl) h
noncomputable def f75_b (p : List Nat) : Code := Code.sub (bodyOf Tryz.f75) p
noncomputable def f75_r : KK := cFin PP (Tryz.f75).results.toList
noncomputable def f75_n0 : KK := CQ (f75_b [1, 1]) f75_r kx0 f75_r
noncomputable def hS_Packet_k0 (x0 x1 x2 x6 : Value) (H : AH) : OV := f75_n0 (ls [x0, x1, x2, u, u, u, x6] 23) H
noncomputable def f75_n1 : KK := CQ (f75_b [1, 1, 1]) f75_r kx0 f75_r
noncomputable def f75_m1 : KK := clr 1073741759 f75_n1
noncomputable def hS_Packet_k1 (x6 : Value) (H : AH) : OV := f75_n1 (ls [u, u, u, u, u, u, x6] 23) H
noncomputable def f75_n2 : KK := CQ (f75_b [1, 1, 0, 1]) f75_m1 kx0 f75_r
noncomputable def hS_Packet_k2 (x0 x1 x2 x6 x7 : Value) (H : AH) : OV := f75_n2 (ls [x0, x1, x2, u, u, u, x6, x7] 22) H
noncomputable def f75_x3 : KX := BX 0 f75_m1 kx0
noncomputable def f75_y3 : KX := clx 1073741759 f75_x3
noncomputable def f75_n4 : KK := CLq (f75_b [1, 1, 0, 1, 4, 5]) f75_y3 f75_r
noncomputable def f75_m4 : KK := clr 1073741624 f75_n4
noncomputable def hS_Packet_k4 (x0 x1 x2 x6 x7 : Value) (H : AH) : OV := f75_n4 (ls [x0, x1, x2, u, u, u, x6, x7] 22) H
noncomputable def f75_n5 : KK := CQ (f75_b [1, 1, 0, 1, 4, 5, 1]) f75_m4 f75_y3 f75_r
noncomputable def hS_Packet_k5 (x0 x1 x2 x6 x7 : Value) (H : AH) : OV := f75_n5 (ls [x0, x1, x2, u, u, u, x6, x7] 22) H
noncomputable def hS_Packet_e3_0 (x6 : Value) (H : AH) : OV := f75_x3 0 (ls [u, u, u, u, u, u, x6] 23) H
theorem f75_r_d : Resp 1073741759 f75_r := rf
theorem f75_n0_d : Resp 1073741752 f75_n0 := rc f75_r_d kx0_d f75_r_d
theorem f75_n1_d : Resp 1073741759 f75_n1 := rc f75_r_d kx0_d f75_r_d
theorem f75_n2_d : Resp 1073741624 f75_n2 := rc (cd f75_n1_d) kx0_d f75_r_d
theorem f75_x3_d : ∀ i, Resp 1073741759 (f75_x3 i) := rb (cd f75_n1_d) kx0_d
theorem f75_n4_d : Resp 1073741624 f75_n4 := rl (cx f75_x3_d) f75_r_d
theorem f75_n5_d : Resp 1073741624 f75_n5 := rc (cd f75_n4_d) (cx f75_x3_d) f75_r_d
theorem hS_Packet_k1_eq (x6 : Value) (H : AH) : hS_Packet_k1 x6 H =
 some ((vb true), H) :=
 (by kernel_rfl)
theorem hS_Packet_e3_0_eq (x6 : Value) (H : AH) : hS_Packet_e3_0 x6 H = hS_Packet_k1 x6 H :=
 (by kernel_rfl)
theorem hS_Packet_k4_eq (x0 x1 x2 x6 x7 : Value) (H : AH) : hS_Packet_k4 x0 x1 x2 x6 x7 H =
 lenK x0 fun v13 =>
 (pBin .other .lss x7 v13).bind fun v14 =>
 condK v14
 (hS_Packet_k5 x0 x1 x2 x6 x7 H)
 (hS_Packet_e3_0 x6 H) :=
 lt' rfl f75_n4_d (pt rfl 0 f75_n5_d (by kernel_rfl))
theorem hS_Packet_k2_eq (x0 x1 x2 x6 x7 : Value) (H : AH) : hS_Packet_k2 x0 x1 x2 x6 x7 H =
 hS_Packet_k4 x0 x1 x2 x6 x7 H :=
 (bt rfl (f75_b [1, 1, 0, 1, 4]) 0 f75_x3_d (li rfl (f75_b [1, 1, 0, 1, 4, 5]) f75_n4_d (by kernel_rfl)))
theorem hS_Packet_k0_eq (x0 x1 x2 x6 : Value) (H : AH) : hS_Packet_k0 x0 x1 x2 x6 H =
 hS_Packet_k2 x0 x1 x2 x6 (vi 0) H :=
 (pt rfl 0 f75_n1_d (pt rfl 0 f75_n2_d (by kernel_rfl)))
noncomputable def hS_Packet (x0 x1 x2 : Value) (H : AH) : OV := cCode PP GG FF (f75_b []) (ls [x0, x1, x2] 27) H f75_r kx0 f75_r
theorem hS_Packet_of (x0 x1 x2 : Value) (H : AH) {r : Value × AH} (h : (
 lenK x0 fun v15 =>
 lenK x1 fun v16 =>
 (pBin .other .neq v15 v16).bind fun v17 =>
 condK v17
 (some ((vb false), H))
 (hS_Packet_k0 x0 x1 x2 (vb false) H)) = some r) : FF n_hS_Packet [x0, x1, x2] H = some r :=
 fo (t := hS_Packet x0 x1 x2 H) Tryz.func75 (by kernel_rfl) (Eq.trans (pt rfl 1 f75_n0_d (by kernel_rfl)) h)
theorem r16_Table_Lock_of (x0 x1 x2 : Value) (H : AH) {r : Value × AH} (h : (
 ad [.n, .f 0] x0 fun v0 =>
 (pLd1 v0 H).bind fun v1 =>
 (FF n_r16_Loc [(vi 8), x2, (vi 0)] H).bind fun r2 =>
 eqK (pLd1 v0 r2.2) (pLd1 v0 H) <|
 (FF n_r16_Mem_Swap [v1, x1, r2.1, (vw 0), (vw 1)] r2.2).bind fun r3 =>
 some (r3.1, r3.2)) = some r) : FF n_r16_Table_Lock [x0, x1, x2] H = some r :=
 fo Tryz.func81 (by kernel_rfl) h
theorem r16_Table_Unlock_of (x0 x1 x2 : Value) (H : AH) {r : Value × AH} (h : (
 ad [.n, .f 0] x0 fun v0 =>
 (pLd1 v0 H).bind fun v1 =>
 (FF n_r16_Loc [(vi 8), x2, (vi 0)] H).bind fun r2 =>
 eqK (pLd1 v0 r2.2) (pLd1 v0 H) <|
 (FF n_r16_Mem_Store [v1, x1, r2.1, (vw 0)] r2.2).bind fun r3 =>
 some (Value.tuple #[], r3.2)) = some r) : FF n_r16_Table_Unlock [x0, x1, x2] H = some r :=
 fo Tryz.func82 (by kernel_rfl) h
theorem r01_Parts_of (x0 : Value) (H : AH) {r : Value × AH} (h : (
 (pBin .other .rem x0 (vw 2305843009213693952)).bind fun v0 =>
 (pBin .other .quo x0 (vw 2305843009213693952)).bind fun v1 =>
 (pConv (some .i64) v1).bind fun v2 =>
 (pBin .other .gtr v2 (vi 2)).bind fun v3 =>
 condK v3
 (some (Value.tuple #[(vw 0), (vi (-1)), (vb false)], H))
 (some (Value.tuple #[v0, v2, (vb true)], H))) = some r) : FF n_r01_Parts [x0] H = some r :=
 fo Tryz.func87 (by kernel_rfl) h
theorem mem_Mem_turn_of (x0 x1 x2 x3 : Value) (H : AH) {r : Value × AH} (h : (
 newK (Value.cells x2).toList H fun v0 H1 =>
 (pLdN 3 v0 H1).bind fun v2 =>
 (FF n_mem_Mem_Peek [x0, v2] H1).bind fun r3 =>
 (pLdN 3 v0 r3.2).bind fun v4 =>
 (FF n_mem_Mem_note [x0, x1, (vi 3), v4] r3.2).bind fun r5 =>
 ld [.n, .f 0] x0 r5.2 fun v6 =>
 (pLdN 3 v0 r5.2).bind fun v7 =>
 mkS [(0, 1)] [(vw 0)] [(0, x3)] fun v8 =>
 (pUpdate (.flat 3) v6 v7 v8 r5.2).bind fun H9 =>
 some (r3.1, H9)) = some r) : FF n_mem_Mem_turn [x0, x1, x2, x3] H = some r :=
 fo Tryz.func99 (by kernel_rfl) h
theorem mem_Mem_Peek_of (x0 x1 : Value) (H : AH) {r : Value × AH} (h : (
 newK (Value.cells x1).toList H fun v0 H1 =>
 ld [.n, .f 0] x0 H1 fun v2 =>
 (pLdN 3 v0 H1).bind fun v3 =>
 (pLookup (.flat 3) (.agg #[(vw 0)]) v2 v3 false H1).bind fun v4 =>
 (pPart none 0 v4).bind fun v5 =>
 some (v5, H1)) = some r) : FF n_mem_Mem_Peek [x0, x1] H = some r :=
 fo Tryz.func100 (by kernel_rfl) h
noncomputable def f101_b (p : List Nat) : Code := Code.sub (bodyOf Tryz.f101) p
noncomputable def f101_r : KK := cFin PP (Tryz.f101).results.toList
noncomputable def f101_n0 : KK := CQ (f101_b [1]) f101_r kx0 f101_r
noncomputable def rMp_k0 (x0 x3 x4 : Value) (H : AH) : OV := f101_n0 (ls [x0, u, u, x3, x4] 45) H
noncomputable def f101_n1 : KK := CQ (f101_b [1, 1]) f101_r kx0 f101_r
noncomputable def f101_m1 : KK := clr 1125899906842598 f101_n1
noncomputable def rMp_k1 (x0 x3 x4 : Value) (H : AH) : OV := f101_n1 (ls [x0, u, u, x3, x4] 45) H
noncomputable def f101_n17 : KK := CQ (f101_b [1, 0, 1]) f101_m1 kx0 f101_r
noncomputable def rMp_k17 (x0 x3 x4 x5 : Value) (H : AH) : OV := f101_n17 (ls [x0, u, u, x3, x4, x5] 44) H
noncomputable def f101_x18 : KX := BX 0 f101_m1 kx0
noncomputable def f101_y18 : KX := clx 1125899906842598 f101_x18
noncomputable def f101_n19 : KK := CLq (f101_b [1, 0, 1, 4, 5]) f101_y18 f101_r
noncomputable def f101_m19 : KK := clr 1125899906842566 f101_n19
noncomputable def rMp_k19 (x0 x3 x4 x5 : Value) (H : AH) : OV := f101_n19 (ls [x0, u, u, x3, x4, x5] 44) H
noncomputable def f101_n20 : KK := CQ (f101_b [1, 0, 1, 4, 5, 1]) f101_m19 f101_y18 f101_r
noncomputable def rMp_k20 (x0 x3 x4 x5 : Value) (H : AH) : OV := f101_n20 (ls [x0, u, u, x3, x4, x5] 44) H
noncomputable def f101_n21 : KK := CQ (f101_b [1, 0, 1, 4, 5, 1, 1]) f101_m19 f101_y18 f101_r
noncomputable def f101_m21 : KK := clr 1125899906842566 f101_n21
noncomputable def rMp_k21 (x0 x3 x4 x5 : Value) (H : AH) : OV := f101_n21 (ls [x0, u, u, x3, x4, x5] 44) H
noncomputable def f101_x23 : KX := BX 1 f101_m21 f101_y18
noncomputable def rMp_e18_0 (x0 x3 x4 : Value) (H : AH) : OV := f101_x18 0 (ls [x0, u, u, x3, x4] 45) H
theorem f101_r_d : Resp 1125899906842607 f101_r := rf
theorem f101_n0_d : Resp 1125899906842598 f101_n0 := rc f101_r_d kx0_d f101_r_d
theorem f101_n1_d : Resp 1125899906842598 f101_n1 := rc f101_r_d kx0_d f101_r_d
theorem f101_n17_d : Resp 1125899906842566 f101_n17 := rc (cd f101_n1_d) kx0_d f101_r_d
theorem f101_x18_d : ∀ i, Resp 1125899906842598 (f101_x18 i) := rb (cd f101_n1_d) kx0_d
theorem f101_n19_d : Resp 1125899906842566 f101_n19 := rl (cx f101_x18_d) f101_r_d
theorem f101_n20_d : Resp 1125899906842566 f101_n20 := rc (cd f101_n19_d) (cx f101_x18_d) f101_r_d
theorem f101_n21_d : Resp 1125899906842566 f101_n21 := rc (cd f101_n19_d) (cx f101_x18_d) f101_r_d
theorem f101_x23_d : ∀ i, Resp 1125899906842566 (f101_x23 i) := rb (cd f101_n21_d) (cx f101_x18_d)
theorem rMp_k1_eq (x0 x3 x4 : Value) (H : AH) : rMp_k1 x0 x3 x4 H =
 ld [.n, .f 0] x0 H fun v2 =>
 (pLdN 3 x3 H).bind fun v3 =>
 mkR 1 3 [(vi 0), (vi 0), (vi 0)] [(0, v3)] H fun v4 H5 =>
 (pApp 3 24 v2 v4 H5).bind fun r6 =>
 ad [.n, .f 1] x0 fun v7 =>
 (pLd1 v7 r6.2).bind fun v8 =>
 eqK (pLd1 v7 H5) (pLd1 v7 r6.2) <|
 mkR 1 1 [(vw 0)] [(0, (vw 0))] r6.2 fun v9 H10 =>
 (pApp 1 8 v8 v9 H10).bind fun r11 =>
 st 1 [.n, .f 0] x0 r6.1 r11.2 fun H12 =>
 st 1 [.n, .f 1] x0 r11.1 H12 fun H13 =>
 ld [.n, .f 0] x0 H13 fun v14 =>
 lenK v14 fun v15 =>
 (pBin .other .sub v15 (vi 1)).bind fun v16 =>
 some (v16, H13) :=
 (by kernel_rfl)
theorem rMp_k21_eq (x0 x3 x4 x5 : Value) (H : AH) : rMp_k21 x0 x3 x4 x5 H =
 (pBin .other .add x5 (vi 1)).bind fun v22 =>
 rMp_k19 x0 x3 x4 v22 H :=
 (by kernel_rfl)
theorem rMp_k20_eq (x0 x3 x4 x5 : Value) (H : AH) : rMp_k20 x0 x3 x4 x5 H =
 ld [.n, .f 0] x0 H fun v24 =>
 ldN 3 [.i 3 x5] v24 H fun v25 =>
 (pLdN 3 x3 H).bind fun v26 =>
 (pBin (.flat 3) .eql v25 v26).bind fun v27 =>
 condK v27
 (some (x5, H))
 (rMp_k21 x0 x3 x4 x5 H) :=
 (pt rfl 0 f101_n21_d (bt rfl (f101_b [1, 0, 1, 4, 5, 1, 0, 4]) 1 f101_x23_d (by kernel_rfl)))
theorem rMp_e18_0_eq (x0 x3 x4 : Value) (H : AH) : rMp_e18_0 x0 x3 x4 H = rMp_k1 x0 x3 x4 H :=
 (by kernel_rfl)
theorem rMp_k19_eq (x0 x3 x4 x5 : Value) (H : AH) : rMp_k19 x0 x3 x4 x5 H =
 ld [.n, .f 0] x0 H fun v28 =>
 lenK v28 fun v29 =>
 (pBin .other .lss x5 v29).bind fun v30 =>
 condK v30
 (rMp_k20 x0 x3 x4 x5 H)
 (rMp_e18_0 x0 x3 x4 H) :=
 lt' rfl f101_n19_d (pt rfl 0 f101_n20_d (by kernel_rfl))
theorem rMp_k17_eq (x0 x3 x4 x5 : Value) (H : AH) : rMp_k17 x0 x3 x4 x5 H =
 rMp_k19 x0 x3 x4 x5 H :=
 (bt rfl (f101_b [1, 0, 1, 4]) 0 f101_x18_d (li rfl (f101_b [1, 0, 1, 4, 5]) f101_n19_d (by kernel_rfl)))
theorem rMp_k0_eq (x0 x3 x4 : Value) (H : AH) : rMp_k0 x0 x3 x4 H =
 rMp_k17 x0 x3 x4 (vi 0) H :=
 (pt rfl 0 f101_n1_d (pt rfl 0 f101_n17_d (by kernel_rfl)))
noncomputable def rMp (x0 x1 : Value) (H : AH) : OV := cCode PP GG FF (f101_b []) (ls [x0, x1] 48) H f101_r kx0 f101_r
theorem rMp_of (x0 x1 : Value) (H : AH) {r : Value × AH} (h : (
 newK (Value.cells x1).toList H fun v31 H32 =>
 rMp_k0 x0 v31 (vi 0) H32) = some r) : FF n_rMp [x0, x1] H = some r :=
 fo (t := rMp x0 x1 H) Tryz.func101 (by kernel_rfl) (Eq.trans (pt rfl 0 f101_n0_d (by kernel_rfl)) h)
theorem r16_Mem_Log_of (x0 x1 x2 x3 : Value) (H : AH) {r : Value × AH} (h : (
 newK (Value.cells x3).toList H fun v0 H1 =>
 ld [.n, .f 2] x0 H1 fun v2 =>
 (pLdN 3 v0 H1).bind fun v3 =>
 mkS [(0, 1), (1, 1), (2, 3)] [(vi 0), (vi 0), (vi 0), (vi 0), (vi 0)] [(0, x1), (1, x2), (2, v3)] fun v4 =>
 mkR 1 5 [(vi 0), (vi 0), (vi 0), (vi 0), (vi 0)] [(0, v4)] H1 fun v5 H6 =>
 (pApp 5 40 v2 v5 H6).bind fun r7 =>
 st 1 [.n, .f 2] x0 r7.1 r7.2 fun H8 =>
 some (Value.tuple #[], H8)) = some r) : FF n_r16_Mem_Log [x0, x1, x2, x3] H = some r :=
 fo Tryz.func102 (by kernel_rfl) h
theorem model_within_of (x0 x1 x2 : Value) (H : AH) {r : Value × AH} (h : (
 (pBin .other .geq x0 x1).bind fun v0 =>
 (gV v0 true x0).bind fun v1 =>
 (gV v0 true x2).bind fun v2 =>
 (gB v0 true (pBin .other .leq v1 v2)).bind fun v3 =>
 (pPick v0 v3 (vb false)).bind fun v4 =>
 some (v4, H)) = some r) : FF n_model_within [x0, x1, x2] H = some r :=
 fo Tryz.func118 (by kernel_rfl) h
noncomputable def f120_b (p : List Nat) : Code := Code.sub (bodyOf Tryz.f120) p
noncomputable def f120_r : KK := cFin PP (Tryz.f120).results.toList
noncomputable def f120_n0 : KK := CQ (f120_b [1, 1, 1]) f120_r kx0 f120_r
noncomputable def queue_New_k0 (x1 x4 x5 x6 : Value) (H : AH) : OV := f120_n0 (ls [u, x1, u, u, x4, x5, x6] 23) H
noncomputable def f120_n1 : KK := CQ (f120_b [1, 1, 1, 1]) f120_r kx0 f120_r
noncomputable def f120_m1 : KK := clr 1073741743 f120_n1
noncomputable def queue_New_k1 (x4 x6 : Value) (H : AH) : OV := f120_n1 (ls [u, u, u, u, x4, u, x6] 23) H
noncomputable def f120_n2 : KK := CQ (f120_b [1, 1, 1, 0, 1]) f120_m1 kx0 f120_r
noncomputable def queue_New_k2 (x1 x4 x6 x14 x15 : Value) (H : AH) : OV := f120_n2 (ls [u, x1, u, u, x4, u, x6, u, u, u, u, u, u, u, x14, x15] 14) H
noncomputable def f120_x3 : KX := BX 0 f120_m1 kx0
noncomputable def f120_y3 : KX := clx 1073741743 f120_x3
noncomputable def f120_n4 : KK := CLq (f120_b [1, 1, 1, 0, 1, 4, 5]) f120_y3 f120_r
noncomputable def f120_m4 : KK := clr 1073692589 f120_n4
noncomputable def queue_New_k4 (x1 x4 x6 x14 x15 : Value) (H : AH) : OV := f120_n4 (ls [u, x1, u, u, x4, u, x6, u, u, u, u, u, u, u, x14, x15] 14) H
noncomputable def f120_n5 : KK := CQ (f120_b [1, 1, 1, 0, 1, 4, 5, 1, 1]) f120_m4 f120_y3 f120_r
noncomputable def queue_New_k5 (x1 x4 x6 x14 x15 : Value) (H : AH) : OV := f120_n5 (ls [u, x1, u, u, x4, u, x6, u, u, u, u, u, u, u, x14, x15] 14) H
noncomputable def f120_n6 : KK := CQ (f120_b [1, 1, 1, 0, 1, 4, 5, 1, 1, 1]) f120_m4 f120_y3 f120_r
noncomputable def f120_m6 : KK := clr 1073692589 f120_n6
noncomputable def queue_New_k6 (x1 x4 x6 x14 x15 : Value) (H : AH) : OV := f120_n6 (ls [u, x1, u, u, x4, u, x6, u, u, u, u, u, u, u, x14, x15] 14) H
noncomputable def f120_x8 : KX := BX 1 f120_m6 f120_y3
noncomputable def queue_New_e3_0 (x4 x6 : Value) (H : AH) : OV := f120_x3 0 (ls [u, u, u, u, x4, u, x6] 23) H
theorem f120_r_d : Resp 1073741807 f120_r := rf
theorem f120_n0_d : Resp 1073741709 f120_n0 := rc f120_r_d kx0_d f120_r_d
theorem f120_n1_d : Resp 1073741743 f120_n1 := rc f120_r_d kx0_d f120_r_d
theorem f120_n2_d : Resp 1073692589 f120_n2 := rc (cd f120_n1_d) kx0_d f120_r_d
theorem f120_x3_d : ∀ i, Resp 1073741743 (f120_x3 i) := rb (cd f120_n1_d) kx0_d
theorem f120_n4_d : Resp 1073692589 f120_n4 := rl (cx f120_x3_d) f120_r_d
theorem f120_n5_d : Resp 1073692589 f120_n5 := rc (cd f120_n4_d) (cx f120_x3_d) f120_r_d
theorem f120_n6_d : Resp 1073692589 f120_n6 := rc (cd f120_n4_d) (cx f120_x3_d) f120_r_d
theorem f120_x8_d : ∀ i, Resp 1073692589 (f120_x8 i) := rb (cd f120_n6_d) (cx f120_x3_d)
theorem queue_New_k1_eq (x4 x6 : Value) (H : AH) : queue_New_k1 x4 x6 H =
 some (x6, H) :=
 (by kernel_rfl)
theorem queue_New_k6_eq (x1 x4 x6 x14 x15 : Value) (H : AH) : queue_New_k6 x1 x4 x6 x14 x15 H =
 (pBin .other .add x15 (vi 1)).bind fun v7 =>
 queue_New_k4 x1 x4 x6 x14 v7 H :=
 (by kernel_rfl)
theorem queue_New_k5_eq (x1 x4 x6 x14 x15 : Value) (H : AH) : queue_New_k5 x1 x4 x6 x14 x15 H =
 ad [.n, .f 0] x6 fun v9 =>
 (pLd1 v9 H).bind fun v10 =>
 (FF n_shard_New [x1] H).bind fun r11 =>
 eqK (pLd1 v9 r11.2) (pLd1 v9 H) <|
 mkR 1 1 [(.pointer none)] [(0, r11.1)] r11.2 fun v12 H13 =>
 (pApp 1 8 v10 v12 H13).bind fun r14 =>
 st 1 [.n, .f 0] x6 r14.1 r14.2 fun H15 =>
 queue_New_k6 x1 x4 x6 x14 x15 H15 :=
 (pt rfl 0 f120_n6_d (bt rfl (f120_b [1, 1, 1, 0, 1, 4, 5, 1, 1, 0, 4]) 1 f120_x8_d (by kernel_rfl)))
theorem queue_New_e3_0_eq (x4 x6 : Value) (H : AH) : queue_New_e3_0 x4 x6 H = queue_New_k1 x4 x6 H :=
 (by kernel_rfl)
theorem queue_New_k4_eq (x1 x4 x6 x14 x15 : Value) (H : AH) : queue_New_k4 x1 x4 x6 x14 x15 H =
 (pBin .other .lss x15 x14).bind fun v16 =>
 condK v16
 (queue_New_k5 x1 x4 x6 x14 x15 H)
 (queue_New_e3_0 x4 x6 H) :=
 lt' rfl f120_n4_d (pt rfl 1 f120_n5_d (by kernel_rfl))
theorem queue_New_k2_eq (x1 x4 x6 x14 x15 : Value) (H : AH) : queue_New_k2 x1 x4 x6 x14 x15 H =
 queue_New_k4 x1 x4 x6 x14 x15 H :=
 (bt rfl (f120_b [1, 1, 1, 0, 1, 4]) 0 f120_x3_d (li rfl (f120_b [1, 1, 1, 0, 1, 4, 5]) f120_n4_d (by kernel_rfl)))
theorem queue_New_k0_eq (x1 x4 x5 x6 : Value) (H : AH) : queue_New_k0 x1 x4 x5 x6 H =
 queue_New_k2 x1 x4 x6 x5 (vi 0) H :=
 (pt rfl 0 f120_n1_d (pt rfl 0 f120_n2_d (by kernel_rfl)))
noncomputable def queue_New (x0 x1 : Value) (H : AH) : OV := cCode PP GG FF (f120_b []) (ls [x0, x1] 28) H f120_r kx0 f120_r
theorem queue_New_of (x0 x1 : Value) (H : AH) {r : Value × AH} (h : (
 (pMax [x0, (vi 1)]).bind fun v17 =>
 (pMin [v17, (vi 16)]).bind fun v18 =>
 (FF n_tour_New [v18] H).bind fun r19 =>
 mkS [(0, 1), (1, 1)] [(.slice none 0 0), (.pointer none)] [(1, r19.1)] fun v20 =>
 newK (Value.cells v20).toList r19.2 fun v21 H22 =>
 queue_New_k0 x1 (.pointer none) v18 v21 H22) = some r) : FF n_queue_New [x0, x1] H = some r :=
 fo (t := queue_New x0 x1 H) Tryz.func120 (by kernel_rfl) (Eq.trans (pt rfl 2 f120_n0_d (by kernel_rfl)) h)
noncomputable def f124_b (p : List Nat) : Code := Code.sub (bodyOf Tryz.f124) p
noncomputable def f124_r : KK := cFin PP (Tryz.f124).results.toList
noncomputable def f124_n0 : KK := CQ (f124_b [1, 1]) f124_r kx0 f124_r
noncomputable def rNQ_k0 (x0 x1 x4 x5 : Value) (H : AH) : OV := f124_n0 (ls [x0, x1, u, u, x4, x5] 24) H
noncomputable def f124_n1 : KK := CQ (f124_b [1, 1, 1]) f124_r kx0 f124_r
noncomputable def f124_m1 : KK := clr 1073741775 f124_n1
noncomputable def rNQ_k1 (x4 x5 : Value) (H : AH) : OV := f124_n1 (ls [u, u, u, u, x4, x5] 24) H
noncomputable def f124_n2 : KK := CQ (f124_b [1, 1, 0, 1]) f124_m1 kx0 f124_r
noncomputable def rNQ_k2 (x0 x1 x4 x5 x6 : Value) (H : AH) : OV := f124_n2 (ls [x0, x1, u, u, x4, x5, x6] 23) H
noncomputable def f124_x3 : KX := BX 0 f124_m1 kx0
noncomputable def f124_y3 : KX := clx 1073741775 f124_x3
noncomputable def f124_n4 : KK := CLq (f124_b [1, 1, 0, 1, 4, 5]) f124_y3 f124_r
noncomputable def f124_m4 : KK := clr 1073741708 f124_n4
noncomputable def rNQ_k4 (x0 x1 x4 x5 x6 : Value) (H : AH) : OV := f124_n4 (ls [x0, x1, u, u, x4, x5, x6] 23) H
noncomputable def f124_n5 : KK := CQ (f124_b [1, 1, 0, 1, 4, 5, 1]) f124_m4 f124_y3 f124_r
noncomputable def rNQ_k5 (x0 x1 x4 x5 x6 : Value) (H : AH) : OV := f124_n5 (ls [x0, x1, u, u, x4, x5, x6] 23) H
noncomputable def f124_n6 : KK := CQ (f124_b [1, 1, 0, 1, 4, 5, 1, 1]) f124_m4 f124_y3 f124_r
noncomputable def f124_m6 : KK := clr 1073741708 f124_n6
noncomputable def rNQ_k6 (x0 x1 x4 x5 x6 : Value) (H : AH) : OV := f124_n6 (ls [x0, x1, u, u, x4, x5, x6] 23) H
noncomputable def f124_x8 : KX := BX 1 f124_m6 f124_y3
noncomputable def rNQ_e3_0 (x4 x5 : Value) (H : AH) : OV := f124_x3 0 (ls [u, u, u, u, x4, x5] 24) H
theorem f124_r_d : Resp 1073741807 f124_r := rf
theorem f124_n0_d : Resp 1073741772 f124_n0 := rc f124_r_d kx0_d f124_r_d
theorem f124_n1_d : Resp 1073741775 f124_n1 := rc f124_r_d kx0_d f124_r_d
theorem f124_n2_d : Resp 1073741708 f124_n2 := rc (cd f124_n1_d) kx0_d f124_r_d
theorem f124_x3_d : ∀ i, Resp 1073741775 (f124_x3 i) := rb (cd f124_n1_d) kx0_d
theorem f124_n4_d : Resp 1073741708 f124_n4 := rl (cx f124_x3_d) f124_r_d
theorem f124_n5_d : Resp 1073741708 f124_n5 := rc (cd f124_n4_d) (cx f124_x3_d) f124_r_d
theorem f124_n6_d : Resp 1073741708 f124_n6 := rc (cd f124_n4_d) (cx f124_x3_d) f124_r_d
theorem f124_x8_d : ∀ i, Resp 1073741708 (f124_x8 i) := rb (cd f124_n6_d) (cx f124_x3_d)
theorem rNQ_k1_eq (x4 x5 : Value) (H : AH) : rNQ_k1 x4 x5 H =
 some (x5, H) :=
 (by kernel_rfl)
theorem rNQ_k6_eq (x0 x1 x4 x5 x6 : Value) (H : AH) : rNQ_k6 x0 x1 x4 x5 x6 H =
 (pBin .other .add x6 (vi 1)).bind fun v7 =>
 rNQ_k4 x0 x1 x4 x5 v7 H :=
 (by kernel_rfl)
theorem rNQ_k5_eq (x0 x1 x4 x5 x6 : Value) (H : AH) : rNQ_k5 x0 x1 x4 x5 x6 H =
 ad [.n, .f 0] x5 fun v9 =>
 (pLd1 v9 H).bind fun v10 =>
 (FF n_r01_Width [x1] H).bind fun r11 =>
 eqK (pLd1 v9 r11.2) (pLd1 v9 H) <|
 mkS [(0, 1), (1, 1), (2, 1), (3, 1)] [(.slice none 0 0), (vw 0), (vi 0), (vb false)] [(2, r11.1), (3, (vb true))] fun v12 =>
 newK (Value.cells v12).toList r11.2 fun v13 H14 =>
 mkR 1 1 [(.pointer none)] [(0, v13)] H14 fun v15 H16 =>
 (pApp 1 8 v10 v15 H16).bind fun r17 =>
 st 1 [.n, .f 0] x5 r17.1 r17.2 fun H18 =>
 rNQ_k6 x0 x1 x4 x5 x6 H18 :=
 (pt rfl 0 f124_n6_d (bt rfl (f124_b [1, 1, 0, 1, 4, 5, 1, 0, 4]) 1 f124_x8_d (by kernel_rfl)))
theorem rNQ_e3_0_eq (x4 x5 : Value) (H : AH) : rNQ_e3_0 x4 x5 H = rNQ_k1 x4 x5 H :=
 (by kernel_rfl)
theorem rNQ_k4_eq (x0 x1 x4 x5 x6 : Value) (H : AH) : rNQ_k4 x0 x1 x4 x5 x6 H =
 (pMax [x0, (vi 1)]).bind fun v19 =>
 (pMin [v19, (vi 16)]).bind fun v20 =>
 (pBin .other .lss x6 v20).bind fun v21 =>
 condK v21
 (rNQ_k5 x0 x1 x4 x5 x6 H)
 (rNQ_e3_0 x4 x5 H) :=
 lt' rfl f124_n4_d (pt rfl 0 f124_n5_d (by kernel_rfl))
theorem rNQ_k2_eq (x0 x1 x4 x5 x6 : Value) (H : AH) : rNQ_k2 x0 x1 x4 x5 x6 H =
 rNQ_k4 x0 x1 x4 x5 x6 H :=
 (bt rfl (f124_b [1, 1, 0, 1, 4]) 0 f124_x3_d (li rfl (f124_b [1, 1, 0, 1, 4, 5]) f124_n4_d (by kernel_rfl)))
theorem rNQ_k0_eq (x0 x1 x4 x5 : Value) (H : AH) : rNQ_k0 x0 x1 x4 x5 H =
 rNQ_k2 x0 x1 x4 x5 (vi 0) H :=
 (pt rfl 0 f124_n1_d (pt rfl 0 f124_n2_d (by kernel_rfl)))
noncomputable def rNQ (x0 x1 : Value) (H : AH) : OV := cCode PP GG FF (f124_b []) (ls [x0, x1] 28) H f124_r kx0 f124_r
theorem rNQ_of (x0 x1 : Value) (H : AH) {r : Value × AH} (h : (
 mkS [(0, 1)] [(.slice none 0 0)] [] fun v22 =>
 newK (Value.cells v22).toList H fun v23 H24 =>
 rNQ_k0 x0 x1 (.pointer none) v23 H24) = some r) : FF n_rNQ [x0, x1] H = some r :=
 fo (t := rNQ x0 x1 H) Tryz.func124 (by kernel_rfl) (Eq.trans (pt rfl 1 f124_n0_d (by kernel_rfl)) h)
theorem mem_Mem_Write_of (x0 x1 x2 : Value) (H : AH) {r : Value × AH} (h : (
 newK (Value.cells x2).toList H fun v0 H1 =>
 (pLdN 3 v0 H1).bind fun v2 =>
 (FF n_mem_Mem_note [x0, x1, (vi 6), v2] H1).bind fun r3 =>
 some (Value.tuple #[], r3.2)) = some r) : FF n_mem_Mem_Write [x0, x1, x2] H = some r :=
 fo Tryz.func125 (by kernel_rfl) h
theorem ring_New_of (x0 x1 x2 : Value) (H : AH) {r : Value × AH} (h : (
 (pMax [x2, (vi 1)]).bind fun v0 =>
 (pMin [v0, (vi 8)]).bind fun v1 =>
 (pMake [(vi 0), (vi 0), (vi 0)] 3 24 v1 v1 H).bind fun r2 =>
 mkS [(0, 1), (1, 1), (2, 1)] [(.pointer none), (vi 0), (.slice none 0 0)] [(0, x0), (1, x1), (2, r2.1)] fun v3 =>
 newK (Value.cells v3).toList r2.2 fun v4 H5 =>
 some (v4, H5)) = some r) : FF n_ring_New [x0, x1, x2] H = some r :=
 fo Tryz.func126 (by kernel_rfl) h
theorem r16_NewRing_of (x0 x1 x2 : Value) (H : AH) {r : Value × AH} (h : (
 (pMax [x2, (vi 1)]).bind fun v0 =>
 (pMin [v0, (vi 8)]).bind fun v1 =>
 (pMake [(vi 0), (vi 0), (vi 0)] 3 24 v1 v1 H).bind fun r2 =>
 mkS [(0, 1), (1, 1), (2, 1), (3, 1)] [(.pointer none), (vi 0), (vi 0), (.slice none 0 0)] [(0, x0), (1, x1), (2, v1), (3, r2.1)] fun v3 =>
 newK (Value.cells v3).toList r2.2 fun v4 H5 =>
 some (v4, H5)) = some r) : FF n_r16_NewRing [x0, x1, x2] H = some r :=
 fo Tryz.func127 (by kernel_rfl) h
theorem mem_Mem_Store_of (x0 x1 x2 x3 : Value) (H : AH) {r : Value × AH} (h : (
 newK (Value.cells x2).toList H fun v0 H1 =>
 (pLdN 3 v0 H1).bind fun v2 =>
 (FF n_mem_Mem_note [x0, x1, (vi 2), v2] H1).bind fun r3 =>
 ld [.n, .f 0] x0 r3.2 fun v4 =>
 (pLdN 3 v0 r3.2).bind fun v5 =>
 mkS [(0, 1)] [(vw 0)] [(0, x3)] fun v6 =>
 (pUpdate (.flat 3) v4 v5 v6 r3.2).bind fun H7 =>
 some (Value.tuple #[], H7)) = some r) : FF n_mem_Mem_Store [x0, x1, x2, x3] H = some r :=
 fo Tryz.func128 (by kernel_rfl) h
theorem table_slot_of (x0 x1 : Value) (H : AH) {r : Value × AH} (h : (
 newK [(vi 0), (vi 0), (vi 0)] H fun v0 H1 =>
 mkS [(0, 1), (1, 1), (2, 1)] [(vi 0), (vi 0), (vi 0)] [(0, (vi 10)), (1, x0), (2, x1)] fun v2 =>
 (pSt 3 v0 v2 H1).bind fun H3 =>
 (pLdN 3 v0 H3).bind fun v4 => some (v4, H3)) = some r) : FF n_table_slot [x0, x1] H = some r :=
 fo Tryz.func129 (by kernel_rfl) h
theorem r16_Mem_Store_of (x0 x1 x2 x3 : Value) (H : AH) {r : Value × AH} (h : (
 newK (Value.cells x2).toList H fun v0 H1 =>
 (pLdN 3 v0 H1).bind fun v2 =>
 (FF n_r16_Mem_Log [x0, x1, (vi 2), v2] H1).bind fun r3 =>
 (pLdN 3 v0 r3.2).bind fun v4 =>
 (FF n_rMp [x0, v4] r3.2).bind fun r5 =>
 ld [.n, .f 1] x0 r5.2 fun v6 =>
 st 1 [.i 1 r5.1] v6 x3 r5.2 fun H7 =>
 some (Value.tuple #[], H7)) = some r) : FF n_r16_Mem_Store [x0, x1, x2, x3] H = some r :=
 fo Tryz.func130 (by kernel_rfl) h
theorem eE_note_of (x0 x1 x2 : Value) (H : AH) {r : Value × AH} (h : (
 ld [.n, .f 0] x0 H fun v0 =>
 ld [.n, .f 1] x0 H fun v1 =>
 mkS [(0, 1), (1, 1), (2, 1), (3, 1)] [(vi 0), (.slice none 0 0), (vi 0), (vw 0)] [(0, x2)] fun v2 =>
 (FF n_parts_Parts_Note [v0, x1, v1, v2] H).bind fun r3 =>
 some (Value.tuple #[], r3.2)) = some r) : FF n_eE_note [x0, x1, x2] H = some r :=
 fo Tryz.func131 (by kernel_rfl) h
theorem eE_ends_of (x0 x1 : Value) (H : AH) {r : Value × AH} (h : (
 newK [(vi 0), (.slice none 0 0), (vi 0), (vw 0)] H fun v0 H1 =>
 mkS [(0, 1), (1, 1), (2, 1), (3, 1)] [(vi 0), (.slice none 0 0), (vi 0), (vw 0)] [(0, x1)] fun v2 =>
 (pSt 4 v0 v2 H1).bind fun H3 =>
 (pLdN 4 v0 H3).bind fun v4 => some (Value.tuple #[v4, (vb true)], H3)) = some r) : FF n_eE_ends [x0, x1] H = some r :=
 fo Tryz.func132 (by kernel_rfl) h
end Go.Proofs.YtodpbobjmkhcfaaGreatDoor.Gst
