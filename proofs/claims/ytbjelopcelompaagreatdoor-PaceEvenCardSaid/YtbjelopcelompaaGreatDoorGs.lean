/- A region whose order is drawn: each operation keeps what holds; at the end the text's way has been gone. -/
import Derived.Test.YtbjelopcelompaaGreatDoorGr
namespace Go.Proofs.YtbjelopcelompaaGreatDoor.Gst
open Go Go.RowKit
set_option linter.unusedSimpArgs false
section
variable {P : Program} {w0 : World} {B : Nat} {ρ : Ren} {w : World} {G : List Nat} {call : CallF} {ops : Array Oper} {T : Tra P G call ops} {ρ0 : Ren} {wS : World} {L : Nat → Bool} {a : Act} {t : Nat}

abbrev lset (L : Nat → Bool) (j : Nat) : Nat → Bool := fun i => if i = j then true else L i
theorem lset_ne {i j : Nat} (h : i ≠ j) : lset L j i = L i := by simp [lset, h]
theorem lset_of {i j : Nat} (h : L i = true) : lset L j i = true := by simp only [lset]; split <;> first | rfl | exact h
theorem lset_false {i j : Nat} (h : lset L j i = false) : i ≠ j ∧ L i = false := by
  simp only [lset] at h
  split at h
  · cases h
  · exact ⟨by assumption, h⟩

theorem Inv.same (I : Inv T w0 B ρ0 wS L a w ρ t) {j : Nat} {o : Oper} (N : Next T L j o) (hk : opK o.op ≠ 3) {v' : Value} (hv : VRel P ρ (T.val j) v') : Inv T w0 B ρ0 wS (lset L j) (a.put o.dst v') w ρ t where
  closed := I.closed' N
  act := by rw [I.set N]; exact put_rel I.act o.dst hv
  rel := I.rel
  ext := I.ext
  ht := I.ht
  ht1 := I.ht1
  hE := fun i oi hi h3 => by
    have : i ≠ j := fun e => by subst e; rw [N.ho] at hi; cases hi; exact hk h3
    rw [lset_ne this]; exact I.hE i oi hi h3
  full := I.full
  blk := I.blk
  pend := fun b x hx hb => by
    obtain ⟨i, oi, c, c', sz, h1, h2, h3, h4⟩ := I.pend b x hx hb
    exact ⟨i, oi, c, c', sz, h1, h2, lset_of h3, h4⟩
  alone := I.alone
  later := fun i oi c hi h1 hp hL => I.later i oi c hi h1 hp (lset_false hL).2

theorem not3 (I : Inv T w0 B ρ0 wS L a w ρ t) {j : Nat} {o : Oper} (N : Next T L j o) (hk : opK o.op = 3) : t ≤ j ∧ ∀ i oi, ops[i]? = some oi → t ≤ i → i < j → opK oi.op ≠ 3 := by
  refine ⟨?_, fun i oi hi hti hij h3 => ?_⟩
  · rcases Nat.lt_or_ge j t with h | h
    · have := (I.hE j o N.ho hk).2 h
      rw [N.hj] at this; cases this
    · exact h
  · rcases T.pair i j oi o hij hi N.ho with h | ⟨_, h⟩
    · have := fb_closed I.closed j o N.ho N.ready i h
      have := (I.hE i oi hi h3).1 this
      omega
    · exact h ⟨h3, hk⟩

theorem Inv.alloc (W : Way T w0 B ρ0 wS) (I : Inv T w0 B ρ0 wS L a w ρ t) {j : Nat} {o : Oper} (N : Next T L j o) (hk : opK o.op = 1) {c : AObj} (hc : c.rw = true) (hp : (T.s (j + 1)).2 = (T.s j).2.push c) {ob : Obj} {sz : Nat} {v' : Value}
    (hO : ORel P (ρ.below (T.s j).2.size) 0 sz c (some ob)) (hv : ∀ ρ' : Ren, ρ' (T.s j).2.size = some (w.heap.size, 0, sz) → VRel P ρ' (T.val j) v') :
    Inv T w0 B ρ0 wS (lset L j) (a.put o.dst v') (w.alloc ob) (ρ.upd (T.s j).2.size (w.heap.size, 0, sz)) t := by
  have hjn := (Array.getElem?_eq_some_iff.1 N.ho).1
  obtain ⟨hnone, hbefore⟩ := I.later j o c N.ho hk hp N.hj
  have hle := Ren.upd_le (x := (w.heap.size, 0, sz)) hnone
  have hltn := size_lt W (show j < ops.size from hjn) (Nat.le_refl _) hp
  have bmono : ∀ {b i x}, ρ.below b i = some x → (ρ.upd (T.s j).2.size (w.heap.size, 0, sz)).below b i = some x := by
    intro b i x hx
    obtain ⟨h1, h2⟩ := Ren.below_some hx
    rw [Ren.below_lt h1]; exact hle _ _ h2
  have hrel : Rel P w0 B ((ρ.upd (T.s j).2.size (w.heap.size, 0, sz)).below (T.s t).2.size) (T.s t).2 (w.alloc ob) ∧ Ext ρ0 (T.s 0).2 wS ((ρ.upd (T.s j).2.size (w.heap.size, 0, sz)).below (T.s t).2.size) (T.s t).2 (w.alloc ob) := by
    rcases Nat.lt_or_ge j t with hjt | hjt
    · have hlt := size_lt W hjt I.ht hp
      have e : (ρ.upd (T.s j).2.size (w.heap.size, 0, sz)).below (T.s t).2.size = (ρ.below (T.s t).2.size).upd (T.s j).2.size (w.heap.size, 0, sz) := by
        funext b
        unfold Ren.below Ren.upd
        by_cases e : b = (T.s j).2.size
        · subst e; simp [hlt]
        · simp [e]
      have hnb : ρ.below (T.s t).2.size (T.s j).2.size = none := by rw [Ren.below_lt hlt]; exact hnone
      rw [e]
      refine ⟨I.rel.fill hnb hc (hO.mono (below_mono (Nat.le_of_lt hlt))) hlt ?_ (fun b x hx => ⟨I.rel.dom b x hx, rfl⟩), ?_⟩
      · rw [hbefore hjt, hp, AH.get_push_new]
      · exact (I.ext.allocW ob).updN hnb (size_mono W (Nat.zero_le _) (by omega)) hlt I.ext.wsize
    · have hge := size_mono W hjt (by omega)
      have e : (ρ.upd (T.s j).2.size (w.heap.size, 0, sz)).below (T.s t).2.size = ρ.below (T.s t).2.size := by
        funext b
        unfold Ren.below Ren.upd
        by_cases e : b < (T.s t).2.size
        · rw [if_pos e, if_pos e, if_neg (by omega)]
        · rw [if_neg e, if_neg e]
      rw [e]
      exact ⟨I.rel.allocW ob, I.ext.allocW ob⟩
  refine ⟨I.closed' N, ?_, hrel.1, hrel.2, I.ht, I.ht1, ?_, ?_, ?_, ?_, ?_, ?_⟩
  · rw [I.set N]; exact put_rel (I.act.mono hle) o.dst (hv _ (Ren.upd_same ..))
  · intro i oi hi h3
    have : i ≠ j := fun e => by subst e; rw [N.ho] at hi; cases hi; omega
    rw [lset_ne this]; exact I.hE i oi hi h3
  · intro b x hx
    rcases upd_cases hx with ⟨rfl, _⟩ | ⟨_, hx⟩
    · exact hltn
    · exact I.full b x hx
  · intro b c1 d sz1 hx
    rw [World.size_alloc]
    rcases upd_cases hx with ⟨rfl, e⟩ | ⟨_, hx⟩
    · cases e; omega
    · have := I.blk b c1 d sz1 hx; omega
  · intro b x hx hb
    rcases upd_cases hx with ⟨rfl, rfl⟩ | ⟨_, hx⟩
    · refine ⟨j, o, c, w.heap.size, sz, N.ho, ?_, by simp [lset], rfl, hp, rfl, hc, I.ext.wsize, ?_⟩
      · rcases Nat.lt_or_ge j t with hjt | hjt
        · have := size_lt W hjt I.ht hp; omega
        · exact hjt
      · rw [heap_alloc_new w ob]; exact hO.mono (fun _ _ h => bmono h)
    · obtain ⟨i, oi, c1, c', sz1, h1, h2, h3, h4, h5, h6, h7, h8, h9⟩ := I.pend b x hx hb
      subst h6
      refine ⟨i, oi, c1, c', sz1, h1, h2, lset_of h3, h4, h5, rfl, h7, h8, ?_⟩
      rw [Below.heap_alloc w ob c' (I.blk _ _ _ _ hx)]
      exact h9.mono (fun _ _ h => bmono h)
  · intro b b' c1 d sz1 d' sz' hx hx' hb
    rcases upd_cases hx with ⟨e1, e⟩ | ⟨_, hx⟩ <;> rcases upd_cases hx' with ⟨e2, e'⟩ | ⟨_, hx'⟩
    · rw [e1, e2]
    · cases e; have := I.blk _ _ _ _ hx'; omega
    · cases e'; have := I.blk _ _ _ _ hx; omega
    · exact I.alone _ _ _ _ _ _ _ hx hx' hb
  · intro i oi c1 hi h1 hpi hL
    obtain ⟨hne, hL⟩ := lset_false hL
    obtain ⟨h2, h3⟩ := I.later i oi c1 hi h1 hpi hL
    refine ⟨?_, h3⟩
    have hin := (Array.getElem?_eq_some_iff.1 hi).1
    rw [Ren.upd_ne (fun e => ?_)]
    · exact h2
    · rcases Nat.lt_or_gt_of_ne hne with h | h
      · have := size_lt W h (by omega) hpi; omega
      · have := size_lt W h (by omega) hp; omega

theorem Inv.effect (W : Way T w0 B ρ0 wS) (I : Inv T w0 B ρ0 wS L a w ρ t) {j : Nat} {o : Oper} (N : Next T L j o) (hk : opK o.op = 3) {v' : Value} {w' : World} {ρ1 : Ren} (hv : VRel P ρ1 (T.val j) v')
    (hE : Ext (ρ.below (T.s j).2.size) (T.s j).2 w ρ1 (T.s (j + 1)).2 w') (hR : Rel P w0 B ρ1 (T.s (j + 1)).2 w') :
    ∃ ρ2, Inv T w0 B ρ0 wS (lset L j) (a.put o.dst v') w' ρ2 (j + 1) := by
  have hjn := (Array.getElem?_eq_some_iff.1 N.ho).1
  obtain ⟨htj, hno⟩ := not3 I N hk
  obtain ⟨hRj, hXj⟩ := I.derive W j htj (by omega) hno
  have hm : (T.s j).2.size ≤ (T.s (j + 1)).2.size := size_step W hjn
  have hmt : (T.s t).2.size ≤ (T.s j).2.size := size_mono W htj (by omega)
  -- no block of the region's own lies in the gap
  have pos : ∀ {b x}, ρ b = some x → (T.s j).2.size ≤ b → (T.s (j + 1)).2.size ≤ b ∧ ∃ i oi c c' sz, ops[i]? = some oi ∧ j + 1 ≤ i ∧ L i = true ∧ b = (T.s i).2.size ∧ (T.s (i + 1)).2 = (T.s i).2.push c ∧ x = (c', 0, sz) ∧ c.rw = true ∧ wS.heap.size ≤ c' ∧ ORel P (ρ.below b) 0 sz c w.heap[c']? := by
    intro b x hx hb
    obtain ⟨i, oi, c, c', sz, h1, h2, h3, h4, h5, h6⟩ := I.pend b x hx (by omega)
    have hin := (Array.getElem?_eq_some_iff.1 h1).1
    have hij : j + 1 ≤ i := by
      rcases Nat.lt_trichotomy i j with h | h | h
      · have := size_lt W h (by omega) h5; omega
      · subst h; rw [N.hj] at h3; cases h3
      · omega
    exact ⟨by have := size_mono W hij (by omega); omega, i, oi, c, c', sz, h1, hij, h3, h4, h5, h6⟩
  have hle : ∀ b x, ρ b = some x → (fun b => if b < (T.s (j + 1)).2.size then ρ1 b else ρ b) b = some x := by
    intro b x hx
    by_cases hb : b < (T.s (j + 1)).2.size
    · simp only [hb, if_true]
      by_cases hbj : b < (T.s j).2.size
      · exact hE.le b x (by rw [Ren.below_lt hbj]; exact hx)
      · have := (pos hx (by omega)).1; omega
    · simp only [hb, if_false]; exact hx
  have hle1 : ∀ b x, ρ1 b = some x → (fun b => if b < (T.s (j + 1)).2.size then ρ1 b else ρ b) b = some x := by
    intro b x hx
    have := hR.dom b x hx
    simp only [this, if_true]; exact hx
  have cases' : ∀ {b x}, (fun b => if b < (T.s (j + 1)).2.size then ρ1 b else ρ b) b = some x → (b < (T.s (j + 1)).2.size ∧ ρ1 b = some x) ∨ ((T.s (j + 1)).2.size ≤ b ∧ ρ b = some x) := by
    intro b x hx
    by_cases hb : b < (T.s (j + 1)).2.size
    · simp only [hb, if_true] at hx; exact .inl ⟨hb, hx⟩
    · simp only [hb, if_false] at hx; exact .inr ⟨by omega, hx⟩
  have e2 : Ren.below (fun b => if b < (T.s (j + 1)).2.size then ρ1 b else ρ b) (T.s (j + 1)).2.size = ρ1 := by
    funext b
    simp only [Ren.below]
    by_cases hb : b < (T.s (j + 1)).2.size
    · simp only [hb, if_true]
    · simp only [hb, if_false]
      cases h : ρ1 b with
      | none => rfl
      | some x => exact absurd (hR.dom b x h) hb
  refine ⟨fun b => if b < (T.s (j + 1)).2.size then ρ1 b else ρ b, I.closed' N, ?_, by rw [e2]; exact hR, by rw [e2]; exact hXj.trans W.rel hE, by omega, .inr ⟨o, by simpa using N.ho, hk⟩, ?_, ?_, ?_, ?_, ?_, ?_⟩
  · rw [I.set N]; exact put_rel (I.act.mono hle) o.dst (hv.mono hle1)
  · intro i oi hi h3
    by_cases e : i = j
    · subst e; simp [lset]
    · rw [lset_ne e, I.hE i oi hi h3]
      constructor
      · intro h; omega
      · intro h
        rcases Nat.lt_or_ge i t with h4 | h4
        · exact h4
        · exact absurd h3 (hno i oi hi h4 (by omega))
  · intro b x hx
    rcases cases' hx with ⟨hb, _⟩ | ⟨_, hx⟩
    · exact Nat.lt_of_lt_of_le hb (size_mono W (by omega) (Nat.le_refl _))
    · exact I.full b x hx
  · intro b c d sz hx
    rcases cases' hx with ⟨_, hx⟩ | ⟨_, hx⟩
    · exact hR.blk b c d sz hx
    · have := I.blk b c d sz hx; have := hE.wsize; omega
  · intro b x hx hb
    rcases cases' hx with ⟨hb', _⟩ | ⟨_, hx⟩
    · omega
    · obtain ⟨_, i, oi, c, c', sz, h1, h2, h3, h4, h5, h6, h7, h8, h9⟩ := pos hx (by omega)
      subst h6
      refine ⟨i, oi, c, c', sz, h1, h2, lset_of h3, h4, h5, rfl, h7, h8, ?_⟩
      rw [hE.keepC c' (I.blk _ _ _ _ hx) (fun b1 d sz1 o1 hx1 _ => ?_)]
      · refine h9.mono (fun b1 x1 hx1 => ?_)
        obtain ⟨h10, h11⟩ := Ren.below_some hx1
        rw [Ren.below_lt h10]; exact hle _ _ h11
      · obtain ⟨h10, h11⟩ := Ren.below_some hx1
        have := I.alone _ _ _ _ _ _ _ hx h11 (by omega)
        omega
  · intro b b' c d sz d' sz' hx hx' hb
    rcases cases' hx with ⟨hb', _⟩ | ⟨_, hx⟩
    · omega
    · rcases cases' hx' with ⟨hb', hx'⟩ | ⟨_, hx'⟩
      · exfalso
        cases hρ : ρ.below (T.s j).2.size b' with
        | some y =>
          have := hE.le b' y hρ
          rw [hx'] at this
          cases this
          obtain ⟨h10, h11⟩ := Ren.below_some hρ
          have := I.alone _ _ _ _ _ _ _ hx h11 (by omega)
          omega
        | none =>
          rcases hE.newC b' c d' sz' hx' hρ with h | ⟨b0, d0, sz0, o0, h, _, _⟩
          · have := I.blk _ _ _ _ hx; omega
          · obtain ⟨h10, h11⟩ := Ren.below_some h
            have := I.alone _ _ _ _ _ _ _ hx h11 (by omega)
            omega
      · exact I.alone _ _ _ _ _ _ _ hx hx' (by omega)
  · intro i oi c hi h1 hp hL
    obtain ⟨hne, hL⟩ := lset_false hL
    obtain ⟨h2, h3⟩ := I.later i oi c hi h1 hp hL
    have hin := (Array.getElem?_eq_some_iff.1 hi).1
    refine ⟨?_, fun hij => ?_⟩
    · by_cases hb : (T.s i).2.size < (T.s (j + 1)).2.size
      · rw [if_pos hb]
        cases h4 : ρ1 (T.s i).2.size with
        | none => rfl
        | some y =>
          have h5 : ρ.below (T.s j).2.size (T.s i).2.size = none := by unfold Ren.below; rw [h2]; split <;> rfl
          have h6 := (hE.fresh _ y h4 h5).1
          rcases Nat.lt_or_gt_of_ne hne with h | h
          · have := size_lt W h (by omega) hp; omega
          · have := size_mono W (show j + 1 ≤ i from h) (by omega); omega
      · rw [if_neg hb]; exact h2
    · have hlt : i < j := by omega
      have hsz := size_lt W hlt (by omega) hp
      have h5 : ρ.below (T.s j).2.size (T.s i).2.size = none := by unfold Ren.below; rw [h2]; split <;> rfl
      rw [hE.keepA _ hsz h5]
      rcases Nat.lt_or_ge i t with h4 | h4
      · rw [push_get W htj (by omega) hno (size_lt W h4 I.ht hp), h3 h4]
      · exact push_get W (show i + 1 ≤ j from hlt) (by omega) (fun k ok hk h6 h7 => hno k ok hk (by omega) h7) (by rw [hp, AH.size_push]; omega)

/-- Where the reading of the text's place can be done. -/
theorem Inv.readAt (I : Inv T w0 B ρ0 wS L a w ρ t) {j : Nat} {o : Oper} (N : Next T L j o) (hk : opK o.op = 2) :
    ∃ k, t ≤ k ∧ k ≤ ops.size ∧ (∀ i oi, ops[i]? = some oi → t ≤ i → i < k → opK oi.op ≠ 3) ∧ aRd P (aEv (T.s j).1) o.op (T.s k).2 = aRd P (aEv (T.s j).1) o.op (T.s j).2 := by
  have hjn := (Array.getElem?_eq_some_iff.1 N.ho).1
  rcases Nat.lt_or_ge j t with hjt | hjt
  · rcases I.ht1 with h0 | ⟨oe, he, h3⟩
    · omega
    · have hL : L (t - 1) = true := (I.hE (t - 1) oe he h3).2 (by omega)
      have hne : j ≠ t - 1 := fun e => by rw [e] at N; have := N.ho; rw [he] at this; cases this; omega
      have hf1 : fb (masksOf ops.toList) (t - 1) j = false := by
        cases h : fb (masksOf ops.toList) (t - 1) j with
        | false => rfl
        | true => have := fb_lt T N.ho h; omega
      have hf2 : fb (masksOf ops.toList) j (t - 1) = false := by
        cases h : fb (masksOf ops.toList) j (t - 1) with
        | false => rfl
        | true =>
          have := fb_closed I.closed (t - 1) oe he (I.closed _ _ he hL) j h
          rw [N.hj] at this; cases this
      have h := T.look j (t - 1) o oe N.ho he hk h3 hf1 hf2
      rw [if_neg (by omega), show t - 1 + 1 = t from by omega] at h
      exact ⟨t, Nat.le_refl _, I.ht, fun i oi hi h1 h2 => absurd h1 (by omega), h⟩
  · -- the first that does more than look, between here and there
    have key : ∀ n, t + n ≤ j → (∀ i oi, ops[i]? = some oi → t ≤ i → i < t + n → opK oi.op ≠ 3) ∨
        ∃ e oe, t ≤ e ∧ e < j ∧ ops[e]? = some oe ∧ opK oe.op = 3 ∧ ∀ i oi, ops[i]? = some oi → t ≤ i → i < e → opK oi.op ≠ 3 := by
      intro n
      induction n with
      | zero => intro _; exact .inl (fun i oi hi h1 h2 => absurd h1 (by omega))
      | succ n ih =>
        intro hn
        rcases ih (by omega) with h | h
        · have ho : ops[t + n]? = some ops[t + n] := by simp [show t + n < ops.size from by omega]
          by_cases h3 : opK (ops[t + n]).op = 3
          · exact .inr ⟨t + n, _, by omega, by omega, ho, h3, h⟩
          · refine .inl (fun i oi hi h1 h2 => ?_)
            by_cases e : i = t + n
            · subst e; rw [ho] at hi; cases hi; exact h3
            · exact h i oi hi h1 (by omega)
        · exact .inr h
    rcases key (j - t) (by omega) with h | ⟨e, oe, h1, h2, he, h3, h4⟩
    · exact ⟨j, hjt, by omega, fun i oi hi h1 h2 => h i oi hi h1 (by omega), rfl⟩
    · have hLe : L e = false := by
        cases h : L e with
        | false => rfl
        | true => have := (I.hE e oe he h3).1 h; omega
      have hf1 : fb (masksOf ops.toList) e j = false := by
        cases h : fb (masksOf ops.toList) e j with
        | false => rfl
        | true => have := fb_closed I.closed j o N.ho N.ready e h; rw [hLe] at this; cases this
      have hf2 : fb (masksOf ops.toList) j e = false := by
        cases h : fb (masksOf ops.toList) j e with
        | false => rfl
        | true => have := fb_lt T he h; omega
      have h := T.look j e o oe N.ho he hk h3 hf1 hf2
      rw [if_pos h2] at h
      exact ⟨e, h1, by omega, h4, h⟩

theorem aOp_noSelect {ev : Operand → Value} {o : Oper} {H : AH} {r : Value × AH} (h : aOp P call ev o H = some r) : ∀ cs b, o.op ≠ .select cs b := by
  intro cs b e
  obtain ⟨dst, op, type, pos, after, guard⟩ := o
  simp only at e
  subst e
  simp [aOp] at h

/-- **One more operation.** -/
theorem Inv.step (W : Way T w0 B ρ0 wS) (I : Inv T w0 B ρ0 wS L a w ρ t) {j : Nat} {o : Oper} (N : Next T L j o) {K : Act → World → Prop} {Q : Exit → Act → World → Prop}
    (hK : ∀ a' w' ρ' t', Inv T w0 B ρ0 wS (lset L j) a' w' ρ' t' → K a' w') : wpOp P ops Q j K a w := by
  have hjn := (Array.getElem?_eq_some_iff.1 N.ho).1
  unfold wpOp
  rw [N.ho]
  simp only
  rw [I.wanted N]
  obtain ⟨hok, hs, ⟨hw, h⟩ | ⟨hw, hv, hH⟩⟩ := T.step j o N.ho
  · rw [if_pos hw]
    refine .inl ?_
    rcases opK_cases o.op with h0 | h1 | h2 | h3
    · have h' : aOp P call (aEv (AD T L ops.size)) o (pad (T.s ops.size).2.size (T.s t).2) = some (T.val j, pad (T.s ops.size).2.size (T.s t).2) := by
        rw [aOp_congr (fun x hx => I.evs N hx)]; exact (aOp_pure h0 h).2 _
      have hp : Rel P w0 B ρ (pad (T.s ops.size).2.size (T.s t).2) w := I.rel.pad (size_mono W I.ht (Nat.le_refl _)) I.full I.blk
      have hG : GlobRel ρ G := (I.glob W (size_mono W (Nat.zero_le t) I.ht)).mono below_le
      obtain ⟨v', hr, hv⟩ := pure_out I.act hG hp hok (.inl h0) h'
      refine OpOut.wp (R := fun v w' => v = v' ∧ w' = w) (by unfold OpOut; rw [hr]; exact ⟨rfl, rfl⟩) ?_
      rintro v w' ⟨rfl, rfl⟩
      exact hK _ _ _ _ (I.same N (by omega) hv)
    · have h' : aOp P call (aEv (maskA (seesT o.op) (AD T L ops.size))) o (T.s j).2 = some (T.val j, (T.s (j + 1)).2) := by
        rw [aOp_congr (fun x hx => (mask_ev hx).trans (I.evs N hx))]; exact h
      obtain ⟨c, hc, hp, hall⟩ := alloc_spec (I.masked W N) (I.glob W (size_mono W (Nat.zero_le j) (by omega))) hok h1 h'
      obtain ⟨ob, sz, v', hr, hO, hv⟩ := hall w
      rw [execOp_congr o (aOp_noSelect h) (fun x hx => mask_eval (by simpa using hx))] at hr
      refine OpOut.wp (R := fun v w' => v = v' ∧ w' = w.alloc ob) (by unfold OpOut; rw [hr]; exact ⟨rfl, rfl⟩) ?_
      rintro v w' ⟨rfl, rfl⟩
      exact hK _ _ _ _ (I.alloc W N h1 hc hp hO hv)
    · obtain ⟨k, hk1, hk2, hk3, hrd⟩ := I.readAt N h2
      obtain ⟨hRk, _⟩ := I.derive W k hk1 hk2 hk3
      have hp : Rel P w0 B ρ (pad (T.s ops.size).2.size (T.s k).2) w := hRk.pad (size_mono W hk2 (Nat.le_refl _)) I.full I.blk
      rw [aOp_rd h2] at h
      obtain ⟨y, hy, e⟩ := Option.map_eq_some_iff.1 h
      have ey : y = T.val j := (Prod.mk.inj e).1
      subst ey
      rw [← hrd] at hy
      have h' : aOp P call (aEv (AD T L ops.size)) o (pad (T.s ops.size).2.size (T.s k).2) = some (T.val j, pad (T.s ops.size).2.size (T.s k).2) := by
        rw [aOp_congr (fun x hx => I.evs N hx), aOp_rd h2, rd_same (H1 := (T.s k).2) (fun b hb => pad_old (rd_blk_lt hy hb) (size_mono W hk2 (Nat.le_refl _))), hy]
        rfl
      have hG : GlobRel ρ G := (I.glob W (size_mono W (Nat.zero_le t) I.ht)).mono below_le
      obtain ⟨v', hr, hv⟩ := pure_out I.act hG hp hok (.inr h2) h'
      refine OpOut.wp (R := fun v w' => v = v' ∧ w' = w) (by unfold OpOut; rw [hr]; exact ⟨rfl, rfl⟩) ?_
      rintro v w' ⟨rfl, rfl⟩
      exact hK _ _ _ _ (I.same N (by omega) hv)
    · obtain ⟨htj, hno⟩ := not3 I N h3
      obtain ⟨hRj, _⟩ := I.derive W j htj (by omega) hno
      have h' : aOp P call (aEv (maskA (seesT o.op) (AD T L ops.size))) o (T.s j).2 = some (T.val j, (T.s (j + 1)).2) := by
        rw [aOp_congr (fun x hx => (mask_ev hx).trans (I.evs N hx))]; exact h
      have hr := op_reach W.hcall (I.masked W N) (I.glob W (size_mono W (Nat.zero_le j) (by omega))) hRj hok h'
      have hr := hr.congr (execOp_congr o (aOp_noSelect h) (fun x hx => mask_eval (by simpa using hx)))
      refine hr.wp ?_
      rintro v' w' ⟨ρ1, hv, hE, hR⟩
      obtain ⟨ρ2, I2⟩ := I.effect W N h3 hv hE hR
      exact hK _ _ _ _ I2
  · rw [if_neg (by rw [hw]; simp)]
    by_cases h3 : opK o.op = 3
    · obtain ⟨htj, hno⟩ := not3 I N h3
      obtain ⟨hRj, _⟩ := I.derive W j htj (by omega) hno
      obtain ⟨ρ2, I2⟩ := I.effect W N h3 (v' := undef) (w' := w) (ρ1 := ρ.below (T.s j).2.size) (by rw [hv]; exact VRel.undef) (by rw [hH]; exact Ext.refl _ _ _) (by rw [hH]; exact hRj)
      exact hK _ _ _ _ I2
    · exact hK _ _ _ _ (I.same N h3 (by rw [hv]; exact VRel.undef))

/-! ### The whole region -/
theorem Inv.start (W : Way T w0 B ρ0 wS) (hA : ActRel P ρ0 (T.s 0).1 a) : Inv T w0 B ρ0 wS (fun _ => false) a wS ρ0 0 := by
  have e : ρ0.below (T.s 0).2.size = ρ0 := by
    funext b
    unfold Ren.below
    split
    · rfl
    · cases h : ρ0 b with
      | none => rfl
      | some x => exact absurd (W.rel.dom b x h) (by assumption)
  refine ⟨fun _ _ _ h => (by cases h), by rw [AD_none]; exact hA, by rw [e]; exact W.rel, by rw [e]; exact Ext.refl _ _ _, Nat.zero_le _, .inl rfl, fun i o _ _ => by simp, ?_, W.rel.blk, ?_, ?_, ?_⟩
  · intro b x hx
    have := W.rel.dom b x hx
    have := size_mono W (Nat.zero_le ops.size) (Nat.le_refl _)
    omega
  · intro b x hx hb
    have := W.rel.dom b x hx; omega
  · intro b b' c d sz d' sz' hx _ hb
    have := W.rel.dom b _ hx; omega
  · intro i o c hi _ hp _
    refine ⟨?_, fun h => by omega⟩
    have hin := (Array.getElem?_eq_some_iff.1 hi).1
    have := size_mono W (Nat.zero_le i) (by omega)
    cases h : ρ0 (T.s i).2.size with
    | none => rfl
    | some x => have := W.rel.dom _ x h; omega

theorem Inv.done (W : Way T w0 B ρ0 wS) (I : Inv T w0 B ρ0 wS L a w ρ t) (hL : ∀ i, i < ops.size → L i = true) : Post P w0 B G ρ0 (T.s 0).2 wS (T.s ops.size).1 (T.s ops.size).2 a w := by
  have e : ρ.below (T.s ops.size).2.size = ρ := by
    funext b
    unfold Ren.below
    split
    · rfl
    · cases h : ρ b with
      | none => rfl
      | some x => exact absurd (I.full b x h) (by assumption)
  obtain ⟨hR, hX⟩ := I.derive W ops.size I.ht (Nat.le_refl _) (fun i o hi h1 h2 h3 => by
    have := (I.hE i o hi h3).1 (hL i (by omega)); omega)
  rw [e] at hR hX
  exact ⟨ρ, by rw [← AD_all T hL]; exact I.act, W.glob.mono hX.le, hX, hR⟩

theorem any_sound (W : Way T w0 B ρ0 wS) {Q : Exit → Act → World → Prop} (hQ : ∀ a' w', Post P w0 B G ρ0 (T.s 0).2 wS (T.s ops.size).1 (T.s ops.size).2 a' w' → Q .normal a' w') :
    ∀ (fuel : Nat) (listed : Array Bool) (a : Act) (w : World) (ρ : Ren) (t : Nat), listed.size = ops.size → ((List.range ops.size).filter fun i => !listed.getD i false).length ≤ fuel →
      Inv T w0 B ρ0 wS (fun i => listed.getD i false) a w ρ t → wpAny P .any ops Q fuel listed a w := by
  have inready : ∀ (listed : Array Bool), listed.size = ops.size → ∀ j, j ∈ Region.ready .any ops listed → ∃ o, Next T (fun i => listed.getD i false) j o := by
    intro listed hsz j hj
    unfold Region.ready at hj
    rw [List.mem_filter] at hj
    obtain ⟨hj, h⟩ := hj
    rw [List.mem_range] at hj
    have ho : ops[j]? = some ops[j] := by simp [hj]
    simp only [Bool.and_eq_true, Bool.not_eq_true'] at h
    obtain ⟨h1, h2⟩ := h
    rw [ho] at h2
    simp only [Option.map_some, Option.getD_some, Array.all_eq_true'] at h2
    refine ⟨ops[j], ho, ?_, fun e he hb => ?_⟩
    · have hjl : j < listed.size := by omega
      simp only [Array.getD, hjl, dif_pos] at h1 ⊢; exact h1
    · have := h2 e he
      simpa [hb] using this
  have least : ∀ (listed : Array Bool), listed.size = ops.size → Region.ready .any ops listed = [] → ∀ i, i < ops.size → listed.getD i false = true := by
    intro listed hsz hnil i
    induction i using Nat.strongRecOn with
    | _ i ih =>
      intro hi
      cases h : listed.getD i false with
      | true => rfl
      | false =>
        exfalso
        have ho : ops[i]? = some ops[i] := by simp [hi]
        have : i ∈ Region.ready .any ops listed := by
          unfold Region.ready
          rw [List.mem_filter, List.mem_range]
          refine ⟨hi, ?_⟩
          simp only [Bool.and_eq_true, Bool.not_eq_true']
          refine ⟨?_, ?_⟩
          · have hjl : i < listed.size := by omega
            simp only [Array.getD, hjl, dif_pos] at h ⊢; exact h
          · rw [ho]
            simp only [Option.map_some, Option.getD_some, Array.all_eq_true']
            intro e he
            cases hb : Region.binds .any e with
            | false => rfl
            | true =>
              have hlt := T.back i _ ho e he hb
              simpa using ih e.on hlt (by omega)
        rw [hnil] at this
        cases this
  intro fuel
  induction fuel with
  | zero =>
    intro listed a w ρ t hsz hcnt I
    have hall : ∀ i, i < ops.size → listed.getD i false = true := by
      intro i hi
      have h0 : ((List.range ops.size).filter fun i => !listed.getD i false) = [] := List.eq_nil_of_length_eq_zero (by omega)
      rw [List.filter_eq_nil_iff] at h0
      have := h0 i (List.mem_range.2 hi)
      simpa using this
    refine ⟨?_, hQ _ _ (I.done W hall)⟩
    cases hr : Region.ready .any ops listed with
    | nil => rfl
    | cons j js =>
      obtain ⟨o, N⟩ := inready listed hsz j (by rw [hr]; simp)
      have := hall j (Array.getElem?_eq_some_iff.1 N.ho).1
      have h2 : listed.getD j false = false := N.hj
      rw [this] at h2; cases h2
  | succ fuel ih =>
    intro listed a w ρ t hsz hcnt I
    refine ⟨fun hnil => hQ _ _ (I.done W (least listed hsz hnil)), fun j hj => ?_⟩
    obtain ⟨o, N⟩ := inready listed hsz j hj
    have hjn := (Array.getElem?_eq_some_iff.1 N.ho).1
    have hset : (fun i => (listed.setIfInBounds j true).getD i false) = lset (fun i => listed.getD i false) j := by
      funext i
      simp only [lset, Array.getD_eq_getD_getElem?]
      rw [Array.getElem?_setIfInBounds]
      by_cases e : i = j
      · subst e; simp [show i < listed.size from by omega]
      · rw [if_neg (fun e' => e e'.symm), if_neg e]
    refine I.step W N (fun a' w' ρ' t' I' => ih _ a' w' ρ' t' (by simp [hsz]) ?_ (by rw [hset]; exact I'))
    have e1 : ((List.range ops.size).filter fun i => !(listed.setIfInBounds j true).getD i false) = ((List.range ops.size).filter fun i => !listed.getD i false).filter fun i => i != j := by
      rw [List.filter_filter]
      apply List.filter_congr
      intro i _
      have : (listed.setIfInBounds j true).getD i false = lset (fun i => listed.getD i false) j i := congrFun hset i
      rw [this]
      simp only [lset]
      by_cases e : i = j
      · subst e; simp
      · simp [e]
    have e2 : (((List.range ops.size).filter fun i => !listed.getD i false).filter fun i => i != j).length < ((List.range ops.size).filter fun i => !listed.getD i false).length := by
      rw [List.length_filter_lt_length_iff_exists]
      refine ⟨j, ?_, by simp⟩
      rw [List.mem_filter, List.mem_range]
      have : listed.getD j false = false := N.hj
      exact ⟨hjn, by rw [this]; rfl⟩
    rw [e1]; omega

/-- **A region whose order is drawn comes to what the text's order comes to.** -/
theorem region_any (W : Way T w0 B ρ0 wS) (hm : P.follows .mixedOrders = true) {id : Nat} {Q : Exit → Act → World → Prop} {w : World} (hw : wS = { w with drawn := w.drawn + 1 }) (hA : ActRel P ρ0 (T.s 0).1 a)
    (hQ : ∀ a' w', Post P w0 B G ρ0 (T.s 0).2 wS (T.s ops.size).1 (T.s ops.size).2 a' w' → Q .normal a' w') : (Code.region id ops true).wp P Q a w := by
  refine wp_region_any hm ?_
  rw [← hw]
  refine any_sound W hQ ops.size _ a wS ρ0 0 (by simp) ?_ ?_
  · refine Nat.le_trans (List.length_filter_le _ _) (by simp)
  · have e : (fun i => (Array.replicate ops.size false).getD i false) = fun _ => false := by
      funext i
      rw [Array.getD_eq_getD_getElem?, Array.getElem?_replicate]
      split <;> rfl
    rw [e]
    exact Inv.start W hA
end
end Go.Proofs.YtbjelopcelompaaGreatDoor.Gst
