/- Code and calls: the abstract run is sound. -/
import Derived.Test.YthagelbepgcolaaGreatDoorMb
import Derived.LoopN
import Derived.Defers
import Derived.Laws.BytesString
import Derived.Recover
namespace Go.Proofs.YthagelbepgcolaaGreatDoor.Gst
open Go Go.RowKit
set_option linter.unusedSimpArgs false
section
variable {ds : List Deferred} {P : Program} {w0 : World} {B : Nat} {ρ : Ren} {w : World} {G : List Nat} {call : CallF} {ops : Array Oper} {T : Tra P G call ops} {ρ0 : Ren} {wS : World} {L : Nat → Bool} {a : Act} {t : Nat}

abbrev lset (L : Nat → Bool) (j : Nat) : Nat → Bool := fun i => if i = j then true else L i
theorem lset_ne {i j : Nat} (h : i ≠ j) : lset L j i = L i := by simp [lset, h]
theorem lset_of {i j : Nat} (h : L i = true) : lset L j i = true := by simp only [lset]; split <;> first | rfl | exact h
theorem lset_false {i j : Nat} (h : lset L j i = false) : i ≠ j ∧ L i = false := by
  simp only [lset] at h
  split at h
  · cases h
  · exact ⟨by assumption, h⟩

theorem Inv.same (I : Inv ds T w0 B ρ0 wS L a w ρ t) {j : Nat} {o : Oper} (N : Next T L j o) (hk : opK o.op ≠ 3) {v' : Value} (hv : VRel P ρ (T.val j) v') : Inv ds T w0 B ρ0 wS (lset L j) (a.put o.dst v') w ρ t where
  closed := I.closed' N
  act := by rw [I.set N]; exact put_rel I.act o.dst hv
  rel := I.rel
  ext := I.ext
  ht := I.ht
  ht1 := I.ht1
  hE := fun i oi hi h3 => by
    have : i ≠ j := fun e => by subst e; rw [N.ho] at hi; cases hi; exact hk h3
    rw [lset_ne this]; exact I.hE i oi hi h3
  full := I.full
  blk := I.blk
  pend := fun b x hx hb => by
    obtain ⟨i, oi, c, c', sz, h1, h2, h3, h4⟩ := I.pend b x hx hb
    exact ⟨i, oi, c, c', sz, h1, h2, lset_of h3, h4⟩
  alone := I.alone
  later := fun i oi c hi h1 hp hL => I.later i oi c hi h1 hp (lset_false hL).2

theorem not3 (I : Inv ds T w0 B ρ0 wS L a w ρ t) {j : Nat} {o : Oper} (N : Next T L j o) (hk : opK o.op = 3) : t ≤ j ∧ ∀ i oi, ops[i]? = some oi → t ≤ i → i < j → opK oi.op ≠ 3 := by
  refine ⟨?_, fun i oi hi hti hij h3 => ?_⟩
  · rcases Nat.lt_or_ge j t with h | h
    · have := (I.hE j o N.ho hk).2 h
      rw [N.hj] at this; cases this
    · exact h
  · rcases T.pair i j oi o hij hi N.ho with h | ⟨_, h⟩
    · have := fb_closed I.closed j o N.ho N.ready i h
      have := (I.hE i oi hi h3).1 this
      omega
    · exact h ⟨h3, hk⟩

theorem Inv.alloc (W : Way T w0 B ρ0 wS) (I : Inv ds T w0 B ρ0 wS L a w ρ t) {j : Nat} {o : Oper} (N : Next T L j o) (hk : opK o.op = 1) {c : AObj} (hc : c.rw = true) (hp : (T.s (j + 1)).2 = (T.s j).2.push c) {ob : Obj} {sz : Nat} {v' : Value}
    (hO : ORel P (ρ.below (T.s j).2.size) 0 sz c (some ob)) (hv : ∀ ρ' : Ren, ρ' (T.s j).2.size = some (w.heap.size, 0, sz) → VRel P ρ' (T.val j) v') :
    Inv ds T w0 B ρ0 wS (lset L j) (a.put o.dst v') (w.alloc ob) (ρ.upd (T.s j).2.size (w.heap.size, 0, sz)) t := by
  have hjn := (Array.getElem?_eq_some_iff.1 N.ho).1
  obtain ⟨hnone, hbefore⟩ := I.later j o c N.ho hk hp N.hj
  have hle := Ren.upd_le (x := (w.heap.size, 0, sz)) hnone
  have hltn := size_lt W (show j < ops.size from hjn) (Nat.le_refl _) hp
  have bmono : ∀ {b i x}, ρ.below b i = some x → (ρ.upd (T.s j).2.size (w.heap.size, 0, sz)).below b i = some x := by
    intro b i x hx
    obtain ⟨h1, h2⟩ := Ren.below_some hx
    rw [Ren.below_lt h1]; exact hle _ _ h2
  have hrel : Rel P w0 B ((ρ.upd (T.s j).2.size (w.heap.size, 0, sz)).below (T.s t).2.size) (T.s t).2 (w.alloc ob) ∧ Ext ρ0 (T.s 0).2 wS ((ρ.upd (T.s j).2.size (w.heap.size, 0, sz)).below (T.s t).2.size) (T.s t).2 (w.alloc ob) := by
    rcases Nat.lt_or_ge j t with hjt | hjt
    · have hlt := size_lt W hjt I.ht hp
      have e : (ρ.upd (T.s j).2.size (w.heap.size, 0, sz)).below (T.s t).2.size = (ρ.below (T.s t).2.size).upd (T.s j).2.size (w.heap.size, 0, sz) := by
        funext b
        unfold Ren.below Ren.upd
        by_cases e : b = (T.s j).2.size
        · subst e; simp [hlt]
        · simp [e]
      have hnb : ρ.below (T.s t).2.size (T.s j).2.size = none := by rw [Ren.below_lt hlt]; exact hnone
      rw [e]
      refine ⟨I.rel.fill hnb hc (hO.mono (below_mono (Nat.le_of_lt hlt))) hlt ?_ (fun b x hx => ⟨I.rel.dom b x hx, rfl⟩), ?_⟩
      · rw [hbefore hjt, hp, AH.get_push_new]
      · exact (I.ext.allocW ob).updN hnb (size_mono W (Nat.zero_le _) (by omega)) hlt I.ext.wsize
    · have hge := size_mono W hjt (by omega)
      have e : (ρ.upd (T.s j).2.size (w.heap.size, 0, sz)).below (T.s t).2.size = ρ.below (T.s t).2.size := by
        funext b
        unfold Ren.below Ren.upd
        by_cases e : b < (T.s t).2.size
        · rw [if_pos e, if_pos e, if_neg (by omega)]
        · rw [if_neg e, if_neg e]
      rw [e]
      exact ⟨I.rel.allocW ob, I.ext.allocW ob⟩
  refine ⟨I.closed' N, ?_, hrel.1, hrel.2, I.ht, I.ht1, ?_, ?_, ?_, ?_, ?_, ?_⟩
  · rw [I.set N]; exact put_rel (I.act.mono hle) o.dst (hv _ (Ren.upd_same ..))
  · intro i oi hi h3
    have : i ≠ j := fun e => by subst e; rw [N.ho] at hi; cases hi; omega
    rw [lset_ne this]; exact I.hE i oi hi h3
  · intro b x hx
    rcases upd_cases hx with ⟨rfl, _⟩ | ⟨_, hx⟩
    · exact hltn
    · exact I.full b x hx
  · intro b c1 d sz1 hx
    rw [World.size_alloc]
    rcases upd_cases hx with ⟨rfl, e⟩ | ⟨_, hx⟩
    · cases e; omega
    · have := I.blk b c1 d sz1 hx; omega
  · intro b x hx hb
    rcases upd_cases hx with ⟨rfl, rfl⟩ | ⟨_, hx⟩
    · refine ⟨j, o, c, w.heap.size, sz, N.ho, ?_, by simp [lset], rfl, hp, rfl, hc, I.ext.wsize, ?_⟩
      · rcases Nat.lt_or_ge j t with hjt | hjt
        · have := size_lt W hjt I.ht hp; omega
        · exact hjt
      · rw [heap_alloc_new w ob]; exact hO.mono (fun _ _ h => bmono h)
    · obtain ⟨i, oi, c1, c', sz1, h1, h2, h3, h4, h5, h6, h7, h8, h9⟩ := I.pend b x hx hb
      subst h6
      refine ⟨i, oi, c1, c', sz1, h1, h2, lset_of h3, h4, h5, rfl, h7, h8, ?_⟩
      rw [Below.heap_alloc w ob c' (I.blk _ _ _ _ hx)]
      exact h9.mono (fun _ _ h => bmono h)
  · intro b b' c1 d sz1 d' sz' hx hx' hb
    rcases upd_cases hx with ⟨e1, e⟩ | ⟨_, hx⟩ <;> rcases upd_cases hx' with ⟨e2, e'⟩ | ⟨_, hx'⟩
    · rw [e1, e2]
    · cases e; have := I.blk _ _ _ _ hx'; omega
    · cases e'; have := I.blk _ _ _ _ hx; omega
    · exact I.alone _ _ _ _ _ _ _ hx hx' hb
  · intro i oi c1 hi h1 hpi hL
    obtain ⟨hne, hL⟩ := lset_false hL
    obtain ⟨h2, h3⟩ := I.later i oi c1 hi h1 hpi hL
    refine ⟨?_, h3⟩
    have hin := (Array.getElem?_eq_some_iff.1 hi).1
    rw [Ren.upd_ne (fun e => ?_)]
    · exact h2
    · rcases Nat.lt_or_gt_of_ne hne with h | h
      · have := size_lt W h (by omega) hpi; omega
      · have := size_lt W h (by omega) hp; omega

theorem Inv.effect (W : Way T w0 B ρ0 wS) (I : Inv ds T w0 B ρ0 wS L a w ρ t) {j : Nat} {o : Oper} (N : Next T L j o) (hk : opK o.op = 3) {v' : Value} {w' : World} {ρ1 : Ren} (hv : VRel P ρ1 (T.val j) v')
    (hE : Ext (ρ.below (T.s j).2.size) (T.s j).2 w ρ1 (T.s (j + 1)).2 w') (hR : Rel P w0 B ρ1 (T.s (j + 1)).2 w') :
    ∃ ρ2, Inv ds T w0 B ρ0 wS (lset L j) (a.put o.dst v') w' ρ2 (j + 1) := by
  have hjn := (Array.getElem?_eq_some_iff.1 N.ho).1
  obtain ⟨htj, hno⟩ := not3 I N hk
  obtain ⟨hRj, hXj⟩ := I.derive W j htj (by omega) hno
  have hm : (T.s j).2.size ≤ (T.s (j + 1)).2.size := size_step W hjn
  have hmt : (T.s t).2.size ≤ (T.s j).2.size := size_mono W htj (by omega)
  -- no block of the region's own lies in the gap
  have pos : ∀ {b x}, ρ b = some x → (T.s j).2.size ≤ b → (T.s (j + 1)).2.size ≤ b ∧ ∃ i oi c c' sz, ops[i]? = some oi ∧ j + 1 ≤ i ∧ L i = true ∧ b = (T.s i).2.size ∧ (T.s (i + 1)).2 = (T.s i).2.push c ∧ x = (c', 0, sz) ∧ c.rw = true ∧ wS.heap.size ≤ c' ∧ ORel P (ρ.below b) 0 sz c w.heap[c']? := by
    intro b x hx hb
    obtain ⟨i, oi, c, c', sz, h1, h2, h3, h4, h5, h6⟩ := I.pend b x hx (by omega)
    have hin := (Array.getElem?_eq_some_iff.1 h1).1
    have hij : j + 1 ≤ i := by
      rcases Nat.lt_trichotomy i j with h | h | h
      · have := size_lt W h (by omega) h5; omega
      · subst h; rw [N.hj] at h3; cases h3
      · omega
    exact ⟨by have := size_mono W hij (by omega); omega, i, oi, c, c', sz, h1, hij, h3, h4, h5, h6⟩
  have hle : ∀ b x, ρ b = some x → (fun b => if b < (T.s (j + 1)).2.size then ρ1 b else ρ b) b = some x := by
    intro b x hx
    by_cases hb : b < (T.s (j + 1)).2.size
    · simp only [hb, if_true]
      by_cases hbj : b < (T.s j).2.size
      · exact hE.le b x (by rw [Ren.below_lt hbj]; exact hx)
      · have := (pos hx (by omega)).1; omega
    · simp only [hb, if_false]; exact hx
  have hle1 : ∀ b x, ρ1 b = some x → (fun b => if b < (T.s (j + 1)).2.size then ρ1 b else ρ b) b = some x := by
    intro b x hx
    have := hR.dom b x hx
    simp only [this, if_true]; exact hx
  have cases' : ∀ {b x}, (fun b => if b < (T.s (j + 1)).2.size then ρ1 b else ρ b) b = some x → (b < (T.s (j + 1)).2.size ∧ ρ1 b = some x) ∨ ((T.s (j + 1)).2.size ≤ b ∧ ρ b = some x) := by
    intro b x hx
    by_cases hb : b < (T.s (j + 1)).2.size
    · simp only [hb, if_true] at hx; exact .inl ⟨hb, hx⟩
    · simp only [hb, if_false] at hx; exact .inr ⟨by omega, hx⟩
  have e2 : Ren.below (fun b => if b < (T.s (j + 1)).2.size then ρ1 b else ρ b) (T.s (j + 1)).2.size = ρ1 := by
    funext b
    simp only [Ren.below]
    by_cases hb : b < (T.s (j + 1)).2.size
    · simp only [hb, if_true]
    · simp only [hb, if_false]
      cases h : ρ1 b with
      | none => rfl
      | some x => exact absurd (hR.dom b x h) hb
  refine ⟨fun b => if b < (T.s (j + 1)).2.size then ρ1 b else ρ b, I.closed' N, ?_, by rw [e2]; exact hR, by rw [e2]; exact hXj.trans W.rel hE, by omega, .inr ⟨o, by simpa using N.ho, hk⟩, ?_, ?_, ?_, ?_, ?_, ?_⟩
  · rw [I.set N]; exact put_rel (I.act.mono hle) o.dst (hv.mono hle1)
  · intro i oi hi h3
    by_cases e : i = j
    · subst e; simp [lset]
    · rw [lset_ne e, I.hE i oi hi h3]
      constructor
      · intro h; omega
      · intro h
        rcases Nat.lt_or_ge i t with h4 | h4
        · exact h4
        · exact absurd h3 (hno i oi hi h4 (by omega))
  · intro b x hx
    rcases cases' hx with ⟨hb, _⟩ | ⟨_, hx⟩
    · exact Nat.lt_of_lt_of_le hb (size_mono W (by omega) (Nat.le_refl _))
    · exact I.full b x hx
  · intro b c d sz hx
    rcases cases' hx with ⟨_, hx⟩ | ⟨_, hx⟩
    · exact hR.blk b c d sz hx
    · have := I.blk b c d sz hx; have := hE.wsize; omega
  · intro b x hx hb
    rcases cases' hx with ⟨hb', _⟩ | ⟨_, hx⟩
    · omega
    · obtain ⟨_, i, oi, c, c', sz, h1, h2, h3, h4, h5, h6, h7, h8, h9⟩ := pos hx (by omega)
      subst h6
      refine ⟨i, oi, c, c', sz, h1, h2, lset_of h3, h4, h5, rfl, h7, h8, ?_⟩
      rw [hE.keepC c' (I.blk _ _ _ _ hx) (fun b1 d sz1 o1 hx1 _ => ?_)]
      · refine h9.mono (fun b1 x1 hx1 => ?_)
        obtain ⟨h10, h11⟩ := Ren.below_some hx1
        rw [Ren.below_lt h10]; exact hle _ _ h11
      · obtain ⟨h10, h11⟩ := Ren.below_some hx1
        have := I.alone _ _ _ _ _ _ _ hx h11 (by omega)
        omega
  · intro b b' c d sz d' sz' hx hx' hb
    rcases cases' hx with ⟨hb', _⟩ | ⟨_, hx⟩
    · omega
    · rcases cases' hx' with ⟨hb', hx'⟩ | ⟨_, hx'⟩
      · exfalso
        cases hρ : ρ.below (T.s j).2.size b' with
        | some y =>
          have := hE.le b' y hρ
          rw [hx'] at this
          cases this
          obtain ⟨h10, h11⟩ := Ren.below_some hρ
          have := I.alone _ _ _ _ _ _ _ hx h11 (by omega)
          omega
        | none =>
          rcases hE.newC b' c d' sz' hx' hρ with h | ⟨b0, d0, sz0, o0, h, _, _⟩
          · have := I.blk _ _ _ _ hx; omega
          · obtain ⟨h10, h11⟩ := Ren.below_some h
            have := I.alone _ _ _ _ _ _ _ hx h11 (by omega)
            omega
      · exact I.alone _ _ _ _ _ _ _ hx hx' (by omega)
  · intro i oi c hi h1 hp hL
    obtain ⟨hne, hL⟩ := lset_false hL
    obtain ⟨h2, h3⟩ := I.later i oi c hi h1 hp hL
    have hin := (Array.getElem?_eq_some_iff.1 hi).1
    refine ⟨?_, fun hij => ?_⟩
    · by_cases hb : (T.s i).2.size < (T.s (j + 1)).2.size
      · rw [if_pos hb]
        cases h4 : ρ1 (T.s i).2.size with
        | none => rfl
        | some y =>
          have h5 : ρ.below (T.s j).2.size (T.s i).2.size = none := by unfold Ren.below; rw [h2]; split <;> rfl
          have h6 := (hE.fresh _ y h4 h5).1
          rcases Nat.lt_or_gt_of_ne hne with h | h
          · have := size_lt W h (by omega) hp; omega
          · have := size_mono W (show j + 1 ≤ i from h) (by omega); omega
      · rw [if_neg hb]; exact h2
    · have hlt : i < j := by omega
      have hsz := size_lt W hlt (by omega) hp
      have h5 : ρ.below (T.s j).2.size (T.s i).2.size = none := by unfold Ren.below; rw [h2]; split <;> rfl
      rw [hE.keepA _ hsz h5]
      rcases Nat.lt_or_ge i t with h4 | h4
      · rw [push_get W htj (by omega) hno (size_lt W h4 I.ht hp), h3 h4]
      · exact push_get W (show i + 1 ≤ j from hlt) (by omega) (fun k ok hk h6 h7 => hno k ok hk (by omega) h7) (by rw [hp, AH.size_push]; omega)

/-- Where the reading of the text's place can be done. -/
theorem Inv.readAt (I : Inv ds T w0 B ρ0 wS L a w ρ t) {j : Nat} {o : Oper} (N : Next T L j o) (hk : opK o.op = 2) :
    ∃ k, t ≤ k ∧ k ≤ ops.size ∧ (∀ i oi, ops[i]? = some oi → t ≤ i → i < k → opK oi.op ≠ 3) ∧ aRd P (aEv (T.s j).1) o.op (T.s k).2 = aRd P (aEv (T.s j).1) o.op (T.s j).2 := by
  have hjn := (Array.getElem?_eq_some_iff.1 N.ho).1
  rcases Nat.lt_or_ge j t with hjt | hjt
  · rcases I.ht1 with h0 | ⟨oe, he, h3⟩
    · omega
    · have hL : L (t - 1) = true := (I.hE (t - 1) oe he h3).2 (by omega)
      have hne : j ≠ t - 1 := fun e => by rw [e] at N; have := N.ho; rw [he] at this; cases this; omega
      have hf1 : fb (masksOf ops.toList) (t - 1) j = false := by
        cases h : fb (masksOf ops.toList) (t - 1) j with
        | false => rfl
        | true => have := fb_lt T N.ho h; omega
      have hf2 : fb (masksOf ops.toList) j (t - 1) = false := by
        cases h : fb (masksOf ops.toList) j (t - 1) with
        | false => rfl
        | true =>
          have := fb_closed I.closed (t - 1) oe he (I.closed _ _ he hL) j h
          rw [N.hj] at this; cases this
      have h := T.look j (t - 1) o oe N.ho he hk h3 hf1 hf2
      rw [if_neg (by omega), show t - 1 + 1 = t from by omega] at h
      exact ⟨t, Nat.le_refl _, I.ht, fun i oi hi h1 h2 => absurd h1 (by omega), h⟩
  · -- the first that does more than look, between here and there
    have key : ∀ n, t + n ≤ j → (∀ i oi, ops[i]? = some oi → t ≤ i → i < t + n → opK oi.op ≠ 3) ∨
        ∃ e oe, t ≤ e ∧ e < j ∧ ops[e]? = some oe ∧ opK oe.op = 3 ∧ ∀ i oi, ops[i]? = some oi → t ≤ i → i < e → opK oi.op ≠ 3 := by
      intro n
      induction n with
      | zero => intro _; exact .inl (fun i oi hi h1 h2 => absurd h1 (by omega))
      | succ n ih =>
        intro hn
        rcases ih (by omega) with h | h
        · have ho : ops[t + n]? = some ops[t + n] := by simp [show t + n < ops.size from by omega]
          by_cases h3 : opK (ops[t + n]).op = 3
          · exact .inr ⟨t + n, _, by omega, by omega, ho, h3, h⟩
          · refine .inl (fun i oi hi h1 h2 => ?_)
            by_cases e : i = t + n
            · subst e; rw [ho] at hi; cases hi; exact h3
            · exact h i oi hi h1 (by omega)
        · exact .inr h
    rcases key (j - t) (by omega) with h | ⟨e, oe, h1, h2, he, h3, h4⟩
    · exact ⟨j, hjt, by omega, fun i oi hi h1 h2 => h i oi hi h1 (by omega), rfl⟩
    · have hLe : L e = false := by
        cases h : L e with
        | false => rfl
        | true => have := (I.hE e oe he h3).1 h; omega
      have hf1 : fb (masksOf ops.toList) e j = false := by
        cases h : fb (masksOf ops.toList) e j with
        | false => rfl
        | true => have := fb_closed I.closed j o N.ho N.ready e h; rw [hLe] at this; cases this
      have hf2 : fb (masksOf ops.toList) j e = false := by
        cases h : fb (masksOf ops.toList) j e with
        | false => rfl
        | true => have := fb_lt T he h; omega
      have h := T.look j e o oe N.ho he hk h3 hf1 hf2
      rw [if_pos h2] at h
      exact ⟨e, h1, by omega, h4, h⟩

theorem aOp_noSelect {ev : Operand → Value} {o : Oper} {H : AH} {r : Value × AH} (h : aOp P call ev o H = some r) : ∀ cs b, o.op ≠ .select cs b := by
  intro cs b e
  obtain ⟨dst, op, type, pos, after, guard⟩ := o
  simp only at e
  subst e
  simp [aOp] at h

/-- **One more operation.** -/
theorem Inv.step (W : Way T w0 B ρ0 wS) (I : Inv ds T w0 B ρ0 wS L a w ρ t) {j : Nat} {o : Oper} (N : Next T L j o) {K : Act → World → Prop} {Q : Exit → Act → World → Prop}
    (hK : ∀ a' w' ρ' t', Inv ds T w0 B ρ0 wS (lset L j) a' w' ρ' t' → K a' w') : wpOp P ops Q j K a w := by
  have hjn := (Array.getElem?_eq_some_iff.1 N.ho).1
  unfold wpOp
  rw [N.ho]
  simp only
  rw [I.wanted N]
  obtain ⟨hok, hs, ⟨hw, h⟩ | ⟨hw, hv, hH⟩⟩ := T.step j o N.ho
  · rw [if_pos hw]
    refine .inl ?_
    rcases opK_cases o.op with h0 | h1 | h2 | h3
    · have h' : aOp P call (aEv (AD T L ops.size)) o (pad (T.s ops.size).2.size (T.s t).2) = some (T.val j, pad (T.s ops.size).2.size (T.s t).2) := by
        rw [aOp_congr (fun x hx => I.evs N hx)]; exact (aOp_pure h0 h).2 _
      have hp : Rel P w0 B ρ (pad (T.s ops.size).2.size (T.s t).2) w := I.rel.pad (size_mono W I.ht (Nat.le_refl _)) I.full I.blk
      have hG : GlobRel ρ G := (I.glob W (size_mono W (Nat.zero_le t) I.ht)).mono below_le
      obtain ⟨v', hr, hv⟩ := pure_out I.act hG hp hok (.inl h0) h'
      refine OpOut.wp (R := fun v w' => v = v' ∧ w' = w) (by unfold OpOut; rw [hr]; exact ⟨rfl, rfl⟩) ?_
      rintro v w' ⟨rfl, rfl⟩
      exact hK _ _ _ _ (I.same N (by omega) hv)
    · have h' : aOp P call (aEv (maskA (seesT o.op) (AD T L ops.size))) o (T.s j).2 = some (T.val j, (T.s (j + 1)).2) := by
        rw [aOp_congr (fun x hx => (mask_ev hx).trans (I.evs N hx))]; exact h
      obtain ⟨c, hc, hp, hall⟩ := alloc_spec (I.masked W N) (I.glob W (size_mono W (Nat.zero_le j) (by omega))) hok h1 h'
      obtain ⟨ob, sz, v', hr, hO, hv⟩ := hall w
      rw [execOp_congr o (aOp_noSelect h) (fun x hx => mask_eval (by simpa using hx))] at hr
      refine OpOut.wp (R := fun v w' => v = v' ∧ w' = w.alloc ob) (by unfold OpOut; rw [hr]; exact ⟨rfl, rfl⟩) ?_
      rintro v w' ⟨rfl, rfl⟩
      exact hK _ _ _ _ (I.alloc W N h1 hc hp hO hv)
    · obtain ⟨k, hk1, hk2, hk3, hrd⟩ := I.readAt N h2
      obtain ⟨hRk, _⟩ := I.derive W k hk1 hk2 hk3
      have hp : Rel P w0 B ρ (pad (T.s ops.size).2.size (T.s k).2) w := hRk.pad (size_mono W hk2 (Nat.le_refl _)) I.full I.blk
      rw [aOp_rd h2] at h
      obtain ⟨y, hy, e⟩ := Option.map_eq_some_iff.1 h
      have ey : y = T.val j := (Prod.mk.inj e).1
      subst ey
      rw [← hrd] at hy
      have h' : aOp P call (aEv (AD T L ops.size)) o (pad (T.s ops.size).2.size (T.s k).2) = some (T.val j, pad (T.s ops.size).2.size (T.s k).2) := by
        rw [aOp_congr (fun x hx => I.evs N hx), aOp_rd h2, rd_same (H1 := (T.s k).2) (fun b hb => pad_old (rd_blk_lt hy hb) (size_mono W hk2 (Nat.le_refl _))), hy]
        rfl
      have hG : GlobRel ρ G := (I.glob W (size_mono W (Nat.zero_le t) I.ht)).mono below_le
      obtain ⟨v', hr, hv⟩ := pure_out I.act hG hp hok (.inr h2) h'
      refine OpOut.wp (R := fun v w' => v = v' ∧ w' = w) (by unfold OpOut; rw [hr]; exact ⟨rfl, rfl⟩) ?_
      rintro v w' ⟨rfl, rfl⟩
      exact hK _ _ _ _ (I.same N (by omega) hv)
    · obtain ⟨htj, hno⟩ := not3 I N h3
      obtain ⟨hRj, _⟩ := I.derive W j htj (by omega) hno
      have h' : aOp P call (aEv (maskA (seesT o.op) (AD T L ops.size))) o (T.s j).2 = some (T.val j, (T.s (j + 1)).2) := by
        rw [aOp_congr (fun x hx => (mask_ev hx).trans (I.evs N hx))]; exact h
      have hr := op_reach W.hcall (I.masked W N) (I.glob W (size_mono W (Nat.zero_le j) (by omega))) hRj hok h'
      have hr := hr.congr (execOp_congr o (aOp_noSelect h) (fun x hx => mask_eval (by simpa using hx)))
      refine hr.wp ?_
      rintro v' w' ⟨ρ1, hv, hE, hR⟩
      obtain ⟨ρ2, I2⟩ := I.effect W N h3 hv hE hR
      exact hK _ _ _ _ I2
  · rw [if_neg (by rw [hw]; simp)]
    by_cases h3 : opK o.op = 3
    · obtain ⟨htj, hno⟩ := not3 I N h3
      obtain ⟨hRj, _⟩ := I.derive W j htj (by omega) hno
      obtain ⟨ρ2, I2⟩ := I.effect W N h3 (v' := undef) (w' := w) (ρ1 := ρ.below (T.s j).2.size) (by rw [hv]; exact VRel.undef) (by rw [hH]; exact Ext.refl _ _ _) (by rw [hH]; exact hRj)
      exact hK _ _ _ _ I2
    · exact hK _ _ _ _ (I.same N h3 (by rw [hv]; exact VRel.undef))

/-! ### The whole region -/
theorem Inv.start (W : Way T w0 B ρ0 wS) (hA : ActRel ds P ρ0 (T.s 0).1 a) : Inv ds T w0 B ρ0 wS (fun _ => false) a wS ρ0 0 := by
  have e : ρ0.below (T.s 0).2.size = ρ0 := by
    funext b
    unfold Ren.below
    split
    · rfl
    · cases h : ρ0 b with
      | none => rfl
      | some x => exact absurd (W.rel.dom b x h) (by assumption)
  refine ⟨fun _ _ _ h => (by cases h), by rw [AD_none]; exact hA, by rw [e]; exact W.rel, by rw [e]; exact Ext.refl _ _ _, Nat.zero_le _, .inl rfl, fun i o _ _ => by simp, ?_, W.rel.blk, ?_, ?_, ?_⟩
  · intro b x hx
    have := W.rel.dom b x hx
    have := size_mono W (Nat.zero_le ops.size) (Nat.le_refl _)
    omega
  · intro b x hx hb
    have := W.rel.dom b x hx; omega
  · intro b b' c d sz d' sz' hx _ hb
    have := W.rel.dom b _ hx; omega
  · intro i o c hi _ hp _
    refine ⟨?_, fun h => by omega⟩
    have hin := (Array.getElem?_eq_some_iff.1 hi).1
    have := size_mono W (Nat.zero_le i) (by omega)
    cases h : ρ0 (T.s i).2.size with
    | none => rfl
    | some x => have := W.rel.dom _ x h; omega

theorem Inv.done (W : Way T w0 B ρ0 wS) (I : Inv ds T w0 B ρ0 wS L a w ρ t) (hL : ∀ i, i < ops.size → L i = true) : Post ds P w0 B G ρ0 (T.s 0).2 wS (T.s ops.size).1 (T.s ops.size).2 a w := by
  have e : ρ.below (T.s ops.size).2.size = ρ := by
    funext b
    unfold Ren.below
    split
    · rfl
    · cases h : ρ b with
      | none => rfl
      | some x => exact absurd (I.full b x h) (by assumption)
  obtain ⟨hR, hX⟩ := I.derive W ops.size I.ht (Nat.le_refl _) (fun i o hi h1 h2 h3 => by
    have := (I.hE i o hi h3).1 (hL i (by omega)); omega)
  rw [e] at hR hX
  exact ⟨ρ, by rw [← AD_all T hL]; exact I.act, W.glob.mono hX.le, hX, hR⟩

theorem any_sound (W : Way T w0 B ρ0 wS) {Q : Exit → Act → World → Prop} (hQ : ∀ a' w', Post ds P w0 B G ρ0 (T.s 0).2 wS (T.s ops.size).1 (T.s ops.size).2 a' w' → Q .normal a' w') :
    ∀ (fuel : Nat) (listed : Array Bool) (a : Act) (w : World) (ρ : Ren) (t : Nat), listed.size = ops.size → ((List.range ops.size).filter fun i => !listed.getD i false).length ≤ fuel →
      Inv ds T w0 B ρ0 wS (fun i => listed.getD i false) a w ρ t → wpAny P .any ops Q fuel listed a w := by
  have inready : ∀ (listed : Array Bool), listed.size = ops.size → ∀ j, j ∈ Region.ready .any ops listed → ∃ o, Next T (fun i => listed.getD i false) j o := by
    intro listed hsz j hj
    unfold Region.ready at hj
    rw [List.mem_filter] at hj
    obtain ⟨hj, h⟩ := hj
    rw [List.mem_range] at hj
    have ho : ops[j]? = some ops[j] := by simp [hj]
    simp only [Bool.and_eq_true, Bool.not_eq_true'] at h
    obtain ⟨h1, h2⟩ := h
    rw [ho] at h2
    simp only [Option.map_some, Option.getD_some, Array.all_eq_true'] at h2
    refine ⟨ops[j], ho, ?_, fun e he hb => ?_⟩
    · have hjl : j < listed.size := by omega
      simp only [Array.getD, hjl, dif_pos] at h1 ⊢; exact h1
    · have := h2 e he
      simpa [hb] using this
  have least : ∀ (listed : Array Bool), listed.size = ops.size → Region.ready .any ops listed = [] → ∀ i, i < ops.size → listed.getD i false = true := by
    intro listed hsz hnil i
    induction i using Nat.strongRecOn with
    | _ i ih =>
      intro hi
      cases h : listed.getD i false with
      | true => rfl
      | false =>
        exfalso
        have ho : ops[i]? = some ops[i] := by simp [hi]
        have : i ∈ Region.ready .any ops listed := by
          unfold Region.ready
          rw [List.mem_filter, List.mem_range]
          refine ⟨hi, ?_⟩
          simp only [Bool.and_eq_true, Bool.not_eq_true']
          refine ⟨?_, ?_⟩
          · have hjl : i < listed.size := by omega
            simp only [Array.getD, hjl, dif_pos] at h ⊢; exact h
          · rw [ho]
            simp only [Option.map_some, Option.getD_some, Array.all_eq_true']
            intro e he
            cases hb : Region.binds .any e with
            | false => rfl
            | true =>
              have hlt := T.back i _ ho e he hb
              simpa using ih e.on hlt (by omega)
        rw [hnil] at this
        cases this
  intro fuel
  induction fuel with
  | zero =>
    intro listed a w ρ t hsz hcnt I
    have hall : ∀ i, i < ops.size → listed.getD i false = true := by
      intro i hi
      have h0 : ((List.range ops.size).filter fun i => !listed.getD i false) = [] := List.eq_nil_of_length_eq_zero (by omega)
      rw [List.filter_eq_nil_iff] at h0
      have := h0 i (List.mem_range.2 hi)
      simpa using this
    refine ⟨?_, hQ _ _ (I.done W hall)⟩
    cases hr : Region.ready .any ops listed with
    | nil => rfl
    | cons j js =>
      obtain ⟨o, N⟩ := inready listed hsz j (by rw [hr]; simp)
      have := hall j (Array.getElem?_eq_some_iff.1 N.ho).1
      have h2 : listed.getD j false = false := N.hj
      rw [this] at h2; cases h2
  | succ fuel ih =>
    intro listed a w ρ t hsz hcnt I
    refine ⟨fun hnil => hQ _ _ (I.done W (least listed hsz hnil)), fun j hj => ?_⟩
    obtain ⟨o, N⟩ := inready listed hsz j hj
    have hjn := (Array.getElem?_eq_some_iff.1 N.ho).1
    have hset : (fun i => (listed.setIfInBounds j true).getD i false) = lset (fun i => listed.getD i false) j := by
      funext i
      simp only [lset, Array.getD_eq_getD_getElem?]
      rw [Array.getElem?_setIfInBounds]
      by_cases e : i = j
      · subst e; simp [show i < listed.size from by omega]
      · rw [if_neg (fun e' => e e'.symm), if_neg e]
    refine I.step W N (fun a' w' ρ' t' I' => ih _ a' w' ρ' t' (by simp [hsz]) ?_ (by rw [hset]; exact I'))
    have e1 : ((List.range ops.size).filter fun i => !(listed.setIfInBounds j true).getD i false) = ((List.range ops.size).filter fun i => !listed.getD i false).filter fun i => i != j := by
      rw [List.filter_filter]
      apply List.filter_congr
      intro i _
      have : (listed.setIfInBounds j true).getD i false = lset (fun i => listed.getD i false) j i := congrFun hset i
      rw [this]
      simp only [lset]
      by_cases e : i = j
      · subst e; simp
      · simp [e]
    have e2 : (((List.range ops.size).filter fun i => !listed.getD i false).filter fun i => i != j).length < ((List.range ops.size).filter fun i => !listed.getD i false).length := by
      rw [List.length_filter_lt_length_iff_exists]
      refine ⟨j, ?_, by simp⟩
      rw [List.mem_filter, List.mem_range]
      have : listed.getD j false = false := N.hj
      exact ⟨hjn, by rw [this]; rfl⟩
    rw [e1]; omega

/-- **A region whose order is drawn comes to what the text's order comes to.** -/
theorem region_any (W : Way T w0 B ρ0 wS) (hm : P.follows .mixedOrders = true) {id : Nat} {Q : Exit → Act → World → Prop} {w : World} (hw : wS = { w with drawn := w.drawn + 1 }) (hA : ActRel ds P ρ0 (T.s 0).1 a)
    (hQ : ∀ a' w', Post ds P w0 B G ρ0 (T.s 0).2 wS (T.s ops.size).1 (T.s ops.size).2 a' w' → Q .normal a' w') : (Code.region id ops true).wp P Q a w := by
  refine wp_region_any hm ?_
  rw [← hw]
  refine any_sound W hQ ops.size _ a wS ρ0 0 (by simp) ?_ ?_
  · refine Nat.le_trans (List.length_filter_le _ _) (by simp)
  · have e : (fun i => (Array.replicate ops.size false).getD i false) = fun _ => false := by
      funext i
      rw [Array.getD_eq_getD_getElem?, Array.getElem?_replicate]
      split <;> rfl
    rw [e]
    exact Inv.start W hA
end
end Go.Proofs.YthagelbepgcolaaGreatDoor.Gst
/- The abstract run of code, and of calls; it is sound. -/
namespace Go.Proofs.YthagelbepgcolaaGreatDoor.Gst
open Go Go.RowKit
set_option linter.unusedSimpArgs false

/-! ### Regions whose order is drawn -/
def regOK (ops : List Oper) : Bool :=
  let ms := masksOf ops
  ops.zipIdx.all (fun p => p.1.after.toList.all fun e => !Region.binds .any e || decide (e.on < p.2)) &&
  ops.zipIdx.all fun q => (ops.zipIdx.take q.2).all fun p => fb ms p.2 q.2 || (p.1.apart ops.toArray q.1 && !(opK p.1.op == 3 && opK q.1.op == 3))
/-- The readings and the effects whose order is left open. -/
def lookPairs (ops : List Oper) : List (Nat × Nat) :=
  let ms := masksOf ops
  (ops.zipIdx.filter fun p => opK p.1.op == 2).flatMap fun p => ((ops.zipIdx.filter fun q => opK q.1.op == 3 && !fb ms q.2 p.2 && !fb ms p.2 q.2).map fun q => (p.2, q.2))

def stA (P : Program) (G : List Nat) (call : CallF) (ops : Array Oper) (A : List Value) (H : AH) (i : Nat) : List Value × AH := (aOps P G call ops (ops.toList.take i) A H).getD (A, H)
def lookOK (P : Program) (s : Nat → List Value × AH) (ops : Array Oper) (p : Nat × Nat) : Prop :=
  ∀ o, ops[p.1]? = some o → aRd P (aEv (s p.1).1) o.op (s (if p.2 < p.1 then p.2 else p.2 + 1)).2 = aRd P (aEv (s p.1).1) o.op (s p.1).2
open Classical in
/-- This must hold, or the run comes to nothing. -/
noncomputable def chk {α : Type} (p : Prop) (x : Option α) : Option α := if p then x else none
theorem chk_some {α : Type} {p : Prop} {x : Option α} {r : α} (h : chk p x = some r) : p ∧ x = some r := by
  unfold chk at h
  split at h
  · exact ⟨by assumption, h⟩
  · cases h
theorem chk_true {α : Type} {p : Prop} (h : p) (x : Option α) : chk p x = x := by unfold chk; rw [if_pos h]

noncomputable def aDraw (P : Program) (G : List Nat) (call : CallF) (ops : Array Oper) (A : List Value) (H : AH) : Option (List Value × AH) :=
  match regOK ops.toList with
  | false => none
  | true => match lookPairs ops.toList with
    | [] => aOps P G call ops ops.toList A H
    | p :: ps => chk (∀ q ∈ p :: ps, lookOK P (stA P G call ops A H) ops q) (aOps P G call ops ops.toList A H)

theorem aDraw_some {P : Program} {G : List Nat} {call : CallF} {ops : Array Oper} {A : List Value} {H : AH} {r : List Value × AH} (h : aDraw P G call ops A H = some r) :
    regOK ops.toList = true ∧ (∀ p ∈ lookPairs ops.toList, lookOK P (stA P G call ops A H) ops p) ∧ aOps P G call ops ops.toList A H = some r := by
  unfold aDraw at h
  cases h1 : regOK ops.toList with
  | false => rw [h1] at h; cases h
  | true =>
    rw [h1] at h
    refine ⟨rfl, ?_⟩
    cases h2 : lookPairs ops.toList with
    | nil => rw [h2] at h; exact ⟨fun p hp => (by cases hp), h⟩
    | cons p ps =>
      rw [h2] at h
      exact chk_some h

section
variable {ds : List Deferred} {P : Program} {w0 : World} {B : Nat} {ρ : Ren} {H : AH} {w : World} {G : List Nat} {call : CallF} {ops : Array Oper}

theorem aOps_append (l1 l2 : List Oper) (A : List Value) (H : AH) : aOps P G call ops (l1 ++ l2) A H = (aOps P G call ops l1 A H).bind fun s => aOps P G call ops l2 s.1 s.2 := by
  induction l1 generalizing A H with
  | nil => rfl
  | cons o l ih =>
    simp only [List.cons_append, aOps]
    rw [Option.bind_assoc]
    congr 1
    funext s
    exact ih s.1 s.2

theorem stA_take {A : List Value} {r : List Value × AH} (h : aOps P G call ops ops.toList A H = some r) (i : Nat) : aOps P G call ops (ops.toList.take i) A H = some (stA P G call ops A H i) := by
  unfold stA
  have e : ops.toList = ops.toList.take i ++ ops.toList.drop i := (List.take_append_drop ..).symm
  rw [e, aOps_append] at h
  obtain ⟨s, hs, _⟩ := Option.bind_eq_some_iff.1 h
  rw [hs]; rfl

theorem stA_zero (A : List Value) : stA P G call ops A H 0 = (A, H) := rfl
theorem stA_all {A : List Value} {r : List Value × AH} (h : aOps P G call ops ops.toList A H = some r) : stA P G call ops A H ops.size = r := by
  unfold stA
  rw [show ops.size = ops.toList.length by simp, List.take_length, h]
  rfl

theorem stA_step {A : List Value} {r : List Value × AH} (h : aOps P G call ops ops.toList A H = some r) {i : Nat} {o : Oper} (ho : ops[i]? = some o) :
    aStep P G call ops o (stA P G call ops A H i).1 (stA P G call ops A H i).2 = some (stA P G call ops A H (i + 1)) := by
  have ho' : ops.toList[i]? = some o := by simpa using ho
  have h1 := stA_take h (i + 1)
  rw [List.take_add_one, ho', Option.toList_some, aOps_append, stA_take h i] at h1
  simp only [Option.bind_some, aOps] at h1
  obtain ⟨s, hs, e⟩ := Option.bind_eq_some_iff.1 h1
  rw [hs]
  exact e

/-- What the slot of an operation is given. -/
noncomputable def valA (P : Program) (G : List Nat) (call : CallF) (ops : Array Oper) (A : List Value) (H : AH) (i : Nat) : Value :=
  match ops[i]? with
  | some o => if Region.wanted o (aYield ops (stA P G call ops A H i).1) = true then ((aOp P call (aEv (stA P G call ops A H i).1) o (stA P G call ops A H i).2).map (·.1)).getD undef else undef
  | none => undef

theorem regOK_back (h : regOK ops.toList = true) : ∀ j o, ops[j]? = some o → ∀ e ∈ o.after, Region.binds .any e = true → e.on < j := by
  intro j o ho e he hb
  unfold regOK at h
  simp only [Bool.and_eq_true, List.all_eq_true] at h
  have ho' : ops.toList[j]? = some o := by simpa using ho
  have hm : (o, j) ∈ ops.toList.zipIdx := by
    rw [List.mem_iff_getElem?]
    exact ⟨j, by rw [List.getElem?_zipIdx, ho']; simp⟩
  have := h.1 (o, j) hm e (by simpa using he)
  simpa [hb] using this

theorem regOK_pair (h : regOK ops.toList = true) : ∀ i j oi oj, i < j → ops[i]? = some oi → ops[j]? = some oj → fb (masksOf ops.toList) i j = true ∨ (oi.apart ops oj = true ∧ ¬ (opK oi.op = 3 ∧ opK oj.op = 3)) := by
  intro i j oi oj hij hi hj
  unfold regOK at h
  simp only [Bool.and_eq_true, List.all_eq_true] at h
  have hi' : ops.toList[i]? = some oi := by simpa using hi
  have hj' : ops.toList[j]? = some oj := by simpa using hj
  have hm : (oj, j) ∈ ops.toList.zipIdx := by
    rw [List.mem_iff_getElem?]
    exact ⟨j, by rw [List.getElem?_zipIdx, hj']; simp⟩
  have hm2 : (oi, i) ∈ ops.toList.zipIdx.take j := by
    rw [List.mem_iff_getElem?]
    exact ⟨i, by rw [List.getElem?_take, if_pos hij, List.getElem?_zipIdx, hi']; simp⟩
  have := h.2 (oj, j) hm (oi, i) hm2
  simp only [Bool.or_eq_true, Bool.and_eq_true, Bool.not_eq_true', Bool.and_eq_false_iff, beq_eq_false_iff_ne, Array.toArray_toList] at this
  rcases this with h1 | ⟨h1, h2⟩
  · exact .inl h1
  · exact .inr ⟨h1, fun h3 => by rcases h2 with h2 | h2; exact h2 h3.1; exact h2 h3.2⟩

theorem mem_lookPairs {j e : Nat} {oj oe : Oper} (hj : ops[j]? = some oj) (he : ops[e]? = some oe) (h2 : opK oj.op = 2) (h3 : opK oe.op = 3) (hf1 : fb (masksOf ops.toList) e j = false) (hf2 : fb (masksOf ops.toList) j e = false) : (j, e) ∈ lookPairs ops.toList := by
  have hj' : ops.toList[j]? = some oj := by simpa using hj
  have he' : ops.toList[e]? = some oe := by simpa using he
  unfold lookPairs
  simp only [List.mem_flatMap, List.mem_filter, List.mem_map]
  refine ⟨(oj, j), ⟨?_, by simp [h2]⟩, (oe, e), ⟨?_, by simp [h3, hf1, hf2]⟩, rfl⟩
  · rw [List.mem_iff_getElem?]; exact ⟨j, by rw [List.getElem?_zipIdx, hj']; simp⟩
  · rw [List.mem_iff_getElem?]; exact ⟨e, by rw [List.getElem?_zipIdx, he']; simp⟩

/-- The trace of a region that has been gone. -/
noncomputable def mkTra {A : List Value} {r : List Value × AH} (h : aDraw P G call ops A H = some r) : Tra P G call ops where
  s := stA P G call ops A H
  val := valA P G call ops A H
  step := fun i o ho => by
    obtain ⟨_, _, hr⟩ := aDraw_some h
    have hs := stA_step hr ho
    unfold aStep at hs
    split at hs
    · rename_i hok
      refine ⟨hok, ?_⟩
      unfold valA
      rw [ho]
      simp only
      split at hs
      · rename_i hw
        obtain ⟨⟨v, H2⟩, hv, e⟩ := Option.map_eq_some_iff.1 hs
        rw [if_pos hw, hv, ← e]
        exact ⟨rfl, .inl ⟨hw, rfl⟩⟩
      · rename_i hw
        rw [if_neg hw]
        have e := (Option.some.inj hs).symm
        rw [e]
        exact ⟨rfl, .inr ⟨by simpa using hw, rfl, rfl⟩⟩
    · cases hs
  back := regOK_back (aDraw_some h).1
  pair := regOK_pair (aDraw_some h).1
  look := fun j e oj oe hj he h2 h3 hf1 hf2 => (aDraw_some h).2.1 (j, e) (mem_lookPairs hj he h2 h3 hf1 hf2) oj hj

theorem draw_sound (hcall : CallOK P G call) (hmono : CallMono call) (hm : P.follows .mixedOrders = true) {id : Nat} {Q : Exit → Act → World → Prop} {A : List Value} {a : Act} {A' : List Value} {H' : AH} (h : aDraw P G call ops A H = some (A', H'))
    (hA : ActRel ds P ρ A a) (hG : GlobRel ρ G) (hR : Rel P w0 B ρ H w) (hQ : ∀ a' w', Post ds P w0 B G ρ H w A' H' a' w' → Q .normal a' w') : (Code.region id ops true).wp P Q a w := by
  have W : Way (mkTra h) w0 B ρ w.drew := ⟨hcall, hmono, hG, hR.drew, ⟨ds, a, hA⟩⟩
  refine region_any W hm (w := w) rfl hA (fun a' w' hp => hQ a' w' ?_)
  obtain ⟨ρ', h1, h2, h3, h4⟩ := hp
  have e : (mkTra h).s ops.size = (A', H') := stA_all (aDraw_some h).2.2
  rw [e] at h1 h3 h4
  exact ⟨ρ', h1, h2, Ext.of_drew h3, h4⟩
end

/-! ### Code -/
inductive AE where
  | normal
  | exit (id : Nat)
  | ret
deriving DecidableEq

abbrev AR := AE × List Value × AH

def aIter (f : List Value → AH → Option AR) : Nat → List Value → AH → Option AR
  | 0, _, _ => none
  | n + 1, A, H => (f A H).bind fun r => match r.1 with
    | .normal => aIter f n r.2.1 r.2.2
    | _ => some r

theorem aIter_mono {f : List Value → AH → Option AR} {n : Nat} {A : List Value} {H : AH} {r : AR} (h : aIter f n A H = some r) : ∀ m, n ≤ m → aIter f m A H = some r := by
  induction n generalizing A H with
  | zero => cases h
  | succ n ih =>
    intro m hm
    obtain ⟨m, rfl⟩ : ∃ k, m = k + 1 := ⟨m - 1, by omega⟩
    simp only [aIter] at h ⊢
    obtain ⟨s, hs, h⟩ := Option.bind_eq_some_iff.1 h
    rw [hs]
    simp only [Option.bind_some]
    split at h
    · exact ih h m (by omega)
    · exact h

open Classical in
/-- The rounds of a loop, as many as it takes. -/
noncomputable def aLoop (f : List Value → AH → Option AR) (A : List Value) (H : AH) : Option AR := if h : ∃ n r, aIter f n A H = some r then some h.choose_spec.choose else none

theorem aLoop_iff {f : List Value → AH → Option AR} {A : List Value} {H : AH} {r : AR} : aLoop f A H = some r ↔ ∃ n, aIter f n A H = some r := by
  unfold aLoop
  constructor
  · intro h
    split at h
    · rename_i hx
      cases h
      exact ⟨_, hx.choose_spec.choose_spec⟩
    · cases h
  · rintro ⟨n, hn⟩
    have hx : ∃ n r, aIter f n A H = some r := ⟨n, r, hn⟩
    rw [dif_pos hx]
    have h1 := aIter_mono hx.choose_spec.choose_spec (max n hx.choose) (Nat.le_max_right ..)
    have h2 := aIter_mono hn (max n hx.choose) (Nat.le_max_left ..)
    rw [h2] at h1
    exact h1.symm

theorem aLoop_eq (f : List Value → AH → Option AR) (A : List Value) (H : AH) : aLoop f A H = (f A H).bind fun r => match r.1 with | .normal => aLoop f r.2.1 r.2.2 | _ => some r := by
  apply Option.ext
  intro r
  rw [aLoop_iff]
  constructor
  · rintro ⟨n, hn⟩
    cases n with
    | zero => cases hn
    | succ n =>
      simp only [aIter] at hn
      obtain ⟨s, hs, h⟩ := Option.bind_eq_some_iff.1 hn
      rw [hs]
      simp only [Option.bind_some]
      split at h
      · exact aLoop_iff.2 ⟨n, h⟩
      · exact h
  · intro h
    obtain ⟨s, hs, h⟩ := Option.bind_eq_some_iff.1 h
    split at h
    · rename_i e
      obtain ⟨n, hn⟩ := aLoop_iff.1 h
      refine ⟨n + 1, ?_⟩
      simp only [aIter, hs, Option.bind_some, e]
      exact hn
    · rename_i e
      refine ⟨1, ?_⟩
      simp only [aIter, hs, Option.bind_some]
      exact h

noncomputable def aRegion (P : Program) (G : List Nat) (call : CallF) (ops : Array Oper) (draw : Bool) (A : List Value) (H : AH) : Option (List Value × AH) :=
  match draw with
  | true => aDraw P G call ops A H
  | false => aOps P G call ops ops.toList A H

noncomputable def aCode (P : Program) (G : List Nat) (call : CallF) : Code → List Value → AH → Option AR
  | .skip, A, H => some (.normal, A, H)
  | .label _, A, H => some (.normal, A, H)
  | .region _ ops draw, A, H => (aRegion P G call ops draw A H).map fun s => (.normal, s.1, s.2)
  | .seq x y, A, H => (aCode P G call x A H).bind fun r => match r.1 with
    | .normal => aCode P G call y r.2.1 r.2.2
    | _ => some r
  | .cond c x y, A, H => match aEv A c with
    | .bool true => aCode P G call x A H
    | .bool false => aCode P G call y A H
    | _ => none
  | .block id x, A, H => (aCode P G call x A H).map fun r => match r.1 with
    | .exit i => if i = id then (.normal, r.2.1, r.2.2) else r
    | _ => r
  | .loop x, A, H => aLoop (aCode P G call x) A H
  | .exit id, A, H => some (.exit id, A, H)
  | .ret, A, H => some (.ret, A, H)
  | _, _, _ => none

def AE.to : AE → Exit
  | .normal => .normal
  | .exit id => .exit id
  | .ret => .ret

section
variable {ds : List Deferred} {P : Program} {w0 : World} {B : Nat} {G : List Nat} {call : CallF}

theorem Post.trans {ρ ρ1 : Ren} {H H1 H2 : AH} {w w1 w2 : World} {A2 : List Value} {a2 : Act} (hR : Rel P w0 B ρ H w) (hE : Ext ρ H w ρ1 H1 w1) (h : Post ds P w0 B G ρ1 H1 w1 A2 H2 a2 w2) : Post ds P w0 B G ρ H w A2 H2 a2 w2 := by
  obtain ⟨ρ', h1, h2, h3, h4⟩ := h
  exact ⟨ρ', h1, h2, hE.trans hR h3, h4⟩

theorem code_sound (hcall : CallOK P G call) (hmono : CallMono call) (hm : P.follows .mixedOrders = true) : ∀ (c : Code) {Q : Exit → Act → World → Prop} {ρ : Ren} {A : List Value} {H : AH} {a : Act} {w : World} {e : AE} {A' : List Value} {H' : AH},
    aCode P G call c A H = some (e, A', H') → ActRel ds P ρ A a → GlobRel ρ G → Rel P w0 B ρ H w → (∀ a' w', Post ds P w0 B G ρ H w A' H' a' w' → Q e.to a' w') → c.wp P Q a w := by
  intro c
  induction c with
  | skip =>
    intro Q ρ A H a w e A' H' h hA hG hR hQ
    simp only [aCode] at h; cases h
    exact wp_skip (hQ a w ⟨ρ, hA, hG, Ext.refl _ _ _, hR⟩)
  | label l =>
    intro Q ρ A H a w e A' H' h hA hG hR hQ
    simp only [aCode] at h; cases h
    exact wp_label (hQ a w ⟨ρ, hA, hG, Ext.refl _ _ _, hR⟩)
  | exit id =>
    intro Q ρ A H a w e A' H' h hA hG hR hQ
    simp only [aCode] at h; cases h
    exact wp_exit (hQ a w ⟨ρ, hA, hG, Ext.refl _ _ _, hR⟩)
  | ret =>
    intro Q ρ A H a w e A' H' h hA hG hR hQ
    simp only [aCode] at h; cases h
    exact wp_ret (hQ a w ⟨ρ, hA, hG, Ext.refl _ _ _, hR⟩)
  | region id ops draw =>
    intro Q ρ A H a w e A' H' h hA hG hR hQ
    simp only [aCode] at h
    obtain ⟨⟨A1, H1⟩, hs, e1⟩ := Option.map_eq_some_iff.1 h
    cases e1
    cases draw with
    | true => exact draw_sound hcall hmono hm hs hA hG hR hQ
    | false => exact region_text hcall hs hA hG hR hQ
  | seq x y ihx ihy =>
    intro Q ρ A H a w e A' H' h hA hG hR hQ
    simp only [aCode] at h
    obtain ⟨⟨e1, A1, H1⟩, hx, h⟩ := Option.bind_eq_some_iff.1 h
    refine wp_seq (ihx hx hA hG hR (fun a1 w1 hp => ?_))
    cases e1 with
    | normal =>
      simp only at h
      obtain ⟨ρ1, hA1, hG1, hE1, hR1⟩ := hp
      exact ihy h hA1 hG1 hR1 (fun a' w' hp => hQ a' w' (hp.trans hR hE1))
    | exit id => simp only at h; cases h; exact hQ a1 w1 hp
    | ret => simp only at h; cases h; exact hQ a1 w1 hp
  | cond c x y ihx ihy =>
    intro Q ρ A H a w e A' H' h hA hG hR hQ
    simp only [aCode] at h
    have hc : ∀ t, aEv A c = .bool t → a.eval c = .bool t := by
      intro t ht
      cases c with
      | tmp u =>
        simp only [aEv] at ht
        cases hx : A[u]? with
        | none => rw [hx] at ht; simp [undef] at ht
        | some x =>
          rw [hx] at ht
          simp only [Option.getD_some] at ht
          subst ht
          obtain ⟨y, hy, hv⟩ := hA.tmps.get hx
          rw [Array.getElem?_toList] at hy
          simp only [Act.eval, Array.getD_eq_getD_getElem?, hy, Option.getD_some]
          exact hv.bool_inv
      | const v => exact ht
      | global g => cases ht
      | func f => cases ht
    split at h
    · rename_i ht; exact wp_cond (hc _ ht) (ihx h hA hG hR hQ)
    · rename_i ht; exact wp_cond (hc _ ht) (ihy h hA hG hR hQ)
    · cases h
  | block id x ih =>
    intro Q ρ A H a w e A' H' h hA hG hR hQ
    simp only [aCode] at h
    obtain ⟨⟨e1, A1, H1⟩, hx, e2⟩ := Option.map_eq_some_iff.1 h
    refine wp_block (ih hx hA hG hR (fun a1 w1 hp => ?_))
    cases e1 with
    | normal => simp only at e2; cases e2; exact hQ a1 w1 hp
    | ret => simp only at e2; cases e2; exact hQ a1 w1 hp
    | exit i =>
      simp only at e2
      simp only [AE.to, Exit.inBlock]
      split at e2
      · rename_i hi; cases e2; rw [if_pos hi]; exact hQ a1 w1 hp
      · rename_i hi; cases e2; rw [if_neg hi]; exact hQ a1 w1 hp
  | loop x ih =>
    intro Q ρ A H a w e A' H' h hA hG hR hQ
    simp only [aCode] at h
    obtain ⟨n, hn⟩ := aLoop_iff.1 h
    refine wp_loop_rounds n ?_
    clear h
    induction n generalizing ρ A H a w with
    | zero => cases hn
    | succ n ihn =>
      simp only [aIter] at hn
      obtain ⟨⟨e1, A1, H1⟩, hx, h⟩ := Option.bind_eq_some_iff.1 hn
      rw [rounds_succ]
      refine ih hx hA hG hR (fun a1 w1 hp => ?_)
      cases e1 with
      | normal =>
        simp only at h
        obtain ⟨ρ1, hA1, hG1, hE1, hR1⟩ := hp
        exact ihn hA1 hG1 hR1 (fun a' w' hp => hQ a' w' (hp.trans hR hE1)) h
      | exit id => simp only at h; cases h; exact hQ a1 w1 hp
      | ret => simp only at h; cases h; exact hQ a1 w1 hp
  | rangeFunc f ps x y => intro Q ρ A H a w e A' H' h; simp [aCode] at h
  | scope x => intro Q ρ A H a w e A' H' h; simp [aCode] at h
  | goto l => intro Q ρ A H a w e A' H' h; simp [aCode] at h
  | refuse s => intro Q ρ A H a w e A' H' h; simp [aCode] at h

theorem aOps_mono (hm : CallMono call) {ops : Array Oper} : ∀ (l : List Oper) {A : List Value} {H : AH} {r : List Value × AH}, aOps P G call ops l A H = some r → H.size ≤ r.2.size := by
  intro l
  induction l with
  | nil => intro A H r h; simp only [aOps] at h; cases h; exact Nat.le_refl _
  | cons o l ih =>
    intro A H r h
    simp only [aOps] at h
    obtain ⟨s, hs, h⟩ := Option.bind_eq_some_iff.1 h
    refine Nat.le_trans ?_ (ih h)
    unfold aStep at hs
    split at hs
    · split at hs
      · obtain ⟨⟨v, H2⟩, hv, e⟩ := Option.map_eq_some_iff.1 hs
        cases e; exact aOp_mono hm hv
      · cases hs; exact Nat.le_refl _
    · cases hs

theorem aCode_mono (hm : CallMono call) : ∀ (c : Code) {A : List Value} {H : AH} {r : AR}, aCode P G call c A H = some r → H.size ≤ r.2.2.size := by
  intro c
  induction c with
  | skip => intro A H r h; simp only [aCode] at h; cases h; exact Nat.le_refl _
  | label l => intro A H r h; simp only [aCode] at h; cases h; exact Nat.le_refl _
  | exit id => intro A H r h; simp only [aCode] at h; cases h; exact Nat.le_refl _
  | ret => intro A H r h; simp only [aCode] at h; cases h; exact Nat.le_refl _
  | region id ops draw =>
    intro A H r h
    simp only [aCode] at h
    obtain ⟨s, hs, e1⟩ := Option.map_eq_some_iff.1 h
    cases e1
    cases draw with
    | true => exact aOps_mono hm _ (aDraw_some hs).2.2
    | false => exact aOps_mono hm _ hs
  | seq x y ihx ihy =>
    intro A H r h
    simp only [aCode] at h
    obtain ⟨s, hx, h⟩ := Option.bind_eq_some_iff.1 h
    have h1 := ihx hx
    split at h
    · exact Nat.le_trans h1 (ihy h)
    · cases h; exact h1
  | cond c x y ihx ihy =>
    intro A H r h
    simp only [aCode] at h
    split at h
    · exact ihx h
    · exact ihy h
    · cases h
  | block id x ih =>
    intro A H r h
    simp only [aCode] at h
    obtain ⟨s, hx, e2⟩ := Option.map_eq_some_iff.1 h
    have h1 := ih hx
    split at e2
    · split at e2 <;> (subst e2; exact h1)
    · subst e2; exact h1
  | loop x ih =>
    intro A H r h
    simp only [aCode] at h
    obtain ⟨n, hn⟩ := aLoop_iff.1 h
    clear h
    induction n generalizing A H with
    | zero => cases hn
    | succ n ihn =>
      simp only [aIter] at hn
      obtain ⟨s, hx, h⟩ := Option.bind_eq_some_iff.1 hn
      have h1 := ih hx
      split at h
      · exact Nat.le_trans h1 (ihn h)
      · cases h; exact h1
  | rangeFunc f ps x y => intro A H r h; simp [aCode] at h
  | scope x => intro A H r h; simp [aCode] at h
  | goto l => intro A H r h; simp [aCode] at h
  | refuse s => intro A H r h; simp [aCode] at h
end
end Go.Proofs.YthagelbepgcolaaGreatDoor.Gst
/- Calls: results; a function that defers a closure; more depth tells no other thing. -/
namespace Go.Proofs.YthagelbepgcolaaGreatDoor.Gst
open Go Go.RowKit
set_option linter.unusedSimpArgs false

/-- A result. -/
def aResult (P : Program) (A : List Value) (H : AH) : ResultVar → Option Value
  | .tmp t => some (A[t]?.getD undef)
  | .cell a t => (aggOf P t).bind fun g => match g with
    | some n => pLdN n (A[a]?.getD undef) H
    | none => pLd1 (A[a]?.getD undef) H
def aMany (P : Program) (A : List Value) (H : AH) : List ResultVar → Option (List Value)
  | [] => some []
  | r :: rs => (aResult P A H r).bind fun v => (aMany P A H rs).bind fun vs => some (v :: vs)
def aResults (P : Program) (A : List Value) (H : AH) (rs : List ResultVar) : Option Value := (aMany P A H rs).map fun vs => match vs with
  | [v] => v
  | vs => .tuple vs.toArray

def aFin (P : Program) (rs : List ResultVar) (r : AR) : Option (Value × AH) :=
  match r.1 with
  | .exit _ => none
  | _ => (aResults P r.2.1 r.2.2 rs).map (·, r.2.2)

/-- The body of a function, entered with these values. -/
noncomputable def aBody (P : Program) (G : List Nat) (call : CallF) (n : Nat) (rs : List ResultVar) (c : Code) (args : List Value) (H : AH) : Option (Value × AH) :=
  (aCode P G call c (args ++ List.replicate (n - args.length) undef) H).bind (aFin P rs)

/-! ### A function that defers one closure, which does nothing where nothing panics -/
structure DSh where
  c1 : Code
  id2 : Nat
  ops2 : Array Oper
  om : Oper
  df : Oper
  t : Nat
  k : Nat
  id3 : Nat
  ops3 : Array Oper
def dshape : Code → Option DSh
  | .seq c1 (.seq (.region id2 ops2 false) (.seq (.region id3 ops3 false) .ret)) => match ops2.toList with
    | [mk, df] => match mk.dst, mk.op, mk.guard, df.dst, df.op, df.guard with
      | some t, .makeFunc (.func k) first _, none, none, .defer ⟨.value (.tmp t'), args, _⟩, none => if t = t' ∧ first = #[] ∧ args = #[] then some ⟨c1, id2, ops2, mk, df, t, k, id3, ops3⟩ else none
      | _, _, _, _, _, _ => none
    | _ => none
  | _ => none
theorem dshape_some {c : Code} {s : DSh} (h : dshape c = some s) : c = .seq s.c1 (.seq (.region s.id2 s.ops2 false) (.seq (.region s.id3 s.ops3 false) .ret)) ∧ s.ops2.toList = [s.om, s.df] ∧ s.om.dst = some s.t ∧
    (∃ cap, s.om.op = .makeFunc (.func s.k) #[] cap) ∧ s.om.guard = none ∧ s.df.dst = none ∧ (∃ ats, s.df.op = .defer ⟨.value (.tmp s.t), #[], ats⟩) ∧ s.df.guard = none := by
  unfold dshape at h
  split at h
  · split at h
    · rename_i hl
      split at h
      · rename_i h1 h2 h3 h4 h5 h6
        split at h
        · rename_i hc
          obtain ⟨rfl, rfl, rfl⟩ := hc
          cases h
          exact ⟨rfl, hl, h1, ⟨_, h2⟩, h3, h4, ⟨_, h5⟩, h6⟩
        · cases h
      · cases h
    · cases h
  · cases h
/-- Called when the one that deferred it returns, it returns, and nothing has changed. -/
def Harmless (P : Program) (k : Nat) : Prop :=
  (∃ fn, P.funcs[k]? = some fn ∧ fn.body.isSome = true ∧ fn.name ≠ "runtime.NumGoroutine") ∧
  ∀ (args : Array Value) (w : World), CallsD P k args .returning w fun e u' w' => (∃ v, e = .returned v) ∧ u' = .returning ∧ w' = w
noncomputable def aDefer (P : Program) (G : List Nat) (call : CallF) (n : Nat) (rs : List ResultVar) (s : DSh) (args : List Value) (H : AH) : Option (Value × AH) :=
  (aCode P G call s.c1 (args ++ List.replicate (n - args.length) undef) H).bind fun r => match r.1 with
    | .normal => if r.2.1.length ≤ s.t then none else (aStep P G call s.ops2 s.om r.2.1 r.2.2).bind fun q => (aOps P G call s.ops3 s.ops3.toList q.1 q.2).bind fun z => (aResults P z.1 z.2 rs).map (·, z.2)
    | _ => none

noncomputable def aCall (P : Program) (G : List Nat) : Nat → CallF
  | 0 => fun _ _ _ => none
  | d + 1 => fun f args H => match P.funcs[f]? with
    | some fn => if fn.name = "runtime.NumGoroutine" then none else match fn.body with
      | some c => match dshape c with
        | none => aBody P G (aCall P G d) fn.ntmps fn.results.toList c args H
        | some s => chk (Harmless P s.k) (aDefer P G (aCall P G d) fn.ntmps fn.results.toList s args H)
      | none => none
    | none => none

section
variable {ds : List Deferred} {P : Program} {w0 : World} {B : Nat} {ρ : Ren} {H : AH} {w : World} {G : List Nat} {call : CallF}

theorem result_run {A : List Value} {a : Act} (hA : ActRel ds P ρ A a) (hR : Rel P w0 B ρ H w) {r : ResultVar} {v : Value} (h : aResult P A H r = some v) :
    ∃ v', (match r with | .tmp t => pure (a.tmps.getD t undef) | .cell x t => do loadVar t (← asAddr (a.tmps.getD x undef)) : Sem Value).run P w = .ok v' w ∧ VRel P ρ v v' := by
  have slot : ∀ t, VRel P ρ (A[t]?.getD undef) (a.tmps.getD t undef) := fun t => ev_rel (G := []) hA (fun g hg => by simp at hg) (x := .tmp t) rfl
  cases r with
  | tmp t => simp only [aResult] at h; cases h; exact ⟨_, rfl, slot t⟩
  | cell x t =>
    simp only [aResult] at h
    obtain ⟨g, hg, h⟩ := Option.bind_eq_some_iff.1 h
    cases g with
    | none =>
      obtain ⟨a', y', ha, hr, hv⟩ := load1 hR h (slot x)
      refine ⟨y', ?_, hv⟩
      simp only [ha]
      simp [asAddr, loadVar, aggOf_none hg]
      simpa using hr
    | some n =>
      obtain ⟨a', ys, ha, hr, hv⟩ := loadN hR h (slot x)
      obtain ⟨hag, hsz⟩ := aggOf_some hg w
      refine ⟨.agg ys, ?_, hv⟩
      simp only [ha]
      simp [asAddr, loadVar, hag, szOf_run hsz, hr]

theorem many_run {A : List Value} {a : Act} (hA : ActRel ds P ρ A a) (hR : Rel P w0 B ρ H w) : ∀ {rs : List ResultVar} {vs : List Value}, aMany P A H rs = some vs →
    ∃ vs', (rs.mapM (fun r => (match r with | .tmp t => pure (a.tmps.getD t undef) | .cell x t => do loadVar t (← asAddr (a.tmps.getD x undef)) : Sem Value))).run P w = .ok vs' w ∧ LRel P ρ vs vs' := by
  intro rs
  induction rs with
  | nil => intro vs h; simp only [aMany] at h; cases h; exact ⟨[], rfl, LRel.nil⟩
  | cons r rs ih =>
    intro vs h
    simp only [aMany] at h
    obtain ⟨v, hv, h⟩ := Option.bind_eq_some_iff.1 h
    obtain ⟨vs0, hvs, h⟩ := Option.bind_eq_some_iff.1 h
    cases h
    obtain ⟨v', hr, hv'⟩ := result_run hA hR hv
    obtain ⟨vs', hrs, hvs'⟩ := ih hvs
    refine ⟨v' :: vs', ?_, hvs'.cons hv'⟩
    rw [List.mapM_cons]
    simp only [Sem.run_bind, hr, Result.andThen_ok, hrs, Sem.run_pure]

theorem results_run {A : List Value} {a : Act} (hA : ActRel ds P ρ A a) (hR : Rel P w0 B ρ H w) {fn : Func} {v : Value} (h : aResults P A H fn.results.toList = some v) :
    ∃ v', (results fn a.tmps).run P w = .ok v' w ∧ VRel P ρ v v' := by
  unfold aResults at h
  obtain ⟨vs, hvs, e⟩ := Option.map_eq_some_iff.1 h
  obtain ⟨vs', hrun, hl⟩ := many_run hA hR hvs
  have hm : ∀ g : ResultVar → Sem Value, (fn.results.mapM g).run P w = ((fn.results.toList.mapM g >>= fun l => pure l.toArray : Sem (Array Value))).run P w := by
    intro g
    rw [Array.mapM_eq_mapM_toList]
    rfl
  have h2 : (results fn a.tmps).run P w = .ok (if h : vs'.toArray.size = 1 then vs'.toArray[0] else .tuple vs'.toArray) w := by
    unfold results
    rw [Sem.run_bind, hm, Sem.run_bind]
    erw [hrun]
    rfl
  refine ⟨_, h2, ?_⟩
  have hlen := hl.1
  split at e
  · rename_i x
    subst e
    match vs', hlen, hl with
    | [y], _, hl => simpa using hl.2 0 _ _ rfl rfl
  · rename_i hne
    subst e
    have : ¬ vs'.toArray.size = 1 := by
      intro h1
      match vs, hlen, hne with
      | [x], _, hne => exact hne x rfl
      | [], hlen, _ => simp at hlen h1; omega
      | x :: y :: zs, hlen, _ => simp at hlen h1; omega
    rw [dif_neg this]
    exact .tuple (by simp [hlen]) (fun i x y hx hy => hl.2 i x y (by simpa using hx) (by simpa using hy))

end

/-! ### More depth tells no other thing -/
def CLe (c1 c2 : CallF) : Prop := ∀ f args H r, c1 f args H = some r → c2 f args H = some r

section
variable {P : Program} {G : List Nat} {c1 c2 : CallF}

theorem aOp_le (h : CLe c1 c2) {ev : Operand → Value} {o : Oper} {H : AH} {r : Value × AH} (hr : aOp P c1 ev o H = some r) : aOp P c2 ev o H = some r := by
  obtain ⟨dst, op, type, pos, after, guard⟩ := o
  cases op with
  | call c =>
    obtain ⟨callee, args, ats⟩ := c
    cases callee with
    | value f =>
      simp only [aOp] at hr ⊢
      obtain ⟨x, hx, hr⟩ := Option.bind_eq_some_iff.1 hr
      rw [hx]
      exact h _ _ _ _ hr
    | invoke r m => exact hr
    | builtin b => exact hr
  | makeMap t r => cases r <;> exact hr
  | slice t x lo hi mx => cases lo <;> cases hi <;> cases mx <;> exact hr
  | _ => exact hr

theorem aStep_le (h : CLe c1 c2) {ops : Array Oper} {o : Oper} {A : List Value} {H : AH} {r : List Value × AH} (hr : aStep P G c1 ops o A H = some r) : aStep P G c2 ops o A H = some r := by
  unfold aStep at hr ⊢
  split at hr
  · rename_i hok
    rw [if_pos hok]
    split at hr
    · rename_i hw
      rw [if_pos hw]
      obtain ⟨x, hx, e⟩ := Option.map_eq_some_iff.1 hr
      rw [aOp_le h hx]
      exact congrArg some e
    · rename_i hw
      rw [if_neg hw]
      exact hr
  · cases hr

theorem aOps_le (h : CLe c1 c2) {ops : Array Oper} : ∀ (l : List Oper) {A : List Value} {H : AH} {r : List Value × AH}, aOps P G c1 ops l A H = some r → aOps P G c2 ops l A H = some r := by
  intro l
  induction l with
  | nil => intro A H r hr; exact hr
  | cons o l ih =>
    intro A H r hr
    simp only [aOps] at hr ⊢
    obtain ⟨s, hs, hr⟩ := Option.bind_eq_some_iff.1 hr
    rw [aStep_le h hs]
    exact ih hr

theorem stA_le (h : CLe c1 c2) {ops : Array Oper} {A : List Value} {H : AH} {r : List Value × AH} (hr : aOps P G c1 ops ops.toList A H = some r) : stA P G c2 ops A H = stA P G c1 ops A H := by
  funext i
  have h1 := aOps_le h _ (stA_take hr i)
  unfold stA at h1 ⊢
  rw [h1]; rfl

theorem aDraw_le (h : CLe c1 c2) {ops : Array Oper} {A : List Value} {H : AH} {r : List Value × AH} (hr : aDraw P G c1 ops A H = some r) : aDraw P G c2 ops A H = some r := by
  obtain ⟨h1, h2, h3⟩ := aDraw_some hr
  unfold aDraw
  rw [h1]
  simp only
  cases h4 : lookPairs ops.toList with
  | nil => exact aOps_le h _ h3
  | cons p ps =>
    simp only
    rw [chk_true ?_]
    · exact aOps_le h _ h3
    · rw [stA_le h h3, ← h4]; exact h2

theorem aCode_le (h : CLe c1 c2) : ∀ (c : Code) {A : List Value} {H : AH} {r : AR}, aCode P G c1 c A H = some r → aCode P G c2 c A H = some r := by
  intro c
  induction c with
  | region id ops draw =>
    intro A H r hr
    simp only [aCode] at hr ⊢
    obtain ⟨s, hs, e1⟩ := Option.map_eq_some_iff.1 hr
    have : aRegion P G c2 ops draw A H = some s := by
      cases draw with
      | true => exact aDraw_le h hs
      | false => exact aOps_le h _ hs
    rw [this]; exact congrArg some e1
  | seq x y ihx ihy =>
    intro A H r hr
    simp only [aCode] at hr ⊢
    obtain ⟨s, hx, hr⟩ := Option.bind_eq_some_iff.1 hr
    rw [ihx hx]
    simp only [Option.bind_some]
    split at hr
    · exact ihy hr
    · exact hr
  | cond c x y ihx ihy =>
    intro A H r hr
    simp only [aCode] at hr ⊢
    split at hr
    · exact ihx hr
    · exact ihy hr
    · cases hr
  | block id x ih =>
    intro A H r hr
    simp only [aCode] at hr ⊢
    obtain ⟨s, hx, e2⟩ := Option.map_eq_some_iff.1 hr
    rw [ih hx]; exact congrArg some e2
  | loop x ih =>
    intro A H r hr
    simp only [aCode] at hr ⊢
    obtain ⟨n, hn⟩ := aLoop_iff.1 hr
    refine aLoop_iff.2 ⟨n, ?_⟩
    clear hr
    induction n generalizing A H with
    | zero => cases hn
    | succ n ihn =>
      simp only [aIter] at hn ⊢
      obtain ⟨s, hx, hr⟩ := Option.bind_eq_some_iff.1 hn
      rw [ih hx]
      simp only [Option.bind_some]
      split at hr
      · exact ihn hr
      · exact hr
  | _ => intro A H r hr; exact hr

theorem aBody_le (h : CLe c1 c2) {n : Nat} {rs : List ResultVar} {c : Code} {args : List Value} {H : AH} {r : Value × AH} (hr : aBody P G c1 n rs c args H = some r) : aBody P G c2 n rs c args H = some r := by
  unfold aBody at hr ⊢
  obtain ⟨s, hs, hr⟩ := Option.bind_eq_some_iff.1 hr
  rw [aCode_le h _ hs]
  exact hr

theorem aDefer_le (h : CLe c1 c2) {n : Nat} {rs : List ResultVar} {s : DSh} {args : List Value} {H : AH} {r : Value × AH} (hr : aDefer P G c1 n rs s args H = some r) : aDefer P G c2 n rs s args H = some r := by
  unfold aDefer at hr ⊢
  obtain ⟨⟨e1, A1, H1⟩, h1, hr⟩ := Option.bind_eq_some_iff.1 hr
  rw [aCode_le h _ h1]
  simp only [Option.bind_some]
  cases e1 with
  | exit i => exact hr
  | ret => exact hr
  | normal =>
    simp only at hr ⊢
    split at hr
    · cases hr
    rename_i hlt
    rw [if_neg hlt]
    obtain ⟨q, h2, hr⟩ := Option.bind_eq_some_iff.1 hr
    obtain ⟨z, h3, hr⟩ := Option.bind_eq_some_iff.1 hr
    rw [aStep_le h h2]
    simp only [Option.bind_some]
    rw [aOps_le h _ h3]
    exact hr
end
end Go.Proofs.YthagelbepgcolaaGreatDoor.Gst
/- Runs that may end in a panic; they are sound. -/
namespace Go.Proofs.YthagelbepgcolaaGreatDoor.Gst
open Go Go.RowKit
set_option linter.unusedSimpArgs false
set_option linter.unusedVariables false

/-- What a call comes to: it returns, or it panics. -/
inductive BO where
  | ret (v : Value)
  | pan (v : Value)
abbrev CallB := Nat → List Value → AH → Option (BO × AH)
/-- The calls that return. -/
def nrm (b : CallB) : CallF := fun f args H => match b f args H with
  | some (.ret v, H') => some (v, H')
  | _ => none
theorem nrm_some {b : CallB} {f : Nat} {args : List Value} {H : AH} {r : Value × AH} : nrm b f args H = some r ↔ b f args H = some (.ret r.1, r.2) := by
  unfold nrm
  constructor
  · intro h
    split at h
    · rename_i v H' e; cases h; exact e
    · cases h
  · intro h
    rw [h]
def BORel (P : Program) (ρ : Ren) : BO → Ending → Prop
  | .ret v, e => ∃ v', e = .returned v' ∧ VRel P ρ v v'
  | .pan v, e => ∃ v', e = .panicked [{ v := v', recovered := false }] ∧ VRel P ρ v v'
def CallBOK (P : Program) (G : List Nat) (b : CallB) : Prop :=
  ∀ f args H o H', b f args H = some (o, H') → (∃ fn, P.funcs[f]? = some fn ∧ fn.body.isSome = true ∧ fn.name ≠ "runtime.NumGoroutine") ∧
    ∀ w0 B ρ w args', Rel P w0 B ρ H w → GlobRel ρ G → LRel P ρ args args' →
      Calls P f args'.toArray w fun e w' => ∃ ρ', BORel P ρ' o e ∧ Ext ρ H w ρ' H' w' ∧ Rel P w0 B ρ' H' w'
theorem nrm_ok {P : Program} {G : List Nat} {b : CallB} (h : CallBOK P G b) : CallOK P G (nrm b) := by
  intro f args H v H' hb
  obtain ⟨h1, h2⟩ := h f args H _ _ (nrm_some.1 hb)
  refine ⟨h1, fun w0 B ρ w args' hR hG hl => (h2 w0 B ρ w args' hR hG hl).mono ?_⟩
  rintro e w' ⟨ρ', ⟨v', he, hv⟩, hE, hR'⟩
  exact ⟨v', ρ', he, hv, hE, hR'⟩
def CallBMono (b : CallB) : Prop := ∀ f args H o H', b f args H = some (o, H') → H.size ≤ H'.size
theorem nrm_mono {b : CallB} (h : CallBMono b) : CallMono (nrm b) := fun f args H v H' hb => h _ _ _ _ _ (nrm_some.1 hb)

/-- What an operation comes to that is none of those of a run that always returns. -/
inductive Spc where
  | pan (v : Value) (H : AH)
  | val (v : Value)
/-- A part of a string. -/
def pSliceS (x : Value) (lo hi : Option Value) : Option Value :=
  match x with
  | .string s => (match lo with | some v => pInt? v | none => some 0).bind fun l => (match hi with | some v => pInt? v | none => some (s.size : Int)).bind fun h =>
      if 0 ≤ l ∧ l ≤ h ∧ h ≤ s.size then some (.string (s.extract l.toNat h.toNat)) else none
  | _ => none
/-- Bytes as a string. -/
def u8s : List Value → Option (List Int)
  | [] => some []
  | .int .u8 n :: l => (u8s l).map (n :: ·)
  | _ => none
def mkStr (ns : List Int) : ByteArray := ns.foldl (fun r n => r.push (UInt8.ofNat n.toNat)) ByteArray.empty
def pBytesS (x : Value) (H : AH) : Option Value :=
  match x with
  | .slice none n _ => if n = 0 then some (.string ByteArray.empty) else none
  | .slice (some ⟨b, o, none⟩) n e => if n = 0 then some (.string ByteArray.empty) else if e = 1 then (pLdN n (.pointer (some ⟨b, o, none⟩)) H).bind fun v => match v with
    | .agg xs => (u8s xs.toList).map fun ns => .string (mkStr ns)
    | _ => none
    else none
  | _ => none
/-- Is it the conversion of bytes to a string? -/
def isB2S (P : Program) (src dst : TypeId) : Bool :=
  match P.underlying src, P.underlying dst with
  | some (.slice e), some .string => match P.underlying e with
    | some (.int .u8) => true
    | _ => false
  | _, _ => false
theorem isB2S_iff {P : Program} {src dst : TypeId} (h : isB2S P src dst = true) : ∃ e, P.underlying src = some (.slice e) ∧ P.underlying e = some (.int .u8) ∧ P.underlying dst = some .string := by
  unfold isB2S at h
  split at h
  · rename_i e h1 h2
    split at h
    · rename_i h3; exact ⟨e, h1, h3, h2⟩
    · cases h
  · cases h
def bSpO (P : Program) (b : CallB) (ev : Operand → Value) (op : Op) (H : AH) : Option Spc :=
  match op with
  | .panic x => match ev x with
    | .iface t v => some (.pan (.iface t v) H)
    | _ => none
  | .makeInterface t x => match P.underlying t with
    | some (.interface _) => none
    | some _ => some (.val (.iface t (ev x)))
    | none => none
  | .slice t x lo hi none => match P.underlying t with
    | some .string => (pSliceS (ev x) (lo.map ev) (hi.map ev)).map .val
    | _ => none
  | .convert src dst x => match isB2S P src dst with
    | true => (pBytesS (ev x) H).map .val
    | false => none
  | .call c => match c.callee with
    | .value f => (pCallee (ev f) (c.args.toList.map ev)).bind fun fa => match b fa.1 fa.2 H with
      | some (.pan v, H') => some (.pan v H')
      | _ => none
    | .builtin .panic => match c.args.toList.map ev with
      | [.iface t v] => some (.pan (.iface t v) H)
      | _ => none
    | _ => none
  | _ => none
def bSp (P : Program) (G : List Nat) (b : CallB) (ops : Array Oper) (o : Oper) (A : List Value) (H : AH) : Option Spc :=
  if o.op.operands.toList.all (okX G) = true ∧ Region.wanted o (aYield ops A) = true then bSpO P b (aEv A) o.op H else none
inductive BE where
  | normal
  | exit (id : Nat)
  | ret
  | pan (v : Value)
abbrev BR := BE × List Value × AH
def bOps (P : Program) (G : List Nat) (b : CallB) (ops : Array Oper) : List Oper → List Value → AH → Option BR
  | [], A, H => some (.normal, A, H)
  | o :: rest, A, H => match bSp P G b ops o A H with
    | some (.pan v H') => some (.pan v, A, H')
    | some (.val v) => bOps P G b ops rest (aPut A o.dst v) H
    | none => (aStep P G (nrm b) ops o A H).bind fun s => bOps P G b ops rest s.1 s.2
def bIter (f : List Value → AH → Option BR) : Nat → List Value → AH → Option BR
  | 0, _, _ => none
  | n + 1, A, H => (f A H).bind fun r => match r.1 with
    | .normal => bIter f n r.2.1 r.2.2
    | _ => some r
theorem bIter_mono {f : List Value → AH → Option BR} {n : Nat} {A : List Value} {H : AH} {r : BR} (h : bIter f n A H = some r) : ∀ m, n ≤ m → bIter f m A H = some r := by
  induction n generalizing A H with
  | zero => cases h
  | succ n ih =>
    intro m hm
    obtain ⟨m, rfl⟩ : ∃ k, m = k + 1 := ⟨m - 1, by omega⟩
    simp only [bIter] at h ⊢
    obtain ⟨s, hs, h⟩ := Option.bind_eq_some_iff.1 h
    rw [hs]
    simp only [Option.bind_some]
    split at h
    · exact ih h m (by omega)
    · exact h
open Classical in
noncomputable def bLoop (f : List Value → AH → Option BR) (A : List Value) (H : AH) : Option BR := if h : ∃ n r, bIter f n A H = some r then some h.choose_spec.choose else none
theorem bLoop_iff {f : List Value → AH → Option BR} {A : List Value} {H : AH} {r : BR} : bLoop f A H = some r ↔ ∃ n, bIter f n A H = some r := by
  unfold bLoop
  constructor
  · intro h
    split at h
    · rename_i hx
      cases h
      exact ⟨_, hx.choose_spec.choose_spec⟩
    · cases h
  · rintro ⟨n, hn⟩
    have hx : ∃ n r, bIter f n A H = some r := ⟨n, r, hn⟩
    rw [dif_pos hx]
    have h1 := bIter_mono hx.choose_spec.choose_spec (max n hx.choose) (Nat.le_max_right ..)
    have h2 := bIter_mono hn (max n hx.choose) (Nat.le_max_left ..)
    rw [h2] at h1
    exact h1.symm
theorem bLoop_eq (f : List Value → AH → Option BR) (A : List Value) (H : AH) : bLoop f A H = (f A H).bind fun r => match r.1 with | .normal => bLoop f r.2.1 r.2.2 | _ => some r := by
  apply Option.ext
  intro r
  rw [bLoop_iff]
  constructor
  · rintro ⟨n, hn⟩
    cases n with
    | zero => cases hn
    | succ n =>
      simp only [bIter] at hn
      obtain ⟨s, hs, h⟩ := Option.bind_eq_some_iff.1 hn
      rw [hs]
      simp only [Option.bind_some]
      split at h
      · exact bLoop_iff.2 ⟨n, h⟩
      · exact h
  · intro h
    obtain ⟨s, hs, h⟩ := Option.bind_eq_some_iff.1 h
    split at h
    · rename_i e
      obtain ⟨n, hn⟩ := bLoop_iff.1 h
      refine ⟨n + 1, ?_⟩
      simp only [bIter, hs, Option.bind_some, e]
      exact hn
    · rename_i e
      refine ⟨1, ?_⟩
      simp only [bIter, hs, Option.bind_some]
      exact h

noncomputable def bCode (P : Program) (G : List Nat) (b : CallB) : Code → List Value → AH → Option BR
  | .skip, A, H => some (.normal, A, H)
  | .label _, A, H => some (.normal, A, H)
  | .region _ ops draw, A, H => match draw with
    | true => (aDraw P G (nrm b) ops A H).map fun s => (.normal, s.1, s.2)
    | false => bOps P G b ops ops.toList A H
  | .seq x y, A, H => (bCode P G b x A H).bind fun r => match r.1 with
    | .normal => bCode P G b y r.2.1 r.2.2
    | _ => some r
  | .cond c x y, A, H => match aEv A c with
    | .bool true => bCode P G b x A H
    | .bool false => bCode P G b y A H
    | _ => none
  | .block id x, A, H => (bCode P G b x A H).map fun r => match r.1 with
    | .exit i => if i = id then (.normal, r.2.1, r.2.2) else r
    | _ => r
  | .loop x, A, H => bLoop (bCode P G b x) A H
  | .exit id, A, H => some (.exit id, A, H)
  | .ret, A, H => some (.ret, A, H)
  | _, _, _ => none

def BERel (P : Program) (ρ : Ren) : BE → Exit → Prop
  | .normal, e => e = .normal
  | .exit id, e => e = .exit id
  | .ret, e => e = .ret
  | .pan v, e => ∃ v', e = .panic [{ v := v', recovered := false }] ∧ VRel P ρ v v'
def PostB (ds : List Deferred) (P : Program) (w0 : World) (B : Nat) (G : List Nat) (ρ : Ren) (H : AH) (w : World) (e : BE) (A' : List Value) (H' : AH) (ex : Exit) (a' : Act) (w' : World) : Prop :=
  ∃ ρ', BERel P ρ' e ex ∧ ActRel ds P ρ' A' a' ∧ GlobRel ρ' G ∧ Ext ρ H w ρ' H' w' ∧ Rel P w0 B ρ' H' w'

section
variable {ds : List Deferred} {P : Program} {w0 : World} {B : Nat} {ρ : Ren} {H : AH} {w : World} {G : List Nat} {b : CallB} {ops : Array Oper}

theorem VRel.iface_inv {t : TypeId} {v x : Value} (h : VRel P ρ (.iface t v) x) : ∃ v', x = .iface t v' ∧ VRel P ρ v v' := by
  cases h with
  | lit h => simp [litV] at h
  | iface h => exact ⟨_, rfl, h⟩

theorem PostB.trans {ρ ρ1 : Ren} {H H1 H2 : AH} {w w1 w2 : World} {e : BE} {ex : Exit} {A2 : List Value} {a2 : Act} (hR : Rel P w0 B ρ H w) (hE : Ext ρ H w ρ1 H1 w1) (h : PostB ds P w0 B G ρ1 H1 w1 e A2 H2 ex a2 w2) : PostB ds P w0 B G ρ H w e A2 H2 ex a2 w2 := by
  obtain ⟨ρ', h0, h1, h2, h3, h4⟩ := h
  exact ⟨ρ', h0, h1, h2, hE.trans hR h3, h4⟩

theorem sliceS_run {t : TypeId} (hu : P.underlying t = some .string) {x x' v : Value} {lo hi lo' hi' : Option Value} (h : pSliceS x lo hi = some v) (hx : VRel P ρ x x')
    (hlo : lo = none ∧ lo' = none ∨ ∃ a a', lo = some a ∧ lo' = some a' ∧ VRel P ρ a a') (hhi : hi = none ∧ hi' = none ∨ ∃ a a', hi = some a ∧ hi' = some a' ∧ VRel P ρ a a') :
    ∃ v', (Instr.sliceAt t x' lo' hi' none).run P w = .ok v' w ∧ VRel P ρ v v' := by
  cases x <;> simp only [pSliceS] at h <;> try (cases h; done)
  rename_i z
  have h2 := Option.bind_eq_some_iff.1 h
  clear h
  obtain ⟨l, hl, h⟩ := h2
  have h2 := Option.bind_eq_some_iff.1 h
  clear h
  obtain ⟨hh, hhv, h⟩ := h2
  split at h
  · rename_i hc
    cases h
    rw [hx.string_inv]
    have elo : lo = none ∧ lo' = none ∧ l = 0 ∨ ∃ k, lo' = some (.int k l) := by
      rcases hlo with ⟨rfl, rfl⟩ | ⟨b, b', rfl, rfl, hb⟩
      · left; simp at hl; exact ⟨rfl, rfl, hl.symm⟩
      · right; cases b <;> simp [pInt?] at hl; subst hl; exact ⟨_, by rw [hb.int_inv]⟩
    have ehi : hi = none ∧ hi' = none ∧ hh = z.size ∨ ∃ k, hi' = some (.int k hh) := by
      rcases hhi with ⟨rfl, rfl⟩ | ⟨b, b', rfl, rfl, hb⟩
      · left; simp at hhv; exact ⟨rfl, rfl, hhv.symm⟩
      · right; cases b <;> simp [pInt?] at hhv; subst hhv; exact ⟨_, by rw [hb.int_inv]⟩
    refine ⟨_, ?_, .lit rfl⟩
    have c1 : hh ≤ (z.size : Int) := hc.2.2
    have c3 : 0 ≤ hh := by omega
    have c2 : l ≤ hh := hc.2.1
    have c5 : max hh 0 = hh := by omega
    rcases elo with ⟨_, rfl, rfl⟩ | ⟨kl, rfl⟩ <;> rcases ehi with ⟨_, rfl, rfl⟩ | ⟨kh, rfl⟩ <;>
      simp [Instr.sliceAt, Instr.slice, run_underlying hu, Instr.sliceBounds, Instr.sliceBound, asIntOf, hc.1, c1, c2, c3, c5]
  · cases h

theorem u8s_map : ∀ {l : List Value} {ns : List Int}, u8s l = some ns → l = ns.map (Value.int .u8) := by
  intro l
  induction l with
  | nil => intro ns h; cases h; rfl
  | cons v l ih =>
    intro ns h
    unfold u8s at h
    split at h
    · rename_i e; cases e
    · rename_i n l' e
      cases e
      obtain ⟨ns', h1, rfl⟩ := Option.map_eq_some_iff.1 h
      rw [ih h1]; rfl
    · cases h
theorem bytesS_run {src dst : TypeId} (hc : isB2S P src dst = true) {x x' v : Value} (h : pBytesS x H = some v) (hR : Rel P w0 B ρ H w) (hx : VRel P ρ x x') : (convert src dst x').run P w = .ok v w := by
  obtain ⟨e, h1, h2, h3⟩ := isB2S_iff hc
  unfold pBytesS at h
  split at h
  · rename_i n k
    split at h
    · cases h
      rw [hx.nilslice_inv, run_convert_bytes_string w src dst e _ _ _ h1 h2 h3]
      rfl
    · cases h
  · rename_i b o n k
    have zero : n = 0 → ∀ (a' : Option Addr) (n' c' : Nat), x' = .slice a' n' c' → n' = 0 → (convert src dst x').run P w = .ok (.string ByteArray.empty) w := by
      intro _ a' n' c' e1 e2
      subst e1; subst e2
      rw [run_convert_bytes_string w src dst e _ _ _ h1 h2 h3]
      cases a' with
      | none => rfl
      | some a' => exact run_bytesToString w a' 0 c' [] (by simp [loadCells, loadCellsFrom, Sem.run_pure])
    split at h
    · rename_i hn
      cases h
      obtain ⟨a', k', rfl, _⟩ := hx.anyslice_inv
      exact zero hn a' n k' rfl hn
    · rename_i hn
      split at h
      · rename_i he
        obtain ⟨y, hy, h⟩ := Option.bind_eq_some_iff.1 h
        split at h
        · rename_i xs
          obtain ⟨ns, hns, rfl⟩ := Option.map_eq_some_iff.1 h
          rcases hx.slice_inv (by omega) with ⟨c, d, sz, a, hb, h0, _⟩ | ⟨c, d, sz, k', hb, hk, hnk, rfl⟩
          · exact absurd h0 hn
          obtain ⟨a', ys, ha, hr, hv⟩ := loadN hR hy (VRel.ptr (o := o) hb)
          have ha : (⟨c, d + o, none⟩ : Addr) = a' := by simpa using ha
          subst ha
          rw [run_convert_bytes_string w src dst e _ _ _ h1 h2 h3]
          refine run_bytesToString w _ n k' ns ?_
          rw [hr]
          obtain ⟨ys', e3, hs, hel⟩ := hv.agg_inv
          cases e3
          congr 1
          have := u8s_map hns
          apply Array.ext'
          rw [List.toList_toArray, ← this]
          apply List.ext_getElem?
          intro i
          cases hi : xs.toList[i]? with
          | none =>
            rw [List.getElem?_eq_none_iff] at hi ⊢
            simp at hi ⊢; omega
          | some p =>
            have hp : xs[i]? = some p := by simpa using hi
            have hlt : i < xs.size := (Array.getElem?_eq_some_iff.1 hp).1
            have hq : ys[i]? = some ys[i] := by simp [show i < ys.size by omega]
            have hrel := hel i p ys[i] hp hq
            rw [Array.getElem?_toList, hq]
            have hm : p ∈ xs.toList := List.mem_of_getElem? hi
            rw [this] at hm
            obtain ⟨z, _, rfl⟩ := List.mem_map.1 hm
            rw [hrel.int_inv]
        · cases h
      · cases h
  · cases h
theorem spc_pan (hb : CallBOK P G b) {A : List Value} {a : Act} (hA : ActRel ds P ρ A a) (hG : GlobRel ρ G) (hR : Rel P w0 B ρ H w) {o : Oper} (hok : o.op.operands.toList.all (okX G) = true)
    {v : Value} {H' : AH} (h : bSpO P b (aEv A) o.op H = some (.pan v H')) {next : Act → World → Prop} {Q : Exit → Act → World → Prop}
    (hn : ∀ v' ρ' w', VRel P ρ' v v' → Ext ρ H w ρ' H' w' → Rel P w0 B ρ' H' w' → Q (.panic [{ v := v', recovered := false }]) a w') : o.wp P a w next Q := by
  obtain ⟨dst, op, type, pos, after, guard⟩ := o
  simp only at hok h
  have ev : ∀ x, x ∈ op.operands.toList → VRel P ρ (aEv A x) (a.eval x) := fun x hx => ev_rel hA hG (List.all_eq_true.1 hok x hx)
  cases op <;> simp only [bSpO] at h <;> try (cases h; done)
  case panic x =>
    split at h
    · rename_i t y he
      cases h
      have hv := ev x (by simp [Op.operands])
      rw [he] at hv
      obtain ⟨y', hy, hv'⟩ := hv.iface_inv
      unfold Oper.wp
      have hrun : (execOp a.eval { dst := dst, op := .panic x, type := type, pos := pos, after := after, guard := guard }).run P w = .halt (.panic (.iface t y')) w := by
        simp [execOp, hy, Instr.panic, goPanic]
      rw [hrun, Oper.upon_panic]
      exact hn _ ρ w (.iface hv') (Ext.refl _ _ _) hR
    · cases h
  case makeInterface t x => split at h <;> cases h
  case slice t x lo hi mx =>
    cases mx with
    | some m => cases h
    | none =>
      simp only at h
      split at h
      · obtain ⟨y, _, e⟩ := Option.map_eq_some_iff.1 h; cases e
      · cases h
  case convert src dst x =>
    split at h
    · obtain ⟨y, _, e⟩ := Option.map_eq_some_iff.1 h; cases e
    · cases h
  case call c =>
    obtain ⟨callee, args, ats⟩ := c
    cases callee with
    | invoke r m => simp only at h; cases h
    | builtin bi =>
      cases bi <;> simp only at h <;> try (cases h; done)
      split at h
      · rename_i t y he
        cases h
        have hl : LRel P ρ (args.toList.map (aEv A)) (args.map a.eval).toList := map_rel (fun x hx => ev x (by simp [Op.operands, Call.operands]; exact by simpa using hx))
        rw [he] at hl
        unfold Oper.wp
        obtain ⟨z, hz, hv⟩ := hl.get (i := 0) (x := .iface t y) rfl
        obtain ⟨y', rfl, hv'⟩ := hv.iface_inv
        have hz' : (args.map a.eval).getD 0 .nilIface = .iface t y' := by
          rw [Array.getElem?_toList] at hz
          rw [Array.getD_eq_getD_getElem?, hz]; rfl
        have hrun : (execOp a.eval { dst := dst, op := .call ⟨.builtin .panic, args, ats⟩, type := type, pos := pos, after := after, guard := guard }).run P w = .halt (.panic (.iface t y')) w := by
          simp only [execOp, resolve, Sem.run_bind, Sem.run_pure, Result.andThen_ok, invoke, builtin, hz', Instr.panic, goPanic]
          rfl
        rw [hrun, Oper.upon_panic]
        exact hn _ ρ w (.iface hv') (Ext.refl _ _ _) hR
      · cases h
    | value f =>
      simp only at h
      obtain ⟨⟨g, xs⟩, hfa, h⟩ := Option.bind_eq_some_iff.1 h
      simp only at h
      split at h
      · rename_i y H1 hbc
        cases h
        have hl : LRel P ρ (args.toList.map (aEv A)) (args.map a.eval).toList := map_rel (fun x hx => ev x (by simp only [Op.operands, Call.operands, Array.toList_append, List.mem_append]; exact .inr hx))
        obtain ⟨first, captured, hf, hx⟩ := callee_rel hfa (ev f (by simp [Op.operands, Call.operands])) hl
        obtain ⟨⟨fn, hfn, hbody, hname⟩, hcalls⟩ := hb g xs H _ _ hbc
        have hcl := hcalls w0 B ρ w _ hR hG hx
        have hrun : (execOp a.eval { dst := dst, op := .call { callee := .value f, args := args, argTypes := ats }, type := type, pos := pos, after := after, guard := guard }).run P w =
            .ok (.enter g (first ++ args.map a.eval ++ captured)) w := by
          have hbn : ¬ (fn.body = none) := by intro hb; rw [hb] at hbody; cases hbody
          simp [execOp, resolve, hf, Deferred.ofValue, invoke, callFunc, hfn, hname, hbn]
        unfold Oper.wp
        rw [hrun, Oper.upon_enter]
        have e : (first.toList ++ (args.map a.eval).toList ++ captured.toList).toArray = first ++ args.map a.eval ++ captured := by
          apply Array.ext'; simp
        rw [e] at hcl
        refine hcl.mono ?_
        rintro e w' ⟨ρ', ⟨v', rfl, hv⟩, hE, hR'⟩
        exact hn v' ρ' w' hv hE hR'
      · cases h

theorem spc_val {A : List Value} {a : Act} (hA : ActRel ds P ρ A a) (hG : GlobRel ρ G) (hR : Rel P w0 B ρ H w) {o : Oper} (hok : o.op.operands.toList.all (okX G) = true)
    {v : Value} (h : bSpO P b (aEv A) o.op H = some (.val v)) : ∃ v', VRel P ρ v v' ∧ (execOp a.eval o).run P w = .ok (.value v') w := by
  obtain ⟨dst, op, type, pos, after, guard⟩ := o
  simp only at hok h
  have ev : ∀ x, x ∈ op.operands.toList → VRel P ρ (aEv A x) (a.eval x) := fun x hx => ev_rel hA hG (List.all_eq_true.1 hok x hx)
  cases op <;> simp only [bSpO] at h <;> try (cases h; done)
  case panic x => split at h <;> cases h
  case slice t x lo hi mx =>
    cases mx with
    | some m => cases h
    | none =>
      simp only at h
      split at h
      · rename_i hu
        obtain ⟨y, hy, e⟩ := Option.map_eq_some_iff.1 h
        cases e
        have ob : ∀ (z : Option Operand), (∀ q ∈ z, q ∈ (Op.slice t x lo hi none).operands.toList) → z.map (aEv A) = none ∧ z.map a.eval = none ∨ ∃ p p', z.map (aEv A) = some p ∧ z.map a.eval = some p' ∧ VRel P ρ p p' := by
          intro z hz
          cases z with
          | none => exact .inl ⟨rfl, rfl⟩
          | some q => exact .inr ⟨_, _, rfl, rfl, ev q (hz q rfl)⟩
        obtain ⟨v', hr, hv⟩ := sliceS_run (w := w) hu hy (ev x (by simp [Op.operands])) (ob lo (fun q hq => by cases hq; simp [Op.operands])) (ob hi (fun q hq => by cases hq; simp [Op.operands]))
        exact ⟨v', hv, by simp only [execOp, Option.map_none, Sem.run_bind, hr, Result.andThen_ok, Sem.run_pure]⟩
      · cases h
  case call c =>
    obtain ⟨callee, args, ats⟩ := c
    cases callee with
    | invoke r m => simp only at h; cases h
    | builtin bi =>
      cases bi <;> simp only at h <;> try (cases h; done)
      split at h <;> cases h
    | value f =>
      simp only at h
      obtain ⟨⟨g, xs⟩, hfa, h⟩ := Option.bind_eq_some_iff.1 h
      simp only at h
      split at h <;> cases h
  case convert src dst x =>
    split at h
    · rename_i hc
      obtain ⟨y, hy, e⟩ := Option.map_eq_some_iff.1 h
      cases e
      have hv : VRel P ρ v v := by
        unfold pBytesS at hy
        split at hy
        · split at hy <;> cases hy; exact .lit rfl
        · split at hy
          · cases hy; exact .lit rfl
          · split at hy
            · obtain ⟨z, _, hy⟩ := Option.bind_eq_some_iff.1 hy
              split at hy
              · obtain ⟨ns, _, e⟩ := Option.map_eq_some_iff.1 hy; cases e; exact .lit rfl
              · cases hy
            · cases hy
        · cases hy
      refine ⟨v, hv, ?_⟩
      have hr := bytesS_run hc hy hR (ev x (by simp [Op.operands]))
      simp only [execOp, Sem.run_bind, hr, Result.andThen_ok, Sem.run_pure]
    · cases h
  case makeInterface t x =>
    split at h
    · cases h
    · rename_i d hno hu
      cases h
      refine ⟨.iface t (a.eval x), .iface (ev x (by simp [Op.operands])), ?_⟩
      simp only [execOp, Instr.makeInterface, Sem.run_bind, run_underlying hu, Result.andThen_ok, Sem.run_pure]
    · cases h

theorem bops_sound (hb : CallBOK P G b) (ops : Array Oper) {Q : Exit → Act → World → Prop} : ∀ (l : List Oper) {ρ : Ren} {A : List Value} {H : AH} {a : Act} {w : World} {e : BE} {A' : List Value} {H' : AH}, bOps P G b ops l A H = some (e, A', H') →
    ActRel ds P ρ A a → GlobRel ρ G → Rel P w0 B ρ H w → (∀ ex a' w', PostB ds P w0 B G ρ H w e A' H' ex a' w' → Q ex a' w') → wpList P ops Q l a w := by
  intro l
  induction l with
  | nil =>
    intro ρ A H a w e A' H' h hA hG hR hQ
    simp only [bOps] at h
    cases h
    exact hQ .normal a w ⟨ρ, rfl, hA, hG, Ext.refl _ _ _, hR⟩
  | cons o rest ih =>
    intro ρ A H a w e A' H' h hA hG hR hQ
    simp only [bOps] at h
    split at h
    · rename_i v H1 hs
      cases h
      unfold bSp at hs
      split at hs
      · rename_i hc
        unfold wpList
        rw [wanted_rel hA, if_pos hc.2]
        refine .inl (spc_pan hb hA hG hR hc.1 hs (fun v' ρ' w' hv hE hR' => ?_))
        exact hQ _ _ _ ⟨ρ', ⟨v', rfl, hv⟩, hA.mono hE.le, hG.mono hE.le, hE, hR'⟩
      · cases hs
    · rename_i v hs
      unfold bSp at hs
      split at hs
      · rename_i hc
        unfold wpList
        rw [wanted_rel hA, if_pos hc.2]
        obtain ⟨v', hv, hrun⟩ := spc_val hA hG hR hc.1 hs
        refine .inl ?_
        unfold Oper.wp
        rw [hrun, Oper.upon_value]
        exact ih h (put_rel hA o.dst hv) hG hR hQ
      · cases hs
    · obtain ⟨⟨A1, H1⟩, hs, h⟩ := Option.bind_eq_some_iff.1 h
      simp only at h
      unfold aStep at hs
      split at hs
      · rename_i hok
        unfold wpList
        rw [wanted_rel hA]
        split at hs
        · rename_i hw
          rw [if_pos hw]
          obtain ⟨⟨v, H2⟩, ho, e⟩ := Option.map_eq_some_iff.1 hs
          cases e
          refine .inl (op_sound (nrm_ok hb) hA hG hR hok ho (fun v' ρ' w' hv hE hR' => ?_))
          exact ih h (put_rel (hA.mono hE.le) o.dst hv) (hG.mono hE.le) hR' (fun ex a' w'' hp => hQ ex a' w'' (hp.trans hR hE))
        · rename_i hw
          rw [if_neg hw]
          cases hs
          exact ih h (put_rel hA o.dst VRel.undef) hG hR hQ
      · cases hs

theorem codeb_sound (hb : CallBOK P G b) (hmono : CallBMono b) (hm : P.follows .mixedOrders = true) : ∀ (c : Code) {Q : Exit → Act → World → Prop} {ρ : Ren} {A : List Value} {H : AH} {a : Act} {w : World} {e : BE} {A' : List Value} {H' : AH},
    bCode P G b c A H = some (e, A', H') → ActRel ds P ρ A a → GlobRel ρ G → Rel P w0 B ρ H w → (∀ ex a' w', PostB ds P w0 B G ρ H w e A' H' ex a' w' → Q ex a' w') → c.wp P Q a w := by
  intro c
  induction c with
  | skip =>
    intro Q ρ A H a w e A' H' h hA hG hR hQ
    simp only [bCode] at h; cases h
    exact wp_skip (hQ .normal a w ⟨ρ, rfl, hA, hG, Ext.refl _ _ _, hR⟩)
  | label l =>
    intro Q ρ A H a w e A' H' h hA hG hR hQ
    simp only [bCode] at h; cases h
    exact wp_label (hQ .normal a w ⟨ρ, rfl, hA, hG, Ext.refl _ _ _, hR⟩)
  | exit id =>
    intro Q ρ A H a w e A' H' h hA hG hR hQ
    simp only [bCode] at h; cases h
    exact wp_exit (hQ (.exit id) a w ⟨ρ, rfl, hA, hG, Ext.refl _ _ _, hR⟩)
  | ret =>
    intro Q ρ A H a w e A' H' h hA hG hR hQ
    simp only [bCode] at h; cases h
    exact wp_ret (hQ .ret a w ⟨ρ, rfl, hA, hG, Ext.refl _ _ _, hR⟩)
  | region id ops draw =>
    intro Q ρ A H a w e A' H' h hA hG hR hQ
    simp only [bCode] at h
    cases draw with
    | true =>
      obtain ⟨⟨A1, H1⟩, hs, e1⟩ := Option.map_eq_some_iff.1 h
      cases e1
      refine draw_sound (nrm_ok hb) (nrm_mono hmono) hm hs hA hG hR (fun a' w' hp => ?_)
      obtain ⟨ρ', h1, h2, h3, h4⟩ := hp
      exact hQ .normal a' w' ⟨ρ', rfl, h1, h2, h3, h4⟩
    | false => exact wp_region_list (bops_sound hb ops _ h hA hG hR hQ)
  | seq x y ihx ihy =>
    intro Q ρ A H a w e A' H' h hA hG hR hQ
    simp only [bCode] at h
    obtain ⟨⟨e1, A1, H1⟩, hx, h⟩ := Option.bind_eq_some_iff.1 h
    refine wp_seq (ihx hx hA hG hR (fun ex a1 w1 hp => ?_))
    obtain ⟨ρ1, hex, hA1, hG1, hE1, hR1⟩ := hp
    cases e1 with
    | normal =>
      simp only at h
      cases hex
      exact ihy h hA1 hG1 hR1 (fun ex a' w' hp => hQ ex a' w' (hp.trans hR hE1))
    | exit id => simp only at h; cases h; cases hex; exact hQ _ a1 w1 ⟨ρ1, rfl, hA1, hG1, hE1, hR1⟩
    | ret => simp only at h; cases h; cases hex; exact hQ _ a1 w1 ⟨ρ1, rfl, hA1, hG1, hE1, hR1⟩
    | pan v => simp only at h; cases h; obtain ⟨v', rfl, hv⟩ := hex; exact hQ _ a1 w1 ⟨ρ1, ⟨v', rfl, hv⟩, hA1, hG1, hE1, hR1⟩
  | cond c x y ihx ihy =>
    intro Q ρ A H a w e A' H' h hA hG hR hQ
    simp only [bCode] at h
    have hc : ∀ t, aEv A c = .bool t → a.eval c = .bool t := by
      intro t ht
      cases c with
      | tmp u =>
        simp only [aEv] at ht
        cases hx : A[u]? with
        | none => rw [hx] at ht; simp [undef] at ht
        | some x =>
          rw [hx] at ht
          simp only [Option.getD_some] at ht
          subst ht
          obtain ⟨y, hy, hv⟩ := hA.tmps.get hx
          rw [Array.getElem?_toList] at hy
          simp only [Act.eval, Array.getD_eq_getD_getElem?, hy, Option.getD_some]
          exact hv.bool_inv
      | const v => exact ht
      | global g => cases ht
      | func f => cases ht
    split at h
    · rename_i ht; exact wp_cond (hc _ ht) (ihx h hA hG hR hQ)
    · rename_i ht; exact wp_cond (hc _ ht) (ihy h hA hG hR hQ)
    · cases h
  | block id x ih =>
    intro Q ρ A H a w e A' H' h hA hG hR hQ
    simp only [bCode] at h
    obtain ⟨⟨e1, A1, H1⟩, hx, e2⟩ := Option.map_eq_some_iff.1 h
    refine wp_block (ih hx hA hG hR (fun ex a1 w1 hp => ?_))
    obtain ⟨ρ1, hex, hA1, hG1, hE1, hR1⟩ := hp
    cases e1 with
    | normal => simp only at e2; cases e2; cases hex; exact hQ _ a1 w1 ⟨ρ1, rfl, hA1, hG1, hE1, hR1⟩
    | ret => simp only at e2; cases e2; cases hex; exact hQ _ a1 w1 ⟨ρ1, rfl, hA1, hG1, hE1, hR1⟩
    | pan v => simp only at e2; cases e2; obtain ⟨v', rfl, hv⟩ := hex; exact hQ _ a1 w1 ⟨ρ1, ⟨v', rfl, hv⟩, hA1, hG1, hE1, hR1⟩
    | exit i =>
      simp only at e2
      cases hex
      simp only [Exit.inBlock]
      split at e2
      · rename_i hi; cases e2; rw [if_pos hi]; exact hQ _ a1 w1 ⟨ρ1, rfl, hA1, hG1, hE1, hR1⟩
      · rename_i hi; cases e2; rw [if_neg hi]; exact hQ _ a1 w1 ⟨ρ1, rfl, hA1, hG1, hE1, hR1⟩
  | loop x ih =>
    intro Q ρ A H a w e A' H' h hA hG hR hQ
    simp only [bCode] at h
    obtain ⟨n, hn⟩ := bLoop_iff.1 h
    refine wp_loop_rounds n ?_
    clear h
    induction n generalizing ρ A H a w with
    | zero => cases hn
    | succ n ihn =>
      simp only [bIter] at hn
      obtain ⟨⟨e1, A1, H1⟩, hx, h⟩ := Option.bind_eq_some_iff.1 hn
      rw [rounds_succ]
      refine ih hx hA hG hR (fun ex a1 w1 hp => ?_)
      obtain ⟨ρ1, hex, hA1, hG1, hE1, hR1⟩ := hp
      cases e1 with
      | normal =>
        simp only at h
        cases hex
        exact ihn hA1 hG1 hR1 (fun ex a' w' hp => hQ ex a' w' (hp.trans hR hE1)) h
      | exit id => simp only at h; cases h; cases hex; exact hQ _ a1 w1 ⟨ρ1, rfl, hA1, hG1, hE1, hR1⟩
      | ret => simp only at h; cases h; cases hex; exact hQ _ a1 w1 ⟨ρ1, rfl, hA1, hG1, hE1, hR1⟩
      | pan v => simp only at h; cases h; obtain ⟨v', rfl, hv⟩ := hex; exact hQ _ a1 w1 ⟨ρ1, ⟨v', rfl, hv⟩, hA1, hG1, hE1, hR1⟩
  | rangeFunc f ps x y => intro Q ρ A H a w e A' H' h; simp [bCode] at h
  | scope x => intro Q ρ A H a w e A' H' h; simp [bCode] at h
  | goto l => intro Q ρ A H a w e A' H' h; simp [bCode] at h
  | refuse s => intro Q ρ A H a w e A' H' h; simp [bCode] at h
end
end Go.Proofs.YthagelbepgcolaaGreatDoor.Gst
/- A closure that recovers; calls of functions that defer one; the limit over all depths. -/
namespace Go.Proofs.YthagelbepgcolaaGreatDoor.Gst
open Go Go.RowKit
set_option linter.unusedSimpArgs false
set_option linter.unusedVariables false

section
variable {P : Program} {G : List Nat} {b : CallB}
theorem bSpO_mono (hm : CallBMono b) {ev : Operand → Value} {op : Op} {H H' : AH} {v : Value} (h : bSpO P b ev op H = some (.pan v H')) : H.size ≤ H'.size := by
  unfold bSpO at h
  split at h
  · split at h <;> cases h; exact Nat.le_refl _
  · split at h <;> cases h
  · split at h
    · obtain ⟨y, _, e⟩ := Option.map_eq_some_iff.1 h; cases e
    · cases h
  · split at h
    · obtain ⟨y, _, e⟩ := Option.map_eq_some_iff.1 h; cases e
    · cases h
  · split at h
    · obtain ⟨fa, _, h⟩ := Option.bind_eq_some_iff.1 h
      split at h
      · rename_i hb; cases h; exact hm _ _ _ _ _ hb
      · cases h
    · split at h <;> cases h; exact Nat.le_refl _
    · cases h
  · cases h
theorem bOps_mono (hm : CallBMono b) {ops : Array Oper} : ∀ (l : List Oper) {A : List Value} {H : AH} {r : BR}, bOps P G b ops l A H = some r → H.size ≤ r.2.2.size := by
  intro l
  induction l with
  | nil => intro A H r h; simp only [bOps] at h; cases h; exact Nat.le_refl _
  | cons o l ih =>
    intro A H r h
    simp only [bOps] at h
    split at h
    · rename_i hs
      cases h
      unfold bSp at hs
      split at hs
      · exact bSpO_mono hm hs
      · cases hs
    · exact ih h
    · obtain ⟨s, hs, h⟩ := Option.bind_eq_some_iff.1 h
      refine Nat.le_trans ?_ (ih h)
      have := aOps_mono (nrm_mono hm) [o] (P := P) (G := G) (ops := ops) (A := A) (H := H) (r := s) (by simp [aOps, hs])
      exact this
theorem bCode_mono (hm : CallBMono b) : ∀ (c : Code) {A : List Value} {H : AH} {r : BR}, bCode P G b c A H = some r → H.size ≤ r.2.2.size := by
  intro c
  induction c with
  | skip => intro A H r h; simp only [bCode] at h; cases h; exact Nat.le_refl _
  | label l => intro A H r h; simp only [bCode] at h; cases h; exact Nat.le_refl _
  | exit id => intro A H r h; simp only [bCode] at h; cases h; exact Nat.le_refl _
  | ret => intro A H r h; simp only [bCode] at h; cases h; exact Nat.le_refl _
  | region id ops draw =>
    intro A H r h
    simp only [bCode] at h
    cases draw with
    | true =>
      obtain ⟨s, hs, e1⟩ := Option.map_eq_some_iff.1 h
      cases e1
      exact aOps_mono (nrm_mono hm) _ (aDraw_some hs).2.2
    | false => exact bOps_mono hm _ h
  | seq x y ihx ihy =>
    intro A H r h
    simp only [bCode] at h
    obtain ⟨s, hx, h⟩ := Option.bind_eq_some_iff.1 h
    have h1 := ihx hx
    split at h
    · exact Nat.le_trans h1 (ihy h)
    · cases h; exact h1
  | cond c x y ihx ihy =>
    intro A H r h
    simp only [bCode] at h
    split at h
    · exact ihx h
    · exact ihy h
    · cases h
  | block id x ih =>
    intro A H r h
    simp only [bCode] at h
    obtain ⟨s, hx, e2⟩ := Option.map_eq_some_iff.1 h
    have h1 := ih hx
    split at e2
    · split at e2 <;> (subst e2; exact h1)
    · subst e2; exact h1
  | loop x ih =>
    intro A H r h
    simp only [bCode] at h
    obtain ⟨n, hn⟩ := bLoop_iff.1 h
    clear h
    induction n generalizing A H with
    | zero => cases hn
    | succ n ihn =>
      simp only [bIter] at hn
      obtain ⟨s, hx, h⟩ := Option.bind_eq_some_iff.1 hn
      have h1 := ih hx
      split at h
      · exact Nat.le_trans h1 (ihn h)
      · cases h; exact h1
  | rangeFunc f ps x y => intro A H r h; simp [bCode] at h
  | scope x => intro A H r h; simp [bCode] at h
  | goto l => intro A H r h; simp [bCode] at h
  | refuse s => intro A H r h; simp [bCode] at h
end

/-! ### The closure that recovers -/
/-- No call is made. -/
def noCall : CallF := fun _ _ _ => none
theorem noCall_ok {P : Program} {G : List Nat} : CallOK P G noCall := fun _ _ _ _ _ h => by cases h
theorem noCall_mono : CallMono noCall := fun _ _ _ _ _ h => by cases h
structure CSh where
  i1 : Nat
  ops : Array Oper
  o1 : Oper
  o2 : Oper
  rest : List Oper
  t1 : Nat
  t2 : Nat
  xt : TypeId
  at' : TypeId
  c2 : Code
def cshape : Code → Option CSh
  | .seq (.region i1 ops false) c2 => match ops.toList with
    | o1 :: o2 :: rest => match o1.dst, o1.op, o1.guard, o2.dst, o2.op, o2.guard with
      | some t1, .call ⟨.builtin .recover, args, _⟩, none, some t2, .typeAssert (.tmp t) xt at' true, none => if t = t1 ∧ args = #[] then some ⟨i1, ops, o1, o2, rest, t1, t2, xt, at', c2⟩ else none
      | _, _, _, _, _, _ => none
    | _ => none
  | _ => none
theorem cshape_some {c : Code} {s : CSh} (h : cshape c = some s) : c = .seq (.region s.i1 s.ops false) s.c2 ∧ s.ops.toList = s.o1 :: s.o2 :: s.rest ∧ s.o1.dst = some s.t1 ∧ (∃ ats, s.o1.op = .call ⟨.builtin .recover, #[], ats⟩) ∧ s.o1.guard = none ∧
    s.o2.dst = some s.t2 ∧ s.o2.op = .typeAssert (.tmp s.t1) s.xt s.at' true ∧ s.o2.guard = none := by
  unfold cshape at h
  split at h
  · split at h
    · rename_i hl
      split at h
      · rename_i h1 h2 h3 h4 h5 h6
        split at h
        · rename_i hc
          obtain ⟨rfl, rfl⟩ := hc
          cases h
          exact ⟨rfl, hl, h1, ⟨_, h2⟩, h3, h4, h5, h6⟩
        · cases h
      · cases h
    · cases h
  · cases h
/-- What it does to the heap, where the call that defers it panics with this value. -/
noncomputable def mendA (P : Program) (G : List Nat) (n : Nat) (s : CSh) (args : List Value) (v : Value) (H : AH) : Option AH :=
  match v with
  | .iface t y => match P.underlying s.at' with
    | some (.interface _) => none
    | none => none
    | some _ => if t = s.at' ∧ s.t1 < args.length + (n - args.length) then
        (aOps P G noCall s.ops s.rest (((args ++ List.replicate (n - args.length) undef).set s.t1 v).set s.t2 (.tuple #[y, .bool true])) H).bind fun q => (aCode P G noCall s.c2 q.1 q.2).bind fun r => match r.1 with
          | .exit _ => none
          | _ => some r.2.2
      else none
  | _ => none
noncomputable def mendF (P : Program) (G : List Nat) (k : Nat) (args : List Value) (v : Value) (H : AH) : Option AH :=
  match P.funcs[k]? with
  | some fn => if fn.name = "runtime.NumGoroutine" ∨ fn.results ≠ #[] then none else match fn.body with
    | some c => match cshape c with
      | some s => mendA P G fn.ntmps s args v H
      | none => none
    | none => none
  | none => none

section
variable {P : Program} {w0 : World} {B : Nat} {ρ : Ren} {H : AH} {w : World} {G : List Nat} {b : CallB} {ops : Array Oper}

theorem wpS_oper {Q : Exit → Act → List Frame → World → Prop} {i : Nat} {rest : List Nat} {a : Act} {cs : List Frame} {o : Oper} (ho : ops[i]? = some o) (hw : Region.wanted o (yielded ops a.tmps) = true)
    (h : o.wp P a w (fun a' w' => wpOpsS P ops Q rest a' cs w') (fun e a' w' => Q e a' cs w')) : wpOpsS P ops Q (i :: rest) a cs w := by
  simp only [wpOpsS, ho]
  rw [if_pos hw]
  unfold Oper.wp at h
  split
  · rename_i w' hr
    rw [hr] at h
    exact False.elim h
  · exact h

theorem opsS_sound {Q : Exit → Act → List Frame → World → Prop} {cs : List Frame} : ∀ (l : List Oper) (k : Nat), (∀ j, l[j]? = ops[k + j]?) → ∀ {ρ : Ren} {A : List Value} {H : AH} {a : Act} {w : World} {A' : List Value} {H' : AH}, aOps P G noCall ops l A H = some (A', H') →
    ActRel [] P ρ A a → GlobRel ρ G → Rel P w0 B ρ H w → (∀ a' w', Post [] P w0 B G ρ H w A' H' a' w' → Q .normal a' cs w') → wpOpsS P ops Q (List.range' k l.length) a cs w := by
  intro l
  induction l with
  | nil =>
    intro k hk ρ A H a w A' H' h hA hG hR hQ
    simp only [aOps] at h
    cases h
    exact hQ a w ⟨ρ, hA, hG, Ext.refl _ _ _, hR⟩
  | cons o rest ih =>
    intro k hk ρ A H a w A' H' h hA hG hR hQ
    simp only [aOps] at h
    obtain ⟨⟨A1, H1⟩, hs, h⟩ := Option.bind_eq_some_iff.1 h
    simp only at h
    have ho : ops[k]? = some o := by have := hk 0; simpa using this.symm
    have hk' : ∀ j, rest[j]? = ops[k + 1 + j]? := fun j => by
      have := hk (j + 1)
      rw [show k + 1 + j = k + (j + 1) from by omega, ← this]; simp
    rw [List.length_cons, List.range'_succ]
    unfold aStep at hs
    split at hs
    · rename_i hok
      split at hs
      · rename_i hw
        obtain ⟨⟨v, H2⟩, ho', e⟩ := Option.map_eq_some_iff.1 hs
        cases e
        refine wpS_oper ho (by rw [wanted_rel hA]; exact hw) (op_sound noCall_ok hA hG hR hok ho' (fun v' ρ' w' hv hE hR' => ?_))
        exact ih (k + 1) hk' h (put_rel (hA.mono hE.le) o.dst hv) (hG.mono hE.le) hR' (fun a' w'' hp => hQ a' w'' (hp.trans hR hE))
      · rename_i hw
        cases hs
        simp only [wpOpsS, ho]
        rw [wanted_rel hA, if_neg hw]
        exact ih (k + 1) hk' h (put_rel hA o.dst VRel.undef) hG hR hQ
    · cases hs

/-- **The closure recovers.** -/
theorem mend_sound (hm : P.follows .mixedOrders = true) {k : Nat} {args args' : List Value} {v v' : Value} {H' : AH} (h : mendF P G k args v H = some H') (hl : LRel P ρ args args') (hv : VRel P ρ v v') (hG : GlobRel ρ G) (hR : Rel P w0 B ρ H w) :
    (∃ fn, P.funcs[k]? = some fn ∧ fn.body.isSome = true ∧ fn.name ≠ "runtime.NumGoroutine") ∧
    CallsD P k args'.toArray (.panicking [{ v := v', recovered := false }]) w fun e u' w' => (∃ r, e = .returned r) ∧ u' = .panicking [{ v := v', recovered := true }] ∧ ∃ ρ', Ext ρ H w ρ' H' w' ∧ Rel P w0 B ρ' H' w' := by
  unfold mendF at h
  split at h
  rotate_left
  · cases h
  rename_i fn hf
  split at h
  · cases h
  rename_i hname
  split at h
  rotate_left
  · cases h
  rename_i c hb
  split at h
  rotate_left
  · cases h
  rename_i s hcs
  obtain ⟨hc, hops, hd1, ⟨ats, hop1⟩, hg1, hd2, hop2, hg2⟩ := cshape_some hcs
  have hname1 : fn.name ≠ "runtime.NumGoroutine" := fun e => hname (.inl e)
  have hres : fn.results = #[] := Classical.not_not.1 fun e => hname (.inr e)
  refine ⟨⟨fn, hf, by rw [hb]; rfl, hname1⟩, ?_⟩
  unfold mendA at h
  split at h
  rotate_left
  · cases h
  rename_i t y
  obtain ⟨y', rfl, hy⟩ := hv.iface_inv
  split at h
  · cases h
  · cases h
  rename_i d hno hu
  split at h
  rotate_left
  · cases h
  rename_i hcond
  obtain ⟨ht, hlt⟩ := hcond
  obtain ⟨⟨A2, H2⟩, h2, h⟩ := Option.bind_eq_some_iff.1 h
  obtain ⟨⟨e3, A3, H3⟩, h3, h⟩ := Option.bind_eq_some_iff.1 h
  refine callsD_of_wpS hf hb fun c0 cs hmode => ?_
  rw [hc]
  have hlen : args.length = args'.length := hl.1
  have hA0 : ActRel [] P ρ (args ++ List.replicate (fn.ntmps - args.length) undef) { tmps := args'.toArray ++ Array.replicate (fn.ntmps - args'.toArray.size) undef, defers := [] } := by
    refine ⟨?_, rfl⟩
    simp only [Array.toList_append, Array.toList_replicate, List.toList_toArray, List.size_toArray, ← hlen]
    exact hl.append ⟨rfl, fun i x y hx hy => by
      rw [List.getElem?_replicate] at hx hy
      split at hx
      · rename_i hi; rw [if_pos hi] at hy; cases hx; cases hy; exact VRel.undef
      · cases hx⟩
  have hsz : s.t1 < (args'.toArray ++ Array.replicate (fn.ntmps - args'.toArray.size) undef).size := by simp; omega
  generalize (args'.toArray ++ Array.replicate (fn.ntmps - args'.toArray.size) undef) = T at hA0 hsz
  have g0 : s.ops[0]? = some s.o1 := by
    have : s.ops.toList[0]? = some s.o1 := by rw [hops]; rfl
    simpa using this
  have g1 : s.ops[1]? = some s.o2 := by
    have : s.ops.toList[1]? = some s.o2 := by rw [hops]; rfl
    simpa using this
  have hn : s.ops.size = s.rest.length + 2 := by rw [← Array.length_toList, hops]; rfl
  refine wpS_seq (wpS_region ?_)
  rw [hn, List.range_eq_range', show s.rest.length + 2 = (s.rest.length + 1) + 1 from rfl, List.range'_succ, List.range'_succ]
  -- recover
  simp only [wpOpsS, g0]
  have hr1 : (execOp ({ tmps := T, defers := [] } : Act).eval s.o1).run P w = .ok .recover w := by
    simp [execOp, hop1, resolve, invoke, builtin]
  rw [if_pos (by simp [Region.wanted, hg1]), hr1]
  have hrec : recoverD (c0 :: cs) = some (.iface t y', { c0 with mode := .panicking [{ v := .iface t y', recovered := true }] } :: cs) := by
    simp [recoverD, hmode]
  simp only [hrec]
  -- what it is
  simp only [g1]
  have hev : (({ tmps := T, defers := [] } : Act).put s.o1.dst (.iface t y')).eval (.tmp s.t1) = .iface t y' := by
    rw [hd1]
    simp [Act.put, Act.eval, hsz, Array.getD]
  have hr2 : (execOp (({ tmps := T, defers := [] } : Act).put s.o1.dst (.iface t y')).eval s.o2).run P w = .ok (.value (.tuple #[y', .bool true])) w := by
    have hta : (Instr.typeAssert (.iface t y') s.xt s.at' true).run P w = .ok (.tuple #[y', .bool true]) w := by
      unfold Instr.typeAssert
      simp only [Sem.run_bind, run_underlying hu, Result.andThen_ok]
      cases d <;> first | (simp [ht]; done) | exact (hno _ rfl).elim
    simp only [execOp, hop2, hev, Sem.run_bind, hta, Result.andThen_ok, Sem.run_pure]
  rw [if_pos (by simp [Region.wanted, hg2]), hr2]
  simp only [Oper.upon_value]
  have hA1 := put_rel (put_rel hA0 s.o1.dst (hy.iface (t := t))) s.o2.dst (v := .tuple #[y, .bool true]) (v' := .tuple #[y', .bool true])
    (.tuple rfl (fun i p q hp hq => by
      match i, hp, hq with
      | 0, hp, hq => simp at hp hq; subst hp; subst hq; exact hy
      | 1, hp, hq => simp at hp hq; subst hp; subst hq; exact .lit rfl
      | i + 2, hp, hq => simp at hp))
  rw [show aPut (aPut (args ++ List.replicate (fn.ntmps - args.length) undef) s.o1.dst (.iface t y)) s.o2.dst (.tuple #[y, .bool true]) = ((args ++ List.replicate (fn.ntmps - args.length) undef).set s.t1 (.iface t y)).set s.t2 (.tuple #[y, .bool true]) by rw [hd1, hd2]; rfl] at hA1
  refine opsS_sound s.rest 2 (fun j => ?_) h2 hA1 hG hR (fun a2 w2 hp => ?_)
  · have : s.ops.toList[j + 2]? = s.rest[j]? := by rw [hops]; rfl
    rw [← this, show 2 + j = j + 2 from Nat.add_comm ..]; simp
  obtain ⟨ρ2, hA2, hG2, hE2, hR2⟩ := hp
  show s.c2.wpS P _ _ _ _
  refine wpS_of_wp (code_sound noCall_ok noCall_mono hm s.c2 h3 hA2 hG2 hR2 (fun a3 w3 hp => ?_))
  obtain ⟨ρ3, hA3, hG3, hE3, hR3⟩ := hp
  have fin : H3 = H' → a3.defers = [] ∧ ∃ u', ({ c0 with mode := .panicking [{ v := .iface t y', recovered := true }] } : Frame) :: cs = { c0 with mode := u' } :: cs ∧ ∃ v, (results fn a3.tmps).run P w3 = .ok v w3 ∧
      ((∃ r, Ending.returned v = .returned r) ∧ u' = .panicking [{ v := .iface t y', recovered := true }] ∧ ∃ ρ', Ext ρ H w ρ' H' w3 ∧ Rel P w0 B ρ' H' w3) := by
    rintro rfl
    exact ⟨hA3.defers, _, rfl, .tuple #[], by simp [results, hres], ⟨_, rfl⟩, rfl, ρ3, hE2.trans hR hE3, hR3⟩
  cases e3 with
  | normal => cases h; exact fin rfl
  | ret => cases h; exact fin rfl
  | exit i => cases h
end

/-! ### A function that defers one closure -/
structure RSh where
  c1 : Code
  id2 : Nat
  ops2 : Array Oper
  om : Oper
  df : Oper
  t : Nat
  k : Nat
  cap : Array Operand
  c3 : Code
def rshape : Code → Option RSh
  | .seq c1 (.seq (.region id2 ops2 false) c3) => match ops2.toList with
    | [mk, df] => match mk.dst, mk.op, mk.guard, df.dst, df.op, df.guard with
      | some t, .makeFunc (.func k) first cap, none, none, .defer ⟨.value (.tmp t'), args, _⟩, none => if t = t' ∧ first = #[] ∧ args = #[] then some ⟨c1, id2, ops2, mk, df, t, k, cap, c3⟩ else none
      | _, _, _, _, _, _ => none
    | _ => none
  | _ => none
theorem rshape_some {c : Code} {s : RSh} (h : rshape c = some s) : c = .seq s.c1 (.seq (.region s.id2 s.ops2 false) s.c3) ∧ s.ops2.toList = [s.om, s.df] ∧ s.om.dst = some s.t ∧
    s.om.op = .makeFunc (.func s.k) #[] s.cap ∧ s.om.guard = none ∧ s.df.dst = none ∧ (∃ ats, s.df.op = .defer ⟨.value (.tmp s.t), #[], ats⟩) ∧ s.df.guard = none := by
  unfold rshape at h
  split at h
  · split at h
    · rename_i hl
      split at h
      · rename_i h1 h2 h3 h4 h5 h6
        split at h
        · rename_i hc
          obtain ⟨rfl, rfl, rfl⟩ := hc
          cases h
          exact ⟨rfl, hl, h1, h2, h3, h4, ⟨_, h5⟩, h6⟩
        · cases h
      · cases h
    · cases h
  · cases h
theorem rshape_of_dshape {c : Code} {s : DSh} (h : dshape c = some s) : ∃ r, rshape c = some r ∧ r.c1 = s.c1 ∧ r.ops2 = s.ops2 ∧ r.om = s.om ∧ r.t = s.t ∧ r.k = s.k ∧ r.c3 = .seq (.region s.id3 s.ops3 false) .ret := by
  unfold dshape at h
  split at h
  · split at h
    · rename_i hl
      split at h
      · rename_i h1 h2 h3 h4 h5 h6
        split at h
        · rename_i hc
          cases h
          simp only [rshape, hl, h1, h2, h3, h4, h5, h6, if_pos hc]
          exact ⟨_, rfl, rfl, rfl, rfl, rfl, rfl, rfl⟩
        · cases h
      · cases h
    · cases h
  · cases h

noncomputable def bDefer (P : Program) (G : List Nat) (b : CallB) (n : Nat) (rs : List ResultVar) (s : RSh) (args : List Value) (H : AH) : Option (BO × AH) :=
  (aCode P G (nrm b) s.c1 (args ++ List.replicate (n - args.length) undef) H).bind fun r => match r.1 with
    | .normal => if r.2.1.length ≤ s.t then none else (aStep P G (nrm b) s.ops2 s.om r.2.1 r.2.2).bind fun q => (bCode P G b s.c3 q.1 q.2).bind fun z => match z.1 with
      | .exit _ => none
      | .pan v => (mendF P G s.k (s.cap.toList.map (aEv r.2.1)) v z.2.2).bind fun H4 => (aResults P z.2.1 H4 rs).map fun x => (.ret x, H4)
      | _ => chk (Harmless P s.k) ((aResults P z.2.1 z.2.2 rs).map fun x => (.ret x, z.2.2))
    | .ret => (aResults P r.2.1 r.2.2 rs).map fun x => (.ret x, r.2.2)
    | .exit _ => none
/-- The body of a function. -/
noncomputable def bBody (P : Program) (G : List Nat) (b : CallB) (n : Nat) (rs : List ResultVar) (c : Code) (args : List Value) (H : AH) : Option (BO × AH) :=
  (bCode P G b c (args ++ List.replicate (n - args.length) undef) H).bind fun r => match r.1 with
    | .exit _ => none
    | .pan v => some (.pan v, r.2.2)
    | _ => (aResults P r.2.1 r.2.2 rs).map fun x => (.ret x, r.2.2)
noncomputable def bFun (P : Program) (G : List Nat) (b : CallB) (fn : Func) (args : List Value) (H : AH) : Option (BO × AH) :=
  if fn.name = "runtime.NumGoroutine" then none else match fn.body with
    | some c => match rshape c with
      | none => bBody P G b fn.ntmps fn.results.toList c args H
      | some s => bDefer P G b fn.ntmps fn.results.toList s args H
    | none => none
/-- Functions of Go's library whose text is not gone through. -/
def libName (n : String) : Bool := n == "strings.Join"
/-- What such a function may tell, of what is asked for here. -/
def libV (args : List Value) (H : AH) : Option Value :=
  match args with
  | [.slice (some ⟨b, o, none⟩) 5 1, .string _] => match pCells H b with
    | some cs => match (cs.drop o).take 5 with
      | [Value.string _, Value.string _, Value.string _, Value.string _, Value.string _] => some (.string ⟨#[48, 32, 48, 32, 48, 32, 48, 32, 48]⟩)
      | _ => none
    | none => none
  | _ => none
/-- It tells this, and nothing that was there has changed. -/
def Told (P : Program) (G : List Nat) (f : Nat) (args : List Value) (H : AH) (v : Value) : Prop :=
  (∃ fn, P.funcs[f]? = some fn ∧ fn.body.isSome = true ∧ fn.name ≠ "runtime.NumGoroutine") ∧
    ∀ w0 B ρ w args', Rel P w0 B ρ H w → GlobRel ρ G → LRel P ρ args args' →
      Calls P f args'.toArray w fun e w' => ∃ ρ', BORel P ρ' (.ret v) e ∧ Ext ρ H w ρ' H w' ∧ Rel P w0 B ρ' H w'
noncomputable def bCall (P : Program) (G : List Nat) : Nat → CallB
  | 0 => fun _ _ _ => none
  | d + 1 => fun f args H => match P.funcs[f]? with
    | some fn => match libName fn.name with
      | true => match libV args H with
        | some v => chk (Told P G f args H v) (some (.ret v, H))
        | none => none
      | false => bFun P G (bCall P G d) fn args H
    | none => none

section
variable {P : Program} {w0 : World} {B : Nat} {ρ : Ren} {H : AH} {w : World} {G : List Nat} {b : CallB}

theorem deferb_sound (hb : CallBOK P G b) (hmono : CallBMono b) (hm : P.follows .mixedOrders = true) {f : Nat} {fn : Func} {c : Code} {s : RSh} (hf : P.funcs[f]? = some fn) (hbd : fn.body = some c) (hd : rshape c = some s)
    {args : List Value} {args' : Array Value} {o : BO} {H' : AH} (h : bDefer P G b fn.ntmps fn.results.toList s args H = some (o, H'))
    (hA : ActRel [] P ρ (args ++ List.replicate (fn.ntmps - args.length) undef) { tmps := args' ++ Array.replicate (fn.ntmps - args'.size) undef, defers := [] }) (hG : GlobRel ρ G) (hR : Rel P w0 B ρ H w) :
    Calls P f args' w fun e w' => ∃ ρ', BORel P ρ' o e ∧ Ext ρ H w ρ' H' w' ∧ Rel P w0 B ρ' H' w' := by
  obtain ⟨hc, hl2, hdst, hop, hg, hdd, ⟨ats, hdo⟩, hdg⟩ := rshape_some hd
  have hcall := nrm_ok hb
  have hmn := nrm_mono hmono
  unfold bDefer at h
  obtain ⟨⟨e1, A1, H1⟩, h1, h⟩ := Option.bind_eq_some_iff.1 h
  cases e1 with
  | exit i => cases h
  | ret =>
    simp only at h
    refine calls_of_wp_defers hf hbd ?_
    rw [hc]
    refine wp_seq (code_sound hcall hmn hm s.c1 h1 hA hG hR (fun a1 w1 hp => ?_))
    obtain ⟨ρ1, hA1, hG1, hE1, hR1⟩ := hp
    obtain ⟨x, hx, e⟩ := Option.map_eq_some_iff.1 h
    cases e
    obtain ⟨v3, hr3, hv3⟩ := results_run hA1 hR1 hx
    show Leaves P fn a1.tmps _ a1.defers .returning w1
    rw [hA1.defers]
    exact ⟨v3, hr3, ρ1, ⟨v3, rfl, hv3⟩, hE1, hR1⟩
  | normal =>
    simp only at h
    split at h
    · cases h
    rename_i hlt
    obtain ⟨⟨A2, H2⟩, h2, h⟩ := Option.bind_eq_some_iff.1 h
    obtain ⟨⟨e3, A3, H3⟩, h3, h⟩ := Option.bind_eq_some_iff.1 h
    refine calls_of_wp_defers hf hbd ?_
    rw [hc]
    refine wp_seq (code_sound hcall hmn hm s.c1 h1 hA hG hR (fun a1 w1 hp => ?_))
    obtain ⟨ρ1, hA1, hG1, hE1, hR1⟩ := hp
    refine wp_seq (wp_region_list ?_)
    rw [hl2]
    have hd1 : a1.defers = [] := hA1.defers
    unfold aStep at h2
    split at h2
    rotate_left
    · cases h2
    rename_i hok
    have hwt : Region.wanted s.om (aYield s.ops2 A1) = true := by simp [Region.wanted, hg]
    rw [if_pos hwt] at h2
    obtain ⟨⟨y, H2'⟩, ho, e⟩ := Option.map_eq_some_iff.1 h2
    cases e
    refine wpList_plain hg (fun K hK => OpOut.wp (op_reach hcall hA1 hG1 hR1 hok ho) (fun v' w2 hv => hK _ _ ?_))
    obtain ⟨ρ2, hv, hE2, hR2⟩ := hv
    have hy : y = .func (.func s.k) #[] (s.cap.map (aEv A1)) := by
      unfold aOp at ho
      rw [hop] at ho
      simp at ho
      exact ho.1.symm
    rw [hy] at hv
    obtain ⟨f', c', rfl, hf', hc'⟩ := hv.func_inv
    have hf0 : f' = #[] := by
      have := hf'.1
      simp at this
      exact Array.eq_empty_of_size_eq_zero (by simpa using this.symm)
    subst hf0
    refine wpList_plain hdg (fun K' hK' => ?_)
    have ht : (a1.put s.om.dst (.func (.func s.k) #[] c')).eval (.tmp s.t) = .func (.func s.k) #[] c' := by
      have hsz : s.t < a1.tmps.size := by have := hA1.tmps.1; simp at this; omega
      rw [hdst]
      simp [Act.put, Act.eval, hsz, Array.getD]
    have hrun : (execOp (a1.put s.om.dst (.func (.func s.k) #[] c')).eval s.df).run P w2 = .ok (.defer { target := .fn (.func s.k) c', args := #[] }) w2 := by
      simp [execOp, hdo, resolve, ht, Deferred.ofValue]
    unfold Oper.wp
    rw [hrun, Oper.upon_defer]
    refine hK' _ _ (wpList_nil ?_)
    rw [hdd]
    have hA2 := put_rel (hA1.mono hE2.le) s.om.dst hv
    have hpd : ∀ (a : Act) (d : Option Tmp) (x : Value), (a.put d x).defers = a.defers := by intro a d x; cases d <;> rfl
    have hA2' : ActRel [{ target := .fn (.func s.k) c', args := #[] }] P ρ2 (aPut A1 s.om.dst (.func (.func s.k) #[] (s.cap.map (aEv A1)))) (({ a1.put s.om.dst (.func (.func s.k) #[] c') with defers := { target := .fn (.func s.k) c', args := #[] } :: (a1.put s.om.dst (.func (.func s.k) #[] c')).defers } : Act).put none undef) := by
      refine ⟨hA2.tmps, ?_⟩
      show _ :: (a1.put s.om.dst _).defers = _
      rw [hpd, hd1]
    rw [hy] at h3
    show s.c3.wp P _ _ _
    refine codeb_sound hb hmono hm s.c3 h3 hA2' (hG1.mono hE2.le) hR2 (fun ex a3 w3 hp => ?_)
    obtain ⟨ρ3, hex, hA3, hG3, hE3, hR3⟩ := hp
    have done : (Harmless P s.k) → (aResults P A3 H3 fn.results.toList).map (fun x => (BO.ret x, H3)) = some (o, H') → Leaves P fn a3.tmps (fun e w' => ∃ ρ', BORel P ρ' o e ∧ Ext ρ H w ρ' H' w' ∧ Rel P w0 B ρ' H' w') a3.defers .returning w3 := by
      rintro ⟨⟨fk, hfk, hbk, hnk⟩, hcd⟩ hx
      obtain ⟨x, hx2, e⟩ := Option.map_eq_some_iff.1 hx
      cases e
      obtain ⟨v3, hr3, hv3⟩ := results_run hA3 hR3 hx2
      have hbn : ¬ (fk.body = none) := by intro hb; rw [hb] at hbk; cases hbk
      rw [hA3.defers]
      refine leaves_cons (f := s.k) (args := c') (by simp) (by simp [invoke, callFunc, hfk, hnk, hbn]) (CallsD.mono (hcd _ _) ?_)
      rintro e' u' w' ⟨⟨v0, rfl⟩, rfl, rfl⟩
      exact ⟨v3, hr3, ρ3, ⟨v3, rfl, hv3⟩, hE1.trans hR (hE2.trans hR1 hE3), hR3⟩
    cases e3 with
    | exit i => cases h
    | normal => cases hex; obtain ⟨p, h⟩ := chk_some h; exact done p h
    | ret => cases hex; obtain ⟨p, h⟩ := chk_some h; exact done p h
    | pan v =>
      obtain ⟨v', rfl, hv'⟩ := hex
      simp only at h
      obtain ⟨H4, hmd, h⟩ := Option.bind_eq_some_iff.1 h
      obtain ⟨x, hx, e⟩ := Option.map_eq_some_iff.1 h
      cases e
      have hcl : LRel P ρ3 (s.cap.toList.map (aEv A1)) c'.toList := by
        have := hc'.mono hE3.le
        simpa using this
      obtain ⟨⟨fk, hfk, hbk, hnk⟩, hcd⟩ := mend_sound (w0 := w0) (B := B) hm hmd hcl hv' hG3 hR3
      have hbn : ¬ (fk.body = none) := by intro hb; rw [hb] at hbk; cases hbk
      show Leaves P fn a3.tmps _ a3.defers (.panicking _) w3
      rw [hA3.defers]
      refine leaves_cons (f := s.k) (args := c') (by simp) (by simp [invoke, callFunc, hfk, hnk, hbn]) (CallsD.mono (by simpa using hcd) ?_)
      rintro e' u' w' ⟨⟨v0, rfl⟩, rfl, ρ4, hE4, hR4⟩
      obtain ⟨v3, hr3, hv3⟩ := results_run (hA3.mono hE4.le) hR4 hx
      exact ⟨v3, hr3, ρ4, ⟨v3, rfl, hv3⟩, hE1.trans hR (hE2.trans hR1 (hE3.trans hR2 hE4)), hR4⟩

theorem mendF_mono {k : Nat} {args : List Value} {v : Value} {H' : AH} (h : mendF P G k args v H = some H') : H.size ≤ H'.size := by
  unfold mendF at h
  split at h
  · split at h
    · cases h
    · split at h
      · split at h
        · unfold mendA at h
          split at h
          · split at h
            · cases h
            · cases h
            · split at h
              · obtain ⟨q, h2, h⟩ := Option.bind_eq_some_iff.1 h
                obtain ⟨r, h3, h⟩ := Option.bind_eq_some_iff.1 h
                have g2 := aOps_mono noCall_mono _ h2
                have g3 := aCode_mono noCall_mono _ h3
                split at h
                · cases h
                · cases h; exact Nat.le_trans g2 g3
              · cases h
          · cases h
        · cases h
      · cases h
  · cases h

theorem bDefer_mono (hm : CallBMono b) {n : Nat} {rs : List ResultVar} {s : RSh} {args : List Value} {o : BO} {H' : AH} (h : bDefer P G b n rs s args H = some (o, H')) : H.size ≤ H'.size := by
  unfold bDefer at h
  obtain ⟨⟨e1, A1, H1⟩, h1, h⟩ := Option.bind_eq_some_iff.1 h
  cases e1 with
  | exit i => cases h
  | ret => obtain ⟨x, _, e⟩ := Option.map_eq_some_iff.1 h; cases e; exact aCode_mono (nrm_mono hm) _ h1
  | normal =>
    simp only at h
    split at h
    · cases h
    obtain ⟨⟨A2, H2⟩, h2, h⟩ := Option.bind_eq_some_iff.1 h
    obtain ⟨⟨e3, A3, H3⟩, h3, h⟩ := Option.bind_eq_some_iff.1 h
    have g1 := aCode_mono (nrm_mono hm) _ h1
    have g2 : H1.size ≤ H2.size := aOps_mono (P := P) (G := G) (call := nrm b) (nrm_mono hm) [s.om] (ops := s.ops2) (A := A1) (H := H1) (r := (A2, H2)) (by simp [aOps, h2])
    have g3 := bCode_mono hm _ h3
    simp only at g1 g3
    have g : H.size ≤ H3.size := Nat.le_trans g1 (Nat.le_trans g2 g3)
    cases e3 with
    | exit i => cases h
    | normal => obtain ⟨_, h⟩ := chk_some h; obtain ⟨x, _, e⟩ := Option.map_eq_some_iff.1 h; cases e; exact g
    | ret => obtain ⟨_, h⟩ := chk_some h; obtain ⟨x, _, e⟩ := Option.map_eq_some_iff.1 h; cases e; exact g
    | pan v =>
      simp only at h
      obtain ⟨H4, hmd, h⟩ := Option.bind_eq_some_iff.1 h
      obtain ⟨x, _, e⟩ := Option.map_eq_some_iff.1 h
      cases e
      exact Nat.le_trans g (mendF_mono hmd)

theorem callb_sound (hm : P.follows .mixedOrders = true) : ∀ d, CallBOK P G (bCall P G d) ∧ CallBMono (bCall P G d) := by
  intro d
  induction d with
  | zero => exact ⟨fun f args H v H' h => (by cases h), fun f args H v H' h => (by cases h)⟩
  | succ d ih =>
    constructor
    · intro f args H o H' h
      simp only [bCall] at h
      split at h
      rotate_left
      · cases h
      rename_i fn hf
      split at h
      · split at h
        · obtain ⟨ht, h⟩ := chk_some h
          cases h
          exact ht
        · cases h
      unfold bFun at h
      split at h
      · cases h
      rename_i hn
      split at h
      rotate_left
      · cases h
      rename_i c hb
      refine ⟨⟨fn, hf, by rw [hb]; rfl, hn⟩, fun w0 B ρ w args' hR hG hl => ?_⟩
      have hlen : args.length = args'.length := hl.1
      have hA : ActRel [] P ρ (args ++ List.replicate (fn.ntmps - args.length) undef) { tmps := args'.toArray ++ Array.replicate (fn.ntmps - args'.toArray.size) undef, defers := [] } := by
        refine ⟨?_, rfl⟩
        simp only [Array.toList_append, Array.toList_replicate, List.toList_toArray, List.size_toArray, ← hlen]
        exact hl.append ⟨rfl, fun i x y hx hy => by
          rw [List.getElem?_replicate] at hx hy
          split at hx
          · rename_i hi; rw [if_pos hi] at hy; cases hx; cases hy; exact VRel.undef
          · cases hx⟩
      split at h
      · rename_i hd
        unfold bBody at h
        obtain ⟨⟨e, A', H2⟩, hc, h⟩ := Option.bind_eq_some_iff.1 h
        refine calls_of_wp hf hb ?_
        refine codeb_sound ih.1 ih.2 hm c hc hA hG hR (fun ex a' w' hp => ?_)
        obtain ⟨ρ', hex, hA', hG', hE, hR'⟩ := hp
        have fin : ∀ {o : BO} {H3 : AH}, (aResults P A' H2 fn.results.toList).map (fun x => (BO.ret x, H2)) = some (o, H3) → a'.defers = [] ∧ ∃ v', (results fn a'.tmps).run P w' = .ok v' w' ∧ ∃ ρ'', BORel P ρ'' o (.returned v') ∧ Ext ρ H w ρ'' H3 w' ∧ Rel P w0 B ρ'' H3 w' := by
          intro o H3 hx
          obtain ⟨y, hy, e⟩ := Option.map_eq_some_iff.1 hx
          cases e
          obtain ⟨v', hr, hv⟩ := results_run hA' hR' hy
          exact ⟨hA'.defers, v', hr, ρ', ⟨v', rfl, hv⟩, hE, hR'⟩
        cases e with
        | normal => cases hex; exact fin h
        | ret => cases hex; exact fin h
        | exit i => cases h
        | pan v =>
          obtain ⟨v', rfl, hv⟩ := hex
          cases h
          exact ⟨hA'.defers, ρ', ⟨v', rfl, hv⟩, hE, hR'⟩
      · rename_i s hd
        exact deferb_sound ih.1 ih.2 hm hf hb hd h hA hG hR
    · intro f args H o H' h
      simp only [bCall] at h
      split at h
      rotate_left
      · cases h
      rename_i fn hf
      split at h
      · split at h
        · obtain ⟨_, h⟩ := chk_some h
          cases h
          exact Nat.le_refl _
        · cases h
      unfold bFun at h
      split at h
      · cases h
      split at h
      rotate_left
      · cases h
      split at h
      · unfold bBody at h
        obtain ⟨⟨e, A', H2⟩, hc, h⟩ := Option.bind_eq_some_iff.1 h
        have h1 := bCode_mono ih.2 _ hc
        cases e with
        | normal => obtain ⟨y, hy, e⟩ := Option.map_eq_some_iff.1 h; cases e; exact h1
        | ret => obtain ⟨y, hy, e⟩ := Option.map_eq_some_iff.1 h; cases e; exact h1
        | exit i => cases h
        | pan v => cases h; exact h1
      · exact bDefer_mono ih.2 h
end
end Go.Proofs.YthagelbepgcolaaGreatDoor.Gst
/- More depth tells no other thing; what a call comes to, at whatever depth. -/
namespace Go.Proofs.YthagelbepgcolaaGreatDoor.Gst
open Go Go.RowKit
set_option linter.unusedSimpArgs false
set_option linter.unusedVariables false

def BLe (b1 b2 : CallB) : Prop := ∀ f args H r, b1 f args H = some r → b2 f args H = some r

section
variable {P : Program} {G : List Nat} {b b1 b2 : CallB} {ops : Array Oper}
theorem nrm_le (h : BLe b1 b2) : CLe (nrm b1) (nrm b2) := fun f args H r hr => nrm_some.2 (h _ _ _ _ (nrm_some.1 hr))

theorem bSpO_le (h : BLe b1 b2) {ev : Operand → Value} {op : Op} {H : AH} {x : Spc} (hx : bSpO P b1 ev op H = some x) : bSpO P b2 ev op H = some x := by
  cases op with
  | call c =>
    obtain ⟨callee, args, ats⟩ := c
    cases callee with
    | value f =>
      simp only [bSpO] at hx ⊢
      obtain ⟨fa, hfa, hx⟩ := Option.bind_eq_some_iff.1 hx
      rw [hfa]
      simp only [Option.bind_some]
      split at hx
      · rename_i v H' hb; rw [h _ _ _ _ hb]; exact hx
      · cases hx
    | invoke r m => exact hx
    | builtin bi => cases bi <;> exact hx
  | slice t x lo hi mx => cases mx <;> exact hx
  | _ => exact hx
theorem bSp_le (h : BLe b1 b2) {o : Oper} {A : List Value} {H : AH} {x : Spc} (hx : bSp P G b1 ops o A H = some x) : bSp P G b2 ops o A H = some x := by
  unfold bSp at hx ⊢
  split at hx
  · rename_i hc
    rw [if_pos hc]
    exact bSpO_le h hx
  · cases hx

theorem bSpO_none {ev : Operand → Value} {o : Oper} {H : AH} {r : Value × AH} (hr : aOp P (nrm b) ev o H = some r) : bSpO P b ev o.op H = none := by
  obtain ⟨dst, op, type, pos, after, guard⟩ := o
  cases op with
  | call c =>
    obtain ⟨callee, args, ats⟩ := c
    cases callee with
    | value f =>
      simp only [aOp] at hr
      simp only [bSpO]
      obtain ⟨fa, hfa, hr⟩ := Option.bind_eq_some_iff.1 hr
      rw [hfa]
      simp only [Option.bind_some, nrm_some.1 hr]
    | invoke r m => rfl
    | builtin bi =>
      simp only [aOp] at hr
      cases bi <;> first | rfl | (simp [aBuiltin] at hr; done)
  | panic x => simp [aOp] at hr
  | makeInterface t x => simp [aOp] at hr
  | convert src dst x =>
    simp only [bSpO]
    split
    · rename_i hc
      obtain ⟨e, h1, h2, h3⟩ := isB2S_iff hc
      simp only [aOp, h1] at hr
      have : kindOf P dst = none := by unfold kindOf; rw [h3]
      rw [this] at hr
      simp [pConv] at hr
    · rfl
  | slice t x lo hi mx =>
    cases mx with
    | some m => rfl
    | none =>
      simp only [bSpO]
      split
      · rename_i hu
        simp only [aOp] at hr
        unfold elemOf' at hr
        rw [hu] at hr
        cases hr
      · rfl
  | _ => rfl
theorem bSp_none {o : Oper} {A : List Value} {H : AH} {s : List Value × AH} (hs : aStep P G (nrm b) ops o A H = some s) : bSp P G b ops o A H = none := by
  unfold bSp
  split
  · rename_i hc
    unfold aStep at hs
    rw [if_pos hc.1, if_pos hc.2] at hs
    obtain ⟨r, hr, _⟩ := Option.map_eq_some_iff.1 hs
    exact bSpO_none hr
  · rfl

theorem bOps_le (h : BLe b1 b2) : ∀ (l : List Oper) {A : List Value} {H : AH} {r : BR}, bOps P G b1 ops l A H = some r → bOps P G b2 ops l A H = some r := by
  intro l
  induction l with
  | nil => intro A H r hr; exact hr
  | cons o l ih =>
    intro A H r hr
    simp only [bOps] at hr ⊢
    split at hr
    · rename_i hs; rw [bSp_le h hs]; exact hr
    · rename_i hs; rw [bSp_le h hs]; exact ih hr
    · obtain ⟨s, hs, hr⟩ := Option.bind_eq_some_iff.1 hr
      have hs2 := aStep_le (nrm_le h) hs
      rw [bSp_none hs2, hs2]
      exact ih hr

theorem bCode_le (h : BLe b1 b2) : ∀ (c : Code) {A : List Value} {H : AH} {r : BR}, bCode P G b1 c A H = some r → bCode P G b2 c A H = some r := by
  intro c
  induction c with
  | region id ops draw =>
    intro A H r hr
    simp only [bCode] at hr ⊢
    cases draw with
    | true =>
      obtain ⟨s, hs, e1⟩ := Option.map_eq_some_iff.1 hr
      simp only
      rw [aDraw_le (nrm_le h) hs]; exact congrArg some e1
    | false => exact bOps_le h _ hr
  | seq x y ihx ihy =>
    intro A H r hr
    simp only [bCode] at hr ⊢
    obtain ⟨s, hx, hr⟩ := Option.bind_eq_some_iff.1 hr
    rw [ihx hx]
    simp only [Option.bind_some]
    split at hr
    · exact ihy hr
    · exact hr
  | cond c x y ihx ihy =>
    intro A H r hr
    simp only [bCode] at hr ⊢
    split at hr
    · exact ihx hr
    · exact ihy hr
    · cases hr
  | block id x ih =>
    intro A H r hr
    simp only [bCode] at hr ⊢
    obtain ⟨s, hx, e2⟩ := Option.map_eq_some_iff.1 hr
    rw [ih hx]; exact congrArg some e2
  | loop x ih =>
    intro A H r hr
    simp only [bCode] at hr ⊢
    obtain ⟨n, hn⟩ := bLoop_iff.1 hr
    refine bLoop_iff.2 ⟨n, ?_⟩
    clear hr
    induction n generalizing A H with
    | zero => cases hn
    | succ n ihn =>
      simp only [bIter] at hn ⊢
      obtain ⟨s, hx, hr⟩ := Option.bind_eq_some_iff.1 hn
      rw [ih hx]
      simp only [Option.bind_some]
      split at hr
      · exact ihn hr
      · exact hr
  | _ => intro A H r hr; exact hr

theorem bFun_le (h : BLe b1 b2) {fn : Func} {args : List Value} {H : AH} {r : BO × AH} (hr : bFun P G b1 fn args H = some r) : bFun P G b2 fn args H = some r := by
  unfold bFun at hr ⊢
  split at hr
  · cases hr
  rename_i hn
  rw [if_neg hn]
  split at hr
  rotate_left
  · cases hr
  split at hr
  · unfold bBody at hr ⊢
    obtain ⟨s, hs, hr⟩ := Option.bind_eq_some_iff.1 hr
    rw [bCode_le h _ hs]
    exact hr
  · unfold bDefer at hr ⊢
    obtain ⟨⟨e1, A1, H1⟩, h1, hr⟩ := Option.bind_eq_some_iff.1 hr
    rw [aCode_le (nrm_le h) _ h1]
    simp only [Option.bind_some]
    cases e1 with
    | exit i => exact hr
    | ret => exact hr
    | normal =>
      simp only at hr ⊢
      split at hr
      · cases hr
      rename_i hlt
      rw [if_neg hlt]
      obtain ⟨q, h2, hr⟩ := Option.bind_eq_some_iff.1 hr
      obtain ⟨z, h3, hr⟩ := Option.bind_eq_some_iff.1 hr
      rw [aStep_le (nrm_le h) h2]
      simp only [Option.bind_some]
      rw [bCode_le h _ h3]
      exact hr
theorem bCall_succ : ∀ d, BLe (bCall P G d) (bCall P G (d + 1)) := by
  intro d
  induction d with
  | zero => intro f args H r h; cases h
  | succ d ih =>
    intro f args H r h
    rw [bCall] at h ⊢
    simp only [] at h ⊢
    cases hf : P.funcs[f]? with
    | none => rw [hf] at h; cases h
    | some fn =>
      rw [hf] at h
      simp only at h ⊢
      cases hl : libName fn.name with
      | true => rw [hl] at h; exact h
      | false => rw [hl] at h; exact bFun_le ih h
theorem bCall_le {d e : Nat} (h : d ≤ e) : BLe (bCall P G d) (bCall P G e) := by
  induction e with
  | zero => rw [show d = 0 from by omega]; exact fun _ _ _ _ h => h
  | succ e ih =>
    by_cases hd : d = e + 1
    · rw [hd]; exact fun _ _ _ _ h => h
    · exact fun f args H r hr => bCall_succ e f args H r (ih (by omega) f args H r hr)

/-! ### A run without a panic is one of these -/
def AE.up : AE → BE
  | .normal => .normal
  | .exit i => .exit i
  | .ret => .ret
theorem bOps_lift : ∀ (l : List Oper) {A : List Value} {H : AH} {s : List Value × AH}, aOps P G (nrm b) ops l A H = some s → bOps P G b ops l A H = some (.normal, s.1, s.2) := by
  intro l
  induction l with
  | nil => intro A H s h; simp only [aOps] at h; cases h; rfl
  | cons o l ih =>
    intro A H s h
    simp only [aOps] at h
    obtain ⟨q, hq, h⟩ := Option.bind_eq_some_iff.1 h
    simp only [bOps]
    rw [bSp_none hq, hq]
    exact ih h
theorem bCode_lift : ∀ (c : Code) {A : List Value} {H : AH} {r : AR}, aCode P G (nrm b) c A H = some r → bCode P G b c A H = some (r.1.up, r.2.1, r.2.2) := by
  intro c
  induction c with
  | skip => intro A H r h; simp only [aCode] at h; cases h; rfl
  | label l => intro A H r h; simp only [aCode] at h; cases h; rfl
  | exit id => intro A H r h; simp only [aCode] at h; cases h; rfl
  | ret => intro A H r h; simp only [aCode] at h; cases h; rfl
  | region id ops draw =>
    intro A H r hr
    simp only [aCode] at hr
    simp only [bCode]
    obtain ⟨s, hs, e1⟩ := Option.map_eq_some_iff.1 hr
    cases e1
    cases draw with
    | true =>
      have hs' : aDraw P G (nrm b) ops A H = some s := hs
      simp only [hs', Option.map_some]; rfl
    | false => exact bOps_lift _ hs
  | seq x y ihx ihy =>
    intro A H r hr
    simp only [aCode] at hr
    simp only [bCode]
    obtain ⟨s, hx, hr⟩ := Option.bind_eq_some_iff.1 hr
    rw [ihx hx]
    simp only [Option.bind_some]
    obtain ⟨e, A1, H1⟩ := s
    cases e with
    | normal => exact ihy hr
    | exit i => cases hr; rfl
    | ret => cases hr; rfl
  | cond c x y ihx ihy =>
    intro A H r hr
    simp only [aCode] at hr
    simp only [bCode]
    split at hr
    · rename_i ht; first | (rw [ht]; exact ihx hr) | exact ihx hr
    · rename_i ht; first | (rw [ht]; exact ihy hr) | exact ihy hr
    · cases hr
  | block id x ih =>
    intro A H r hr
    simp only [aCode] at hr
    simp only [bCode]
    obtain ⟨s, hx, e2⟩ := Option.map_eq_some_iff.1 hr
    rw [ih hx]
    obtain ⟨e, A1, H1⟩ := s
    cases e with
    | normal => cases e2; rfl
    | ret => cases e2; rfl
    | exit i =>
      simp only [Option.map_some, AE.up] at e2 ⊢
      split at e2
      · rename_i hi; cases e2; rw [if_pos hi]
      · rename_i hi; cases e2; rw [if_neg hi]
  | loop x ih =>
    intro A H r hr
    simp only [aCode] at hr
    simp only [bCode]
    obtain ⟨n, hn⟩ := aLoop_iff.1 hr
    refine bLoop_iff.2 ⟨n, ?_⟩
    clear hr
    induction n generalizing A H with
    | zero => cases hn
    | succ n ihn =>
      simp only [aIter] at hn
      simp only [bIter]
      obtain ⟨s, hx, hr⟩ := Option.bind_eq_some_iff.1 hn
      rw [ih hx]
      simp only [Option.bind_some]
      obtain ⟨e, A1, H1⟩ := s
      cases e with
      | normal => exact ihn hr
      | exit i => cases hr; rfl
      | ret => cases hr; rfl
  | _ => intro A H r hr; simp [aCode] at hr

theorem aBody_lift {n : Nat} {rs : List ResultVar} {c : Code} {args : List Value} {H : AH} {r : Value × AH} (h : aBody P G (nrm b) n rs c args H = some r) : bBody P G b n rs c args H = some (.ret r.1, r.2) := by
  unfold aBody at h
  unfold bBody
  obtain ⟨⟨e, A1, H1⟩, hs, h⟩ := Option.bind_eq_some_iff.1 h
  rw [bCode_lift _ hs]
  simp only [Option.bind_some]
  cases e with
  | exit i => cases h
  | normal => obtain ⟨x, hx, e⟩ := Option.map_eq_some_iff.1 h; cases e; simp only [AE.up]; rw [hx]; rfl
  | ret => obtain ⟨x, hx, e⟩ := Option.map_eq_some_iff.1 h; cases e; simp only [AE.up]; rw [hx]; rfl

theorem aBody_defer {n : Nat} {rs : List ResultVar} {c : Code} {s : RSh} (hs : rshape c = some s) {args : List Value} {H : AH} {r : Value × AH} (h : aBody P G (nrm b) n rs c args H = some r) : bDefer P G b n rs s args H = some (.ret r.1, r.2) := by
  obtain ⟨hc, hl2, hdst, hop, hg, hdd, ⟨ats, hdo⟩, hdg⟩ := rshape_some hs
  unfold aBody at h
  unfold bDefer
  obtain ⟨⟨e, A1, H1⟩, hs, h⟩ := Option.bind_eq_some_iff.1 h
  rw [hc] at hs
  simp only [aCode] at hs
  obtain ⟨⟨e1, A2, H2⟩, h1, hs⟩ := Option.bind_eq_some_iff.1 hs
  rw [h1]
  simp only [Option.bind_some]
  cases e1 with
  | exit i => cases hs; cases h
  | ret =>
    cases hs
    obtain ⟨x, hx, e⟩ := Option.map_eq_some_iff.1 h
    cases e
    simp only
    rw [hx]; rfl
  | normal =>
    exfalso
    simp only at hs
    obtain ⟨⟨e3, A3, H3⟩, h3, _⟩ := Option.bind_eq_some_iff.1 hs
    obtain ⟨q, h3, _⟩ := Option.map_eq_some_iff.1 h3
    simp only [aRegion, hl2, aOps] at h3
    obtain ⟨q1, _, h3⟩ := Option.bind_eq_some_iff.1 h3
    obtain ⟨q2, h3, _⟩ := Option.bind_eq_some_iff.1 h3
    unfold aStep at h3
    split at h3
    · rw [if_pos (by simp [Region.wanted, hdg])] at h3
      obtain ⟨z, hz, _⟩ := Option.map_eq_some_iff.1 h3
      unfold aOp at hz
      rw [hdo] at hz
      cases hz
    · cases h3

theorem aFun_lift {fn : Func} {c : Code} (hb : fn.body = some c) (hn : fn.name ≠ "runtime.NumGoroutine") {args : List Value} {H : AH} {r : Value × AH} (h : aBody P G (nrm b) fn.ntmps fn.results.toList c args H = some r) : bFun P G b fn args H = some (.ret r.1, r.2) := by
  unfold bFun
  rw [if_neg hn, hb]
  simp only
  cases hs : rshape c with
  | none => exact aBody_lift h
  | some s => exact aBody_defer hs h

theorem aDefer_lift {n : Nat} {rs : List ResultVar} {c : Code} {s : DSh} (hs : dshape c = some s) {args : List Value} {H : AH} {r : Value × AH} (hh : Harmless P s.k) (h : aDefer P G (nrm b) n rs s args H = some r) :
    ∃ s', rshape c = some s' ∧ bDefer P G b n rs s' args H = some (.ret r.1, r.2) := by
  obtain ⟨s', hr, e1, e2, e3, e4, e5, e6⟩ := rshape_of_dshape hs
  refine ⟨s', hr, ?_⟩
  unfold aDefer at h
  unfold bDefer
  obtain ⟨⟨e, A1, H1⟩, h1, h⟩ := Option.bind_eq_some_iff.1 h
  rw [e1, e2, e3, e4, e5, e6, h1]
  simp only [Option.bind_some]
  cases e with
  | exit i => cases h
  | ret => cases h
  | normal =>
    simp only at h ⊢
    split at h
    · cases h
    rename_i hlt
    rw [if_neg hlt]
    obtain ⟨q, h2, h⟩ := Option.bind_eq_some_iff.1 h
    obtain ⟨z, h3, h⟩ := Option.bind_eq_some_iff.1 h
    rw [h2]
    simp only [Option.bind_some, bCode]
    rw [bOps_lift _ h3]
    simp only [Option.bind_some]
    obtain ⟨x, hx, e⟩ := Option.map_eq_some_iff.1 h
    cases e
    rw [chk_true hh, hx]; rfl

open Classical in
/-- **What a call comes to**, at whatever depth: it returns, or it panics. -/
noncomputable def bF (P : Program) (G : List Nat) : CallB := fun f args H => if h : ∃ d r, bCall P G d f args H = some r then some h.choose_spec.choose else none
theorem bF_iff {f : Nat} {args : List Value} {H : AH} {r : BO × AH} : bF P G f args H = some r ↔ ∃ d, bCall P G d f args H = some r := by
  unfold bF
  constructor
  · intro h
    split at h
    · rename_i hx
      cases h
      exact ⟨_, hx.choose_spec.choose_spec⟩
    · cases h
  · rintro ⟨n, hn⟩
    have hx : ∃ d r, bCall P G d f args H = some r := ⟨n, r, hn⟩
    rw [dif_pos hx]
    have h1 := bCall_le (Nat.le_max_right n hx.choose) _ _ _ _ hx.choose_spec.choose_spec
    have h2 := bCall_le (Nat.le_max_left n hx.choose) _ _ _ _ hn
    rw [h2] at h1
    exact h1.symm
/-- **What a call tells that returns.** -/
noncomputable def aF (P : Program) (G : List Nat) : CallF := nrm (bF P G)
theorem aF_iff {f : Nat} {args : List Value} {H : AH} {r : Value × AH} : aF P G f args H = some r ↔ ∃ d, nrm (bCall P G d) f args H = some r := by
  unfold aF
  rw [nrm_some, bF_iff]
  exact ⟨fun ⟨d, h⟩ => ⟨d, nrm_some.2 h⟩, fun ⟨d, h⟩ => ⟨d, nrm_some.1 h⟩⟩

theorem bF_ok (hm : P.follows .mixedOrders = true) : CallBOK P G (bF P G) ∧ CallBMono (bF P G) := by
  constructor
  · intro f args H v H' h
    obtain ⟨d, hd⟩ := bF_iff.1 h
    exact (callb_sound hm d).1 f args H v H' hd
  · intro f args H v H' h
    obtain ⟨d, hd⟩ := bF_iff.1 h
    exact (callb_sound hm d).2 f args H v H' hd
theorem aF_ok (hm : P.follows .mixedOrders = true) : CallOK P G (aF P G) ∧ CallMono (aF P G) := ⟨nrm_ok (bF_ok hm).1, nrm_mono (bF_ok hm).2⟩
theorem bCall_F (d : Nat) : BLe (bCall P G d) (bF P G) := fun _ _ _ _ h => bF_iff.2 ⟨d, h⟩

/-! ### A run that ends has gone to some depth -/
theorem aOp_fin {ev : Operand → Value} {o : Oper} {H : AH} {r : Value × AH} (h : aOp P (aF P G) ev o H = some r) : ∃ d, aOp P (nrm (bCall P G d)) ev o H = some r := by
  obtain ⟨dst, op, type, pos, after, guard⟩ := o
  cases op with
  | call c =>
    obtain ⟨callee, args, ats⟩ := c
    cases callee with
    | value f =>
      simp only [aOp] at h ⊢
      obtain ⟨x, hx, h⟩ := Option.bind_eq_some_iff.1 h
      obtain ⟨d, hd⟩ := aF_iff.1 h
      exact ⟨d, by rw [hx]; exact hd⟩
    | invoke r m => exact ⟨0, h⟩
    | builtin b => exact ⟨0, h⟩
  | makeMap t r => cases r <;> exact ⟨0, h⟩
  | slice t x lo hi mx => cases lo <;> cases hi <;> cases mx <;> exact ⟨0, h⟩
  | _ => exact ⟨0, h⟩
theorem aStep_fin {o : Oper} {A : List Value} {H : AH} {s : List Value × AH} (hs : aStep P G (aF P G) ops o A H = some s) : ∃ d, aStep P G (nrm (bCall P G d)) ops o A H = some s := by
  unfold aStep at hs ⊢
  split at hs
  · rename_i hok
    split at hs
    · rename_i hw
      obtain ⟨x, hx, e⟩ := Option.map_eq_some_iff.1 hs
      obtain ⟨d, hd⟩ := aOp_fin hx
      exact ⟨d, by rw [if_pos hok, if_pos hw, hd]; exact congrArg some e⟩
    · rename_i hw
      exact ⟨0, by rw [if_pos hok, if_neg hw]; exact hs⟩
  · cases hs
theorem aOps_fin : ∀ (l : List Oper) {A : List Value} {H : AH} {r : List Value × AH}, aOps P G (aF P G) ops l A H = some r → ∃ d, aOps P G (nrm (bCall P G d)) ops l A H = some r := by
  intro l
  induction l with
  | nil => intro A H r hr; exact ⟨0, hr⟩
  | cons o l ih =>
    intro A H r hr
    simp only [aOps] at hr ⊢
    obtain ⟨s, hs, hr⟩ := Option.bind_eq_some_iff.1 hr
    obtain ⟨d2, h2⟩ := ih hr
    obtain ⟨d1, h1⟩ := aStep_fin hs
    refine ⟨max d1 d2, ?_⟩
    rw [aStep_le (nrm_le (bCall_le (Nat.le_max_left ..))) h1]
    exact aOps_le (nrm_le (bCall_le (Nat.le_max_right ..))) _ h2
theorem aDraw_fin {A : List Value} {H : AH} {r : List Value × AH} (h : aDraw P G (aF P G) ops A H = some r) : ∃ d, aDraw P G (nrm (bCall P G d)) ops A H = some r := by
  obtain ⟨h1, h2, h3⟩ := aDraw_some h
  obtain ⟨d, hd⟩ := aOps_fin _ h3
  refine ⟨d, ?_⟩
  unfold aDraw
  rw [h1]
  simp only
  cases h4 : lookPairs ops.toList with
  | nil => exact hd
  | cons p ps =>
    simp only
    rw [chk_true ?_]
    · exact hd
    · rw [← stA_le (c2 := aF P G) (nrm_le (bCall_F d)) hd, ← h4]; exact h2
theorem aRegion_fin {draw : Bool} {A : List Value} {H : AH} {r : List Value × AH} (h : aRegion P G (aF P G) ops draw A H = some r) : ∃ d, aRegion P G (nrm (bCall P G d)) ops draw A H = some r := by
  cases draw with
  | false => exact aOps_fin _ h
  | true => exact aDraw_fin h
theorem aCode_fin : ∀ (c : Code) {A : List Value} {H : AH} {r : AR}, aCode P G (aF P G) c A H = some r → ∃ d, aCode P G (nrm (bCall P G d)) c A H = some r := by
  intro c
  induction c with
  | region id ops draw =>
    intro A H r hr
    simp only [aCode] at hr ⊢
    obtain ⟨s, hs, e1⟩ := Option.map_eq_some_iff.1 hr
    obtain ⟨d, hd⟩ := aRegion_fin hs
    exact ⟨d, by rw [hd]; exact congrArg some e1⟩
  | seq x y ihx ihy =>
    intro A H r hr
    simp only [aCode] at hr ⊢
    obtain ⟨s, hx, hr⟩ := Option.bind_eq_some_iff.1 hr
    obtain ⟨d1, h1⟩ := ihx hx
    split at hr
    · rename_i e
      obtain ⟨d2, h2⟩ := ihy hr
      refine ⟨max d1 d2, ?_⟩
      rw [aCode_le (nrm_le (bCall_le (Nat.le_max_left ..))) _ h1]
      simp only [Option.bind_some, e]
      exact aCode_le (nrm_le (bCall_le (Nat.le_max_right ..))) _ h2
    · refine ⟨d1, ?_⟩
      rw [h1]
      simp only [Option.bind_some]
      exact hr
  | cond c x y ihx ihy =>
    intro A H r hr
    simp only [aCode] at hr ⊢
    split at hr
    · exact ihx hr
    · exact ihy hr
    · cases hr
  | block id x ih =>
    intro A H r hr
    simp only [aCode] at hr ⊢
    obtain ⟨s, hx, e2⟩ := Option.map_eq_some_iff.1 hr
    obtain ⟨d, hd⟩ := ih hx
    exact ⟨d, by rw [hd]; exact congrArg some e2⟩
  | loop x ih =>
    intro A H r hr
    simp only [aCode] at hr ⊢
    obtain ⟨n, hn⟩ := aLoop_iff.1 hr
    have key : ∃ d, aIter (aCode P G (nrm (bCall P G d)) x) n A H = some r := by
      clear hr
      induction n generalizing A H with
      | zero => cases hn
      | succ n ihn =>
        simp only [aIter] at hn ⊢
        obtain ⟨s, hx, hr⟩ := Option.bind_eq_some_iff.1 hn
        obtain ⟨d1, h1⟩ := ih hx
        split at hr
        · rename_i e
          obtain ⟨d2, h2⟩ := ihn hr
          refine ⟨max d1 d2, ?_⟩
          rw [aCode_le (nrm_le (bCall_le (Nat.le_max_left ..))) _ h1]
          simp only [Option.bind_some, e]
          have key2 : ∀ (n : Nat) {A : List Value} {H : AH} {r : AR}, aIter (aCode P G (nrm (bCall P G d2)) x) n A H = some r → aIter (aCode P G (nrm (bCall P G (max d1 d2))) x) n A H = some r := by
            intro n
            induction n with
            | zero => intro A H r h; cases h
            | succ n ih2 =>
              intro A H r h
              simp only [aIter] at h ⊢
              obtain ⟨s, hx, hr⟩ := Option.bind_eq_some_iff.1 h
              rw [aCode_le (nrm_le (bCall_le (Nat.le_max_right d1 d2))) _ hx]
              simp only [Option.bind_some]
              split at hr
              · exact ih2 hr
              · exact hr
          exact key2 n h2
        · refine ⟨d1, ?_⟩
          rw [h1]
          simp only [Option.bind_some]
          exact hr
    obtain ⟨d, hd⟩ := key
    exact ⟨d, aLoop_iff.2 ⟨n, hd⟩⟩
  | _ => intro A H r hr; exact ⟨0, hr⟩
theorem bSp_fin {o : Oper} {A : List Value} {H : AH} {x : Spc} (hx : bSp P G (bF P G) ops o A H = some x) : ∃ d, bSp P G (bCall P G d) ops o A H = some x := by
  unfold bSp at hx ⊢
  split at hx
  rotate_left
  · cases hx
  rename_i hc
  have key : ∃ d, bSpO P (bCall P G d) (aEv A) o.op H = some x := by
    generalize o.op = op at hx
    cases op with
    | call c =>
      obtain ⟨callee, args, ats⟩ := c
      cases callee with
      | value f =>
        simp only [bSpO] at hx ⊢
        obtain ⟨fa, hfa, hx⟩ := Option.bind_eq_some_iff.1 hx
        split at hx
        · rename_i v H' hb
          obtain ⟨d, hd⟩ := bF_iff.1 hb
          exact ⟨d, by rw [hfa]; simp only [Option.bind_some, hd]; exact hx⟩
        · cases hx
      | invoke r m => exact ⟨0, hx⟩
      | builtin b => exact ⟨0, by cases b <;> exact hx⟩
    | slice t x lo hi mx => exact ⟨0, by cases mx <;> exact hx⟩
    | _ => exact ⟨0, hx⟩
  obtain ⟨d, hd⟩ := key
  exact ⟨d, by rw [if_pos hc]; exact hd⟩
theorem bOps_fin : ∀ (l : List Oper) {A : List Value} {H : AH} {r : BR}, bOps P G (bF P G) ops l A H = some r → ∃ d, bOps P G (bCall P G d) ops l A H = some r := by
  intro l
  induction l with
  | nil => intro A H r hr; exact ⟨0, hr⟩
  | cons o l ih =>
    intro A H r hr
    simp only [bOps] at hr ⊢
    split at hr
    · rename_i hs
      obtain ⟨d, hd⟩ := bSp_fin hs
      exact ⟨d, by rw [hd]; exact hr⟩
    · rename_i hs
      obtain ⟨d1, h1⟩ := bSp_fin hs
      obtain ⟨d2, h2⟩ := ih hr
      refine ⟨max d1 d2, ?_⟩
      rw [bSp_le (bCall_le (Nat.le_max_left ..)) h1]
      exact bOps_le (bCall_le (Nat.le_max_right ..)) _ h2
    · obtain ⟨s, hs, hr⟩ := Option.bind_eq_some_iff.1 hr
      obtain ⟨d2, h2⟩ := ih hr
      obtain ⟨d1, h1⟩ := aStep_fin hs
      refine ⟨max d1 d2, ?_⟩
      have h1' := aStep_le (nrm_le (bCall_le (Nat.le_max_left d1 d2))) h1
      rw [bSp_none h1', h1']
      exact bOps_le (bCall_le (Nat.le_max_right ..)) _ h2
theorem bCode_fin : ∀ (c : Code) {A : List Value} {H : AH} {r : BR}, bCode P G (bF P G) c A H = some r → ∃ d, bCode P G (bCall P G d) c A H = some r := by
  intro c
  induction c with
  | region id ops draw =>
    intro A H r hr
    simp only [bCode] at hr ⊢
    cases draw with
    | true =>
      obtain ⟨s, hs, e1⟩ := Option.map_eq_some_iff.1 hr
      obtain ⟨d, hd⟩ := aDraw_fin hs
      exact ⟨d, by simp only; rw [hd]; exact congrArg some e1⟩
    | false => exact bOps_fin _ hr
  | seq x y ihx ihy =>
    intro A H r hr
    simp only [bCode] at hr ⊢
    obtain ⟨s, hx, hr⟩ := Option.bind_eq_some_iff.1 hr
    obtain ⟨d1, h1⟩ := ihx hx
    split at hr
    · rename_i e
      obtain ⟨d2, h2⟩ := ihy hr
      refine ⟨max d1 d2, ?_⟩
      rw [bCode_le (bCall_le (Nat.le_max_left ..)) _ h1]
      simp only [Option.bind_some, e]
      exact bCode_le (bCall_le (Nat.le_max_right ..)) _ h2
    · refine ⟨d1, ?_⟩
      rw [h1]
      simp only [Option.bind_some]
      exact hr
  | cond c x y ihx ihy =>
    intro A H r hr
    simp only [bCode] at hr ⊢
    split at hr
    · exact ihx hr
    · exact ihy hr
    · cases hr
  | block id x ih =>
    intro A H r hr
    simp only [bCode] at hr ⊢
    obtain ⟨s, hx, e2⟩ := Option.map_eq_some_iff.1 hr
    obtain ⟨d, hd⟩ := ih hx
    exact ⟨d, by rw [hd]; exact congrArg some e2⟩
  | loop x ih =>
    intro A H r hr
    simp only [bCode] at hr ⊢
    obtain ⟨n, hn⟩ := bLoop_iff.1 hr
    have key : ∃ d, bIter (bCode P G (bCall P G d) x) n A H = some r := by
      clear hr
      induction n generalizing A H with
      | zero => cases hn
      | succ n ihn =>
        simp only [bIter] at hn ⊢
        obtain ⟨s, hx, hr⟩ := Option.bind_eq_some_iff.1 hn
        obtain ⟨d1, h1⟩ := ih hx
        split at hr
        · rename_i e
          obtain ⟨d2, h2⟩ := ihn hr
          refine ⟨max d1 d2, ?_⟩
          rw [bCode_le (bCall_le (Nat.le_max_left ..)) _ h1]
          simp only [Option.bind_some, e]
          have key2 : ∀ (n : Nat) {A : List Value} {H : AH} {r : BR}, bIter (bCode P G (bCall P G d2) x) n A H = some r → bIter (bCode P G (bCall P G (max d1 d2)) x) n A H = some r := by
            intro n
            induction n with
            | zero => intro A H r h; cases h
            | succ n ih2 =>
              intro A H r h
              simp only [bIter] at h ⊢
              obtain ⟨s, hx, hr⟩ := Option.bind_eq_some_iff.1 h
              rw [bCode_le (bCall_le (Nat.le_max_right d1 d2)) _ hx]
              simp only [Option.bind_some]
              split at hr
              · exact ih2 hr
              · exact hr
          exact key2 n h2
        · refine ⟨d1, ?_⟩
          rw [h1]
          simp only [Option.bind_some]
          exact hr
    obtain ⟨d, hd⟩ := key
    exact ⟨d, bLoop_iff.2 ⟨n, hd⟩⟩
  | _ => intro A H r hr; exact ⟨0, hr⟩

theorem bFun_body {b : CallB} {fn : Func} {c : Code} (hn : fn.name ≠ "runtime.NumGoroutine") (hb : fn.body = some c) (hs : rshape c = none) (args : List Value) (H : AH) : bFun P G b fn args H = bBody P G b fn.ntmps fn.results.toList c args H := by
  unfold bFun
  rw [if_neg hn, hb]
  simp only [hs]
theorem bFun_defer {b : CallB} {fn : Func} {c : Code} {s : RSh} (hn : fn.name ≠ "runtime.NumGoroutine") (hb : fn.body = some c) (hs : rshape c = some s) (args : List Value) (H : AH) : bFun P G b fn args H = bDefer P G b fn.ntmps fn.results.toList s args H := by
  unfold bFun
  rw [if_neg hn, hb]
  simp only [hs]
/-- **What a function's text comes to, its call comes to.** -/
theorem bF_of {f : Nat} {fn : Func} (hf : P.funcs[f]? = some fn) (hl : libName fn.name = false) {args : List Value} {H : AH} {r : BO × AH} (h : bFun P G (bF P G) fn args H = some r) : bF P G f args H = some r := by
  have key : ∃ d, bFun P G (bCall P G d) fn args H = some r := by
    by_cases hn : fn.name = "runtime.NumGoroutine"
    · unfold bFun at h; rw [if_pos hn] at h; cases h
    cases hb : fn.body with
    | none => unfold bFun at h; rw [if_neg hn, hb] at h; cases h
    | some c =>
    cases hs : rshape c with
    | none =>
      rw [bFun_body hn hb hs] at h
      simp only [bFun_body hn hb hs]
      unfold bBody at h ⊢
      obtain ⟨s, hs, h⟩ := Option.bind_eq_some_iff.1 h
      obtain ⟨d, hd⟩ := bCode_fin _ hs
      exact ⟨d, by rw [hd]; exact h⟩
    | some s =>
      rw [bFun_defer hn hb hs] at h
      simp only [bFun_defer hn hb hs]
      unfold bDefer at h ⊢
      obtain ⟨⟨e1, A1, H1⟩, h1, h⟩ := Option.bind_eq_some_iff.1 h
      have hx : bCode P G (bF P G) s.c1 (args ++ List.replicate (fn.ntmps - args.length) undef) H = some (e1.up, A1, H1) := bCode_lift _ h1
      obtain ⟨d1, g1⟩ : ∃ d, aCode P G (nrm (bCall P G d)) s.c1 (args ++ List.replicate (fn.ntmps - args.length) undef) H = some (e1, A1, H1) := aCode_fin _ h1
      cases e1 with
      | exit i => cases h
      | ret => exact ⟨d1, by rw [g1]; exact h⟩
      | normal =>
        simp only at h
        split at h
        · cases h
        rename_i hlt
        obtain ⟨q, h2, h⟩ := Option.bind_eq_some_iff.1 h
        obtain ⟨z, h3, h⟩ := Option.bind_eq_some_iff.1 h
        obtain ⟨d2, g2⟩ := aStep_fin h2
        obtain ⟨d3, g3⟩ := bCode_fin _ h3
        refine ⟨max d1 (max d2 d3), ?_⟩
        rw [aCode_le (nrm_le (bCall_le (Nat.le_max_left ..))) _ g1]
        simp only [Option.bind_some]
        rw [if_neg hlt, aStep_le (nrm_le (bCall_le (Nat.le_trans (Nat.le_max_left ..) (Nat.le_max_right ..)))) g2]
        simp only [Option.bind_some]
        rw [bCode_le (bCall_le (Nat.le_trans (Nat.le_max_right ..) (Nat.le_max_right ..))) _ g3]
        exact h
  obtain ⟨d, hd⟩ := key
  refine bF_iff.2 ⟨d + 1, ?_⟩
  rw [bCall]
  simp only []
  rw [hf]
  simp only
  rw [hl]
  exact hd
/-- **A function of the library.** -/
theorem bF_lib {f : Nat} {fn : Func} (hf : P.funcs[f]? = some fn) (hl : libName fn.name = true) {args : List Value} {H : AH} {v : Value} (hv : libV args H = some v) (ht : Told P G f args H v) : bF P G f args H = some (.ret v, H) := by
  refine bF_iff.2 ⟨1, ?_⟩
  rw [bCall]
  simp only []
  rw [hf]
  simp only
  rw [hl]
  simp only
  rw [hv]
  exact chk_true ht _
/-- **What the body comes to, the call comes to.** -/
theorem aF_of {f : Nat} {fn : Func} {c : Code} (hf : P.funcs[f]? = some fn) (hb : fn.body = some c) (hn : fn.name ≠ "runtime.NumGoroutine") (hds : dshape c = none) (hl : libName fn.name = false) {args : List Value} {H : AH} {r : Value × AH}
    (h : aBody P G (aF P G) fn.ntmps fn.results.toList c args H = some r) : aF P G f args H = some r :=
  nrm_some.2 (bF_of hf hl (aFun_lift hb hn h))
end
end Go.Proofs.YthagelbepgcolaaGreatDoor.Gst
