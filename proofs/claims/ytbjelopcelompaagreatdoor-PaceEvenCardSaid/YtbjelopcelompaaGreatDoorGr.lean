/- A region whose order is drawn: what holds after any of its operations have come up. -/
import Derived.Test.YtbjelopcelompaaGreatDoorGq
namespace Go.Proofs.YtbjelopcelompaaGreatDoor.Gst
open Go Go.RowKit
set_option linter.unusedSimpArgs false
section
variable {P : Program} {w0 : World} {B : Nat} {ρ : Ren} {H : AH} {w : World} {G : List Nat} {call : CallF} {ops : Array Oper}

/-! ### Heaps -/
theorem Rel.pushU (h : Rel P w0 B ρ H w) (c : AObj) : Rel P w0 B ρ (H.push c) w :=
  h.agree fun b x hx => ⟨by rw [AH.size_push]; have := h.dom b x hx; omega, AH.get_push_old (h.dom b x hx)⟩
theorem Ext.pushU {ρ0 : Ren} {H0 : AH} {wS : World} (h : Ext ρ0 H0 wS ρ H w) (c : AObj) : Ext ρ0 H0 wS ρ (H.push c) w where
  le := h.le
  fresh := fun b x hx hn => by have := h.fresh b x hx hn; rw [AH.size_push]; omega
  hsize := by rw [AH.size_push]; have := h.hsize; omega
  wsize := h.wsize
  keepA := fun b hb hn => by rw [AH.get_push_old (by have := h.hsize; omega)]; exact h.keepA b hb hn
  keepRo := fun b o ho hr => by have := h.keepRo b o ho hr; rw [AH.get_push_old (AH.lt_of_get this)]; exact this
  keepC := h.keepC
  newC := h.newC

theorem upd_cases {b b1 : Nat} {x y : Nat × Nat × Nat} (hx : ρ.upd b y b1 = some x) : (b1 = b ∧ x = y) ∨ (b1 ≠ b ∧ ρ b1 = some x) := by
  by_cases e : b1 = b
  · subst e; rw [Ren.upd_same] at hx; exact .inl ⟨rfl, (Option.some.inj hx).symm⟩
  · rw [Ren.upd_ne e] at hx; exact .inr ⟨e, hx⟩

theorem Rel.none_size (h : Rel P w0 B ρ H w) : ρ H.size = none := by
  cases hn : ρ H.size with
  | none => rfl
  | some x => have := h.dom _ _ hn; omega

theorem Rel.pushM (h : Rel P w0 B ρ H w) {o : AObj} {c sz : Nat} (hrw : o.rw = true) (hB : B ≤ c) (hc : c < w.heap.size) (ho : ORel P ρ 0 sz o w.heap[c]?) (hd : ∀ b d sz1, ρ b = some (c, d, sz1) → False) :
    Rel P w0 B (ρ.upd H.size (c, 0, sz)) (H.push o) w := by
  have hle := Ren.upd_le (x := (c, 0, sz)) h.none_size
  have old : ∀ {b x}, ρ b = some x → (H.push o).get b = H.get b := fun hx => AH.get_push_old (h.dom _ _ hx)
  refine ⟨h.base, h.below, ?_, ?_, ?_, ?_, ?_, ?_⟩
  · intro b x hx
    rw [AH.size_push]
    rcases upd_cases hx with ⟨rfl, _⟩ | ⟨_, hx⟩
    · omega
    · have := h.dom b x hx; omega
  · intro b c1 d sz1 hx
    rcases upd_cases hx with ⟨rfl, e⟩ | ⟨_, hx⟩
    · cases e; exact hc
    · exact h.blk b c1 d sz1 hx
  · intro b c1 d sz1 o1 hx ho1
    rcases upd_cases hx with ⟨rfl, e⟩ | ⟨_, hx⟩
    · cases e; rw [AH.get_push_new] at ho1; cases ho1; exact ho.mono hle
    · rw [old hx] at ho1; exact (h.obj b c1 d sz1 o1 hx ho1).mono hle
  · intro b c1 d sz1 o1 hx ho1 hr1
    rcases upd_cases hx with ⟨rfl, e⟩ | ⟨_, hx⟩
    · cases e; exact hB
    · rw [old hx] at ho1; exact h.own b c1 d sz1 o1 hx ho1 hr1
  · intro b c1 d sz1 cs hx ho1
    rcases upd_cases hx with ⟨rfl, e⟩ | ⟨_, hx⟩
    · rw [AH.get_push_new] at ho1; cases ho1; simp [AObj.rw] at hrw
    · rw [old hx] at ho1; exact h.ro b c1 d sz1 cs hx ho1
  · intro b1 b2 c1 d1 d2 sz1 sz2 o1 o2 hx1 hx2 ho1 ho2 hr1 hr2
    rcases upd_cases hx1 with ⟨e1, e⟩ | ⟨n1, hx1⟩ <;> rcases upd_cases hx2 with ⟨e2, e'⟩ | ⟨n2, hx2⟩
    · rw [e1, e2]
    · cases e; exact (hd _ _ _ hx2).elim
    · cases e'; exact (hd _ _ _ hx1).elim
    · rw [old hx1] at ho1; rw [old hx2] at ho2
      exact h.inj _ _ _ _ _ _ _ _ _ hx1 hx2 ho1 ho2 hr1 hr2

theorem Ext.updN {ρ0 : Ren} {H0 : AH} {wS : World} (h : Ext ρ0 H0 wS ρ H w) {b c d sz : Nat} (hb : ρ b = none) (h0 : H0.size ≤ b) (h1 : b < H.size) (hc : wS.heap.size ≤ c) : Ext ρ0 H0 wS (ρ.upd b (c, d, sz)) H w where
  le := fun b1 x hx => Ren.upd_le hb b1 x (h.le b1 x hx)
  fresh := fun b1 x hx hn => by
    rcases upd_cases hx with ⟨rfl, _⟩ | ⟨_, hx⟩
    · exact ⟨h0, h1⟩
    · exact h.fresh b1 x hx hn
  hsize := h.hsize
  wsize := h.wsize
  keepA := h.keepA
  keepRo := h.keepRo
  keepC := h.keepC
  newC := fun b1 c1 d1 sz1 hx hn => by
    rcases upd_cases hx with ⟨rfl, e⟩ | ⟨_, hx⟩
    · cases e; exact .inl hc
    · exact h.newC b1 c1 d1 sz1 hx hn

theorem Rel.allocW (h : Rel P w0 B ρ H w) (ob : Obj) : Rel P w0 B ρ H (w.alloc ob) where
  base := h.base
  below := h.below.alloc h.size ob
  dom := h.dom
  blk := fun b c d sz hx => by rw [World.size_alloc]; have := h.blk b c d sz hx; omega
  obj := fun b c d sz o hx ho => by rw [Below.heap_alloc w ob c (h.blk b c d sz hx)]; exact h.obj b c d sz o hx ho
  own := h.own
  ro := h.ro
  inj := h.inj
theorem Ext.allocW {ρ0 : Ren} {H0 : AH} {wS : World} (h : Ext ρ0 H0 wS ρ H w) (ob : Obj) : Ext ρ0 H0 wS ρ H (w.alloc ob) :=
  { h with
    wsize := by rw [World.size_alloc]; have := h.wsize; omega
    keepC := fun c hc hf => by rw [Below.heap_alloc w ob c (by have := h.wsize; omega)]; exact h.keepC c hc hf }

theorem below_succ {m : Nat} {x : Nat × Nat × Nat} (h : ρ m = some x) : ρ.below (m + 1) = (ρ.below m).upd m x := by
  funext b
  unfold Ren.below Ren.upd
  by_cases e : b = m
  · subst e; simp [h]
  · by_cases hb : b < m
    · rw [if_pos (by omega), if_neg e]; simp [hb]
    · rw [if_neg (by omega), if_neg e]; simp [hb]
theorem below_succ_none {m : Nat} (h : ρ m = none) : ρ.below (m + 1) = ρ.below m := by
  funext b
  unfold Ren.below
  by_cases e : b = m
  · subst e; simp [h]
  · by_cases hb : b < m
    · rw [if_pos (by omega), if_pos hb]
    · rw [if_neg (by omega), if_neg hb]
theorem below_le {m : Nat} : ∀ b x, ρ.below m b = some x → ρ b = some x := fun _ _ h => (Ren.below_some h).2
theorem below_mono {m m' : Nat} (hm : m ≤ m') : ∀ b x, ρ.below m b = some x → ρ.below m' b = some x := fun b x h => by
  obtain ⟨h1, h2⟩ := Ren.below_some h
  rw [Ren.below_lt (by omega)]; exact h2

def pad (N : Nat) (H : AH) : AH := ⟨(List.range N).map fun b => (H.get b).getD .dead⟩
theorem pad_size (N : Nat) (H : AH) : (pad N H).size = N := by simp [pad, AH.size]
theorem pad_get {N : Nat} {H : AH} {b : Nat} (h : b < N) : (pad N H).get b = some ((H.get b).getD .dead) := by
  unfold pad
  simp [AH.get, h]
theorem pad_old {N : Nat} {H : AH} {b : Nat} (h : b < H.size) (hN : H.size ≤ N) : (pad N H).get b = H.get b := by
  rw [pad_get (by omega)]
  cases hg : H.get b with
  | some o => rfl
  | none =>
    unfold AH.get at hg
    unfold AH.size at h
    rw [List.getElem?_eq_none_iff] at hg
    omega

theorem Rel.pad {N : Nat} (h : Rel P w0 B (ρ.below H.size) H w) (hN : H.size ≤ N) (hfull : ∀ b x, ρ b = some x → b < N) (hblk : ∀ b c d sz, ρ b = some (c, d, sz) → c < w.heap.size) : Rel P w0 B ρ (Gst.pad N H) w := by
  have key : ∀ {b x o}, ρ b = some x → (Gst.pad N H).get b = some o → (b < H.size ∧ ρ.below H.size b = some x ∧ H.get b = some o) ∨ o = .dead := by
    intro b x o hx ho
    by_cases hb : b < H.size
    · rw [pad_old hb hN] at ho
      exact .inl ⟨hb, by rw [Ren.below_lt hb]; exact hx, ho⟩
    · rw [pad_get (hfull b x hx), AH.get_none (by omega)] at ho
      cases ho; exact .inr rfl
  refine ⟨h.base, h.below, fun b x hx => by rw [pad_size]; exact hfull b x hx, hblk, ?_, ?_, ?_, ?_⟩
  · intro b c d sz o hx ho
    rcases key hx ho with ⟨_, h1, h2⟩ | rfl
    · exact (h.obj b c d sz o h1 h2).mono below_le
    · trivial
  · intro b c d sz o hx ho hr
    rcases key hx ho with ⟨_, h1, h2⟩ | rfl
    · exact h.own b c d sz o h1 h2 hr
    · simp [AObj.rw] at hr
  · intro b c d sz cs hx ho
    rcases key hx ho with ⟨_, h1, h2⟩ | e
    · exact h.ro b c d sz cs h1 h2
    · cases e
  · intro b1 b2 c d1 d2 sz1 sz2 o1 o2 hx1 hx2 ho1 ho2 hr1 hr2
    rcases key hx1 ho1 with ⟨_, h1, h2⟩ | rfl
    · rcases key hx2 ho2 with ⟨_, h3, h4⟩ | rfl
      · exact h.inj _ _ _ _ _ _ _ _ _ h1 h3 h2 h4 hr1 hr2
      · simp [AObj.rw] at hr2
    · simp [AObj.rw] at hr1

/-! ### The text's way -/
/-- The text's way can be gone. -/
structure Way (T : Tra P G call ops) (w0 : World) (B : Nat) (ρ0 : Ren) (wS : World) : Prop where
  hcall : CallOK P G call
  mono : CallMono call
  glob : GlobRel ρ0 G
  rel : Rel P w0 B ρ0 (T.s 0).2 wS
  act : ∃ a, ActRel P ρ0 (T.s 0).1 a

variable {T : Tra P G call ops} {ρ0 : Ren} {wS : World}

theorem ghost (W : Way T w0 B ρ0 wS) : ∀ i, i ≤ ops.size → ∃ ρ1 a1 w1, ActRel P ρ1 (T.s i).1 a1 ∧ GlobRel ρ1 G ∧ Rel P w0 B ρ1 (T.s i).2 w1 := by
  intro i
  induction i with
  | zero => intro _; obtain ⟨a, ha⟩ := W.act; exact ⟨ρ0, a, wS, ha, W.glob, W.rel⟩
  | succ i ih =>
    intro hi
    obtain ⟨ρ1, a1, w1, hA, hG, hR⟩ := ih (by omega)
    have ho : ops[i]? = some ops[i] := by simp [Nat.lt_of_succ_le hi]
    obtain ⟨hok, hs, h | ⟨_, hv, hH⟩⟩ := T.step i _ ho
    · obtain ⟨v', w', ρ', hv, hE, hR'⟩ := (op_reach W.hcall hA hG hR hok h.2).some
      exact ⟨ρ', _, w', by rw [hs]; exact put_rel (hA.mono hE.le) _ hv, hG.mono hE.le, hR'⟩
    · exact ⟨ρ1, _, w1, by rw [hs, hv]; exact put_rel hA _ VRel.undef, hG, by rw [hH]; exact hR⟩

theorem wf_slot (W : Way T w0 B ρ0 wS) {i t : Nat} {v : Value} (hi : i ≤ ops.size) (h : (T.s i).1[t]? = some v) : WF P (T.s i).2.size v := by
  obtain ⟨ρ1, a1, w1, hA, _, hR⟩ := ghost W i hi
  obtain ⟨y, _, hv⟩ := hA.tmps.get h
  exact ⟨ρ1, y, hR.dom, hv⟩

theorem opK_cases (op : Op) : opK op = 0 ∨ opK op = 1 ∨ opK op = 2 ∨ opK op = 3 := by
  unfold opK
  split <;> first | omega | (split <;> omega)

theorem text_step (W : Way T w0 B ρ0 wS) {i : Nat} {o : Oper} (ho : ops[i]? = some o) (hk : opK o.op ≠ 3) : (T.s (i + 1)).2 = (T.s i).2 ∨ (opK o.op = 1 ∧ ∃ c : AObj, c.rw = true ∧ (T.s (i + 1)).2 = (T.s i).2.push c) := by
  have hi := (Array.getElem?_eq_some_iff.1 ho).1
  obtain ⟨hok, hs, ⟨hw, h⟩ | ⟨_, hv, hH⟩⟩ := T.step i o ho
  · rcases opK_cases o.op with h0 | h1 | h2 | h3
    · exact .inl (aOp_pure h0 h).1
    · obtain ⟨ρ1, a1, w1, hA, hG, hR⟩ := ghost W i (by omega)
      obtain ⟨c, hc, e, _⟩ := alloc_spec hA hG hok h1 h
      exact .inr ⟨h1, c, hc, e⟩
    · rw [aOp_rd h2] at h
      obtain ⟨y, _, e⟩ := Option.map_eq_some_iff.1 h
      exact .inl (Prod.mk.inj e).2.symm
    · exact absurd h3 hk
  · exact .inl hH

theorem size_step (W : Way T w0 B ρ0 wS) {i : Nat} (hi : i < ops.size) : (T.s i).2.size ≤ (T.s (i + 1)).2.size := by
  have ho : ops[i]? = some ops[i] := by simp [hi]
  obtain ⟨hok, hs, ⟨_, h⟩ | ⟨_, _, hH⟩⟩ := T.step i _ ho
  · exact aOp_mono W.mono h
  · rw [hH]; exact Nat.le_refl _
theorem size_mono (W : Way T w0 B ρ0 wS) {i j : Nat} (hij : i ≤ j) (hj : j ≤ ops.size) : (T.s i).2.size ≤ (T.s j).2.size := by
  induction j with
  | zero => rw [show i = 0 from by omega]; exact Nat.le_refl _
  | succ j ih =>
    by_cases e : i = j + 1
    · rw [e]; exact Nat.le_refl _
    · exact Nat.le_trans (ih (by omega) (by omega)) (size_step W (by omega))
theorem size_lt (W : Way T w0 B ρ0 wS) {i j : Nat} (hij : i < j) (hj : j ≤ ops.size) {c : AObj} (hp : (T.s (i + 1)).2 = (T.s i).2.push c) : (T.s i).2.size < (T.s j).2.size := by
  have := size_mono W (Nat.succ_le_of_lt hij) hj
  rw [hp, AH.size_push] at this
  omega

/-- Between two operations that do more than look nothing that was there changes. -/
theorem push_get (W : Way T w0 B ρ0 wS) {k1 k2 : Nat} (h12 : k1 ≤ k2) (hk : k2 ≤ ops.size) (hno : ∀ i o, ops[i]? = some o → k1 ≤ i → i < k2 → opK o.op ≠ 3) {b : Nat} (hb : b < (T.s k1).2.size) : (T.s k2).2.get b = (T.s k1).2.get b := by
  induction k2 with
  | zero => rw [show k1 = 0 from by omega]
  | succ k ih =>
    by_cases e : k1 = k + 1
    · rw [e]
    · have hlt : k < ops.size := by omega
      have ho : ops[k]? = some ops[k] := by simp [hlt]
      have h1 := ih (by omega) (by omega) (fun i o hi h1 h2 => hno i o hi h1 (by omega))
      rcases text_step W ho (hno k _ ho (by omega) (by omega)) with h2 | ⟨_, c, _, h2⟩
      · rw [h2, h1]
      · rw [h2, AH.get_push_old (Nat.lt_of_lt_of_le hb (size_mono W (by omega) (by omega))), h1]

theorem fb_lt (T : Tra P G call ops) {i j : Nat} {o : Oper} (ho : ops[j]? = some o) (h : fb (masksOf ops.toList) i j = true) : i < j := by
  have := fb_closed (L := fun k => decide (k < j)) (fun k ok hk hL e he hb => by
    have := T.back k ok hk e he hb
    simp only [decide_eq_true_eq] at hL ⊢
    omega) j o ho (fun e he hb => by simpa using T.back j o ho e he hb) i h
  simpa using this

/-! ### What holds -/
structure Inv (T : Tra P G call ops) (w0 : World) (B : Nat) (ρ0 : Ren) (wS : World) (L : Nat → Bool) (a : Act) (w : World) (ρ : Ren) (t : Nat) : Prop where
  closed : ∀ k o, ops[k]? = some o → L k = true → ∀ e ∈ o.after, Region.binds .any e = true → L e.on = true
  act : ActRel P ρ (AD T L ops.size) a
  rel : Rel P w0 B (ρ.below (T.s t).2.size) (T.s t).2 w
  ext : Ext ρ0 (T.s 0).2 wS (ρ.below (T.s t).2.size) (T.s t).2 w
  ht : t ≤ ops.size
  ht1 : t = 0 ∨ ∃ o, ops[t - 1]? = some o ∧ opK o.op = 3
  hE : ∀ i o, ops[i]? = some o → opK o.op = 3 → (L i = true ↔ i < t)
  full : ∀ b x, ρ b = some x → b < (T.s ops.size).2.size
  blk : ∀ b c d sz, ρ b = some (c, d, sz) → c < w.heap.size
  pend : ∀ b x, ρ b = some x → (T.s t).2.size ≤ b → ∃ i o c c' sz, ops[i]? = some o ∧ t ≤ i ∧ L i = true ∧ b = (T.s i).2.size ∧ (T.s (i + 1)).2 = (T.s i).2.push c ∧ x = (c', 0, sz) ∧ c.rw = true ∧ wS.heap.size ≤ c' ∧ ORel P (ρ.below b) 0 sz c w.heap[c']?
  alone : ∀ b b' c d sz d' sz', ρ b = some (c, d, sz) → ρ b' = some (c, d', sz') → (T.s t).2.size ≤ b → b = b'
  later : ∀ i o c, ops[i]? = some o → opK o.op = 1 → (T.s (i + 1)).2 = (T.s i).2.push c → L i = false → ρ (T.s i).2.size = none ∧ (i < t → (T.s t).2.get (T.s i).2.size = (T.s (i + 1)).2.get (T.s i).2.size)

variable {L : Nat → Bool} {a : Act} {t : Nat}

theorem Inv.glob (W : Way T w0 B ρ0 wS) (I : Inv T w0 B ρ0 wS L a w ρ t) {m : Nat} (hm : (T.s 0).2.size ≤ m) : GlobRel (ρ.below m) G := by
  refine W.glob.mono (fun b x hx => ?_)
  have h1 := below_le _ _ (I.ext.le b x hx)
  have h2 := W.rel.dom b x hx
  rw [Ren.below_lt (by omega)]; exact h1

theorem Inv.derive (W : Way T w0 B ρ0 wS) (I : Inv T w0 B ρ0 wS L a w ρ t) : ∀ k, t ≤ k → k ≤ ops.size → (∀ i o, ops[i]? = some o → t ≤ i → i < k → opK o.op ≠ 3) →
    Rel P w0 B (ρ.below (T.s k).2.size) (T.s k).2 w ∧ Ext ρ0 (T.s 0).2 wS (ρ.below (T.s k).2.size) (T.s k).2 w := by
  intro k
  induction k with
  | zero => intro h _ _; have e : t = 0 := by omega
            subst e; exact ⟨I.rel, I.ext⟩
  | succ k ih =>
    intro h1 h2 hno
    by_cases e : t = k + 1
    · subst e; exact ⟨I.rel, I.ext⟩
    · have hlt : k < ops.size := by omega
      have ho : ops[k]? = some ops[k] := by simp [hlt]
      obtain ⟨hR, hX⟩ := ih (by omega) (by omega) (fun i o hi h1 h2 => hno i o hi h1 (by omega))
      rcases text_step W ho (hno k _ ho (by omega) (by omega)) with h3 | ⟨hk1, c, hc, h3⟩
      · rw [h3]; exact ⟨hR, hX⟩
      · rw [h3, AH.size_push]
        cases hρ : ρ (T.s k).2.size with
        | none => rw [below_succ_none hρ]; exact ⟨hR.pushU c, hX.pushU c⟩
        | some x =>
          have htk := size_mono W (show t ≤ k by omega) (by omega)
          obtain ⟨i, o, c2, c', sz, hoi, hti, hLi, hb, hp, rfl, hrw, hw, hO⟩ := I.pend _ _ hρ htk
          have hio := (Array.getElem?_eq_some_iff.1 hoi).1
          have hik : i = k := by
            rcases Nat.lt_trichotomy i k with h | h | h
            · have := size_lt W h (by omega) hp; omega
            · exact h
            · have := size_lt W h (by omega) h3; omega
          subst hik
          rw [h3] at hp
          have hcc : c = c2 := by
            have := AH.get_push_new (T.s i).2 c
            rw [hp, AH.get_push_new] at this
            exact (Option.some.inj this).symm
          subst hcc
          rw [below_succ hρ]
          refine ⟨hR.pushM hrw (Nat.le_trans W.rel.size hw) (I.blk _ _ _ _ hρ) hO (fun b1 d sz1 hx => ?_), ?_⟩
          · obtain ⟨h5, h6⟩ := Ren.below_some hx
            have := I.alone _ _ _ _ _ _ _ hρ h6 htk
            omega
          · exact (hX.pushU c).updN (by unfold Ren.below; rw [if_neg (by omega)]) (size_mono W (Nat.zero_le _) (by omega)) (by rw [AH.size_push]; omega) hw

/-- What an operation that may come up next looks at. -/
structure Next (T : Tra P G call ops) (L : Nat → Bool) (j : Nat) (o : Oper) : Prop where
  ho : ops[j]? = some o
  hj : L j = false
  ready : ∀ e ∈ o.after, Region.binds .any e = true → L e.on = true

theorem Inv.slots (I : Inv T w0 B ρ0 wS L a w ρ t) {j : Nat} {o : Oper} (N : Next T L j o) {u : Nat} (hu : u ∈ o.looksAt ops) : (AD T L ops.size)[u]? = (T.s j).1[u]? := by
  have hjn := (Array.getElem?_eq_some_iff.1 N.ho).1
  refine AD_at T (by omega) (fun i oi hi hij hd => ?_) (fun i oi hi hij hd => ?_)
  · rcases T.pair i j oi o hij hi N.ho with h | ⟨h, _⟩
    · exact fb_closed I.closed j o N.ho N.ready i h
    · exact absurd hu ((Oper.apart_spec h).1 u hd)
  · cases hL : L i with
    | false => rfl
    | true =>
      by_cases e : i = j
      · subst e; rw [N.hj] at hL; exact hL.symm
      · rcases T.pair j i o oi (by omega) N.ho hi with h | ⟨h, _⟩
        · have := fb_closed I.closed i oi hi (I.closed i oi hi hL) j h
          rw [N.hj] at this; cases this
        · exact absurd hu ((Oper.apart_spec h).2.2 u hd)

theorem looks_operand {o : Oper} {u : Nat} (h : Operand.tmp u ∈ o.op.operands.toList) : u ∈ o.looksAt ops := by
  unfold Oper.looksAt
  exact List.mem_append_left _ (List.mem_filterMap.2 ⟨_, h, rfl⟩)

theorem Inv.evs (I : Inv T w0 B ρ0 wS L a w ρ t) {j : Nat} {o : Oper} (N : Next T L j o) {x : Operand} (hx : x ∈ o.op.operands.toList) : aEv (AD T L ops.size) x = aEv (T.s j).1 x := by
  cases x with
  | tmp u => simp only [aEv]; rw [I.slots N (looks_operand hx)]
  | _ => rfl

theorem Inv.wanted (I : Inv T w0 B ρ0 wS L a w ρ t) {j : Nat} {o : Oper} (N : Next T L j o) : Region.wanted o (yielded ops a.tmps) = Region.wanted o (aYield ops (T.s j).1) := by
  rw [wanted_rel I.act]
  unfold Region.wanted
  cases hg : o.guard with
  | none => rfl
  | some gw =>
    obtain ⟨g, want⟩ := gw
    have : aYield ops (AD T L ops.size) g = aYield ops (T.s j).1 g := by
      unfold aYield
      cases hd : (ops[g]?).bind (·.dst) with
      | none => rfl
      | some u =>
        simp only [Option.bind_some]
        rw [I.slots N (u := u) (by unfold Oper.looksAt; simp [hg, hd])]
    simp only [this]

theorem Inv.set (I : Inv T w0 B ρ0 wS L a w ρ t) {j : Nat} {o : Oper} (N : Next T L j o) : AD T (fun i => if i = j then true else L i) ops.size = aPut (AD T L ops.size) o.dst (T.val j) := by
  refine AD_set T N.ho N.hj (fun i oi hi hij hL u hd hd' => ?_)
  rcases T.pair j i o oi hij N.ho hi with h | ⟨h, _⟩
  · have := fb_closed I.closed i oi hi (I.closed i oi hi hL) j h
    rw [N.hj] at this; cases this
  · exact (Oper.apart_spec h).2.1 u hd hd'

theorem Inv.closed' (I : Inv T w0 B ρ0 wS L a w ρ t) {j : Nat} {o : Oper} (N : Next T L j o) : ∀ k ok, ops[k]? = some ok → (fun i => if i = j then true else L i) k = true → ∀ e ∈ ok.after, Region.binds .any e = true → (fun i => if i = j then true else L i) e.on = true := by
  intro k ok hk hL e he hb
  simp only
  by_cases hej : e.on = j
  · rw [if_pos hej]
  · rw [if_neg hej]
    by_cases hkj : k = j
    · subst hkj
      rw [N.ho] at hk; cases hk
      exact N.ready e he hb
    · simp only [if_neg hkj] at hL
      exact I.closed k ok hk hL e he hb

/-- What it looks at is of old blocks. -/
theorem Inv.masked (W : Way T w0 B ρ0 wS) (I : Inv T w0 B ρ0 wS L a w ρ t) {j : Nat} {o : Oper} (N : Next T L j o) :
    ActRel P (ρ.below (T.s j).2.size) (maskA (seesT o.op) (AD T L ops.size)) { tmps := (maskA (seesT o.op) a.tmps.toList).toArray, defers := [] } := by
  have hjn := (Array.getElem?_eq_some_iff.1 N.ho).1
  refine mask_rel I.act (fun u x y hu hx hv => ?_)
  rw [I.slots N (looks_operand (mem_of_seesT hu))] at hx
  exact (wf_slot W (by omega) hx).under hv
end
end Go.Proofs.YtbjelopcelompaaGreatDoor.Gst
