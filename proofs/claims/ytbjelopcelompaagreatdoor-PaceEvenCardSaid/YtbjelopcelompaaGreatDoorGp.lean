/- A region whose order the model draws: whatever order is drawn comes to what the text's order comes to. First part: slots; heaps that meet again. -/
import Derived.Test.YtbjelopcelompaaGreatDoorGo
namespace Go.Proofs.YtbjelopcelompaaGreatDoor.Gst
open Go Go.RowKit
set_option linter.unusedSimpArgs false

/-- The operations' ways in the text's order: what each slot, each block then is. -/
structure Tra (P : Program) (G : List Nat) (call : CallF) (ops : Array Oper) where
  s : Nat → List Value × AH
  val : Nat → Value
  step : ∀ i o, ops[i]? = some o → o.op.operands.toList.all (okX G) = true ∧ (s (i + 1)).1 = aPut (s i).1 o.dst (val i) ∧
    ((Region.wanted o (aYield ops (s i).1) = true ∧ aOp P call (aEv (s i).1) o (s i).2 = some (val i, (s (i + 1)).2)) ∨
     (Region.wanted o (aYield ops (s i).1) = false ∧ val i = undef ∧ (s (i + 1)).2 = (s i).2))
  back : ∀ j o, ops[j]? = some o → ∀ e ∈ o.after, Region.binds .any e = true → e.on < j
  pair : ∀ i j oi oj, i < j → ops[i]? = some oi → ops[j]? = some oj → fb (masksOf ops.toList) i j = true ∨ (oi.apart ops oj = true ∧ ¬ (opK oi.op = 3 ∧ opK oj.op = 3))
  look : ∀ j e oj oe, ops[j]? = some oj → ops[e]? = some oe → opK oj.op = 2 → opK oe.op = 3 → fb (masksOf ops.toList) e j = false → fb (masksOf ops.toList) j e = false →
    aRd P (aEv (s j).1) oj.op (s (if e < j then e else e + 1)).2 = aRd P (aEv (s j).1) oj.op (s j).2

section
variable {P : Program} {w0 : World} {B : Nat} {ρ : Ren} {H : AH} {w : World} {G : List Nat} {call : CallF} {ops : Array Oper}

/-- What the slots hold when these operations have come up. -/
def AD (T : Tra P G call ops) (L : Nat → Bool) : Nat → List Value
  | 0 => (T.s 0).1
  | k + 1 => match ops[k]? with
    | some o => if L k = true then aPut (AD T L k) o.dst (T.val k) else AD T L k
    | none => AD T L k

theorem aPut_length (A : List Value) (d : Option Tmp) (v : Value) : (aPut A d v).length = A.length := by cases d <;> simp [aPut]
theorem aPut_ne {A : List Value} {d : Option Tmp} {v : Value} {t : Nat} (h : d ≠ some t) : (aPut A d v)[t]? = A[t]? := by
  cases d with
  | none => rfl
  | some d => simp only [aPut]; rw [List.getElem?_set_ne (fun e => h (by rw [e]))]
theorem aPut_eq {A : List Value} {t : Nat} {v : Value} : (aPut A (some t) v)[t]? = if t < A.length then some v else none := by
  simp only [aPut]
  rw [List.getElem?_set]
  simp

theorem AD_length (T : Tra P G call ops) (L : Nat → Bool) : ∀ k, (AD T L k).length = (T.s 0).1.length := by
  intro k
  induction k with
  | zero => rfl
  | succ k ih =>
    simp only [AD]
    split
    · split
      · rw [aPut_length, ih]
      · exact ih
    · exact ih
theorem s_length (T : Tra P G call ops) : ∀ k, k ≤ ops.size → (T.s k).1.length = (T.s 0).1.length := by
  intro k
  induction k with
  | zero => intro _; rfl
  | succ k ih =>
    intro hk
    have ho : ops[k]? = some ops[k] := by simp [Nat.lt_of_succ_le hk]
    rw [(T.step k _ ho).2.1, aPut_length, ih (by omega)]

theorem AD_at (T : Tra P G call ops) {L : Nat → Bool} {j t : Nat} (hj : j ≤ ops.size) (h1 : ∀ i o, ops[i]? = some o → i < j → o.dst = some t → L i = true) (h2 : ∀ i o, ops[i]? = some o → j ≤ i → o.dst = some t → L i = false) :
    (AD T L ops.size)[t]? = (T.s j).1[t]? := by
  have a1 : ∀ k, k ≤ j → (AD T L k)[t]? = (T.s k).1[t]? := by
    intro k
    induction k with
    | zero => intro _; rfl
    | succ k ih =>
      intro hk
      have hlt : k < ops.size := by omega
      have ho : ops[k]? = some ops[k] := by simp [hlt]
      simp only [AD, ho]
      rw [(T.step k _ ho).2.1]
      by_cases hd : (ops[k]).dst = some t
      · rw [if_pos (h1 k _ ho (by omega) hd), hd, aPut_eq, aPut_eq, AD_length, s_length T k (by omega)]
      · rw [aPut_ne hd]
        split
        · rw [aPut_ne hd]; exact ih (by omega)
        · exact ih (by omega)
  have a2 : ∀ k, j ≤ k → k ≤ ops.size → (AD T L k)[t]? = (AD T L j)[t]? := by
    intro k
    induction k with
    | zero => intro hk _; rw [show j = 0 from by omega]
    | succ k ih =>
      intro hk hs
      by_cases he : j = k + 1
      · rw [he]
      · have hlt : k < ops.size := by omega
        have ho : ops[k]? = some ops[k] := by simp [hlt]
        simp only [AD, ho]
        by_cases hd : (ops[k]).dst = some t
        · rw [if_neg (by rw [h2 k _ ho (by omega) hd]; simp)]; exact ih (by omega) (by omega)
        · split
          · rw [aPut_ne hd]; exact ih (by omega) (by omega)
          · exact ih (by omega) (by omega)
  rw [a2 _ hj (Nat.le_refl _), a1 j (Nat.le_refl _)]

/-- One more operation has come up. -/
theorem AD_set (T : Tra P G call ops) {L : Nat → Bool} {j : Nat} {o : Oper} (ho : ops[j]? = some o) (hj : L j = false) (hlater : ∀ i oi, ops[i]? = some oi → j < i → L i = true → ∀ t, o.dst = some t → oi.dst ≠ some t) :
    AD T (fun i => if i = j then true else L i) ops.size = aPut (AD T L ops.size) o.dst (T.val j) := by
  have key : ∀ k, k ≤ ops.size → AD T (fun i => if i = j then true else L i) k = if j < k then aPut (AD T L k) o.dst (T.val j) else AD T L k := by
    intro k
    induction k with
    | zero => intro _; simp [AD]
    | succ k ih =>
      intro hk
      have hlt : k < ops.size := by omega
      have hok : ops[k]? = some ops[k] := by simp [hlt]
      simp only [AD, hok]
      rw [ih (by omega)]
      by_cases hkj : k = j
      · subst hkj
        rw [ho] at hok
        cases hok
        simp [hj]
      · simp only [if_neg hkj]
        by_cases hjk : j < k
        · have h3 : j < k + 1 := by omega
          rw [if_pos hjk, if_pos h3]
          by_cases hL : L k = true
          · rw [if_pos hL, if_pos hL]
            -- two slots, or none
            cases hd : o.dst with
            | none => rfl
            | some t =>
              have hne := hlater k _ hok hjk hL t hd
              cases hdk : (ops[k]).dst with
              | none => rfl
              | some u =>
                have : t ≠ u := fun e => hne (by rw [hdk, e])
                simp only [aPut]
                rw [List.set_comm _ _ this]
          · rw [if_neg hL, if_neg hL]
        · have h3 : ¬ j < k + 1 := by omega
          rw [if_neg hjk, if_neg h3]
  rw [key _ (Nat.le_refl _), if_pos (by have := (Array.getElem?_eq_some_iff.1 ho).1; omega)]

theorem AD_none (T : Tra P G call ops) : ∀ k, AD T (fun _ => false) k = (T.s 0).1 := by
  intro k
  induction k with
  | zero => rfl
  | succ k ih => simp only [AD]; split <;> simp [ih]

theorem AD_all (T : Tra P G call ops) {L : Nat → Bool} (h : ∀ i, i < ops.size → L i = true) : AD T L ops.size = (T.s ops.size).1 := by
  apply List.ext_getElem?
  intro t
  exact AD_at T (Nat.le_refl _) (fun i o ho hi _ => h i hi) (fun i o ho hi _ => by have := (Array.getElem?_eq_some_iff.1 ho).1; omega)

/-! ### Heaps -/
theorem Rel.agree {H2 : AH} (h : Rel P w0 B ρ H w) (ha : ∀ b x, ρ b = some x → b < H2.size ∧ H2.get b = H.get b) : Rel P w0 B ρ H2 w where
  base := h.base
  below := h.below
  dom := fun b x hx => (ha b x hx).1
  blk := h.blk
  obj := fun b c d sz o hx ho => h.obj b c d sz o hx (by rw [← (ha b _ hx).2]; exact ho)
  own := fun b c d sz o hx ho => h.own b c d sz o hx (by rw [← (ha b _ hx).2]; exact ho)
  ro := fun b c d sz cs hx ho => h.ro b c d sz cs hx (by rw [← (ha b _ hx).2]; exact ho)
  inj := fun b b' c d d' sz sz' o o' hx hx' ho ho' => h.inj b b' c d d' sz sz' o o' hx hx' (by rw [← (ha b _ hx).2]; exact ho) (by rw [← (ha b' _ hx').2]; exact ho')

def Ren.below (ρ : Ren) (m : Nat) : Ren := fun b => if b < m then ρ b else none
theorem Ren.below_some {ρ : Ren} {m b : Nat} {x : Nat × Nat × Nat} (h : ρ.below m b = some x) : b < m ∧ ρ b = some x := by
  unfold Ren.below at h
  split at h
  · exact ⟨by assumption, h⟩
  · cases h
theorem Ren.below_lt {ρ : Ren} {m b : Nat} (h : b < m) : ρ.below m b = ρ b := by simp [Ren.below, h]

theorem VRel.strong {ρ1 ρ2 : Ren} {v v' : Value} (h : VRel P ρ1 v v') (hle : ∀ b x, ρ1 b = some x → ρ2 b = some x) : VRel P ρ2 v v' := h.mono hle

/-- A new block, at a number that was kept for it. -/
theorem Rel.fill (h : Rel P w0 B ρ H w) {b : Nat} (hb : ρ b = none) {o : AObj} {ob : Obj} {sz : Nat} (hrw : o.rw = true) (hnew : ORel P ρ 0 sz o (some ob)) {H2 : AH} (hs : b < H2.size) (hg : H2.get b = some o)
    (ha : ∀ b' x, ρ b' = some x → b' < H2.size ∧ H2.get b' = H.get b') : Rel P w0 B (ρ.upd b (w.heap.size, 0, sz)) H2 (w.alloc ob) := by
  have hB := h.size
  have hle := Ren.upd_le (x := (w.heap.size, 0, sz)) hb
  have hheap : ∀ k, k < w.heap.size → (w.alloc ob).heap[k]? = w.heap[k]? := fun k hk => Below.heap_alloc w ob k hk
  have hlast : (w.alloc ob).heap[w.heap.size]? = some ob := heap_alloc_new w ob
  have cases' : ∀ {b1 x}, ρ.upd b (w.heap.size, 0, sz) b1 = some x → (b1 = b ∧ x = (w.heap.size, 0, sz)) ∨ (b1 ≠ b ∧ ρ b1 = some x) := by
    intro b1 x hx
    by_cases e : b1 = b
    · subst e; rw [Ren.upd_same] at hx; exact .inl ⟨rfl, (Option.some.inj hx).symm⟩
    · rw [Ren.upd_ne e] at hx; exact .inr ⟨e, hx⟩
  refine ⟨h.base, h.below.alloc hB ob, ?_, ?_, ?_, ?_, ?_, ?_⟩
  · intro b1 x hx
    rcases cases' hx with ⟨rfl, _⟩ | ⟨_, hx⟩
    · exact hs
    · exact (ha b1 x hx).1
  · intro b1 c d sz1 hx
    rw [World.size_alloc]
    rcases cases' hx with ⟨rfl, e⟩ | ⟨_, hx⟩
    · cases e; omega
    · have := h.blk b1 c d sz1 hx; omega
  · intro b1 c d sz1 o1 hx ho1
    rcases cases' hx with ⟨rfl, e⟩ | ⟨_, hx⟩
    · cases e; rw [hg] at ho1; cases ho1; rw [hlast]; exact hnew.mono hle
    · rw [(ha b1 _ hx).2] at ho1
      rw [hheap c (h.blk b1 c d sz1 hx)]; exact (h.obj b1 c d sz1 o1 hx ho1).mono hle
  · intro b1 c d sz1 o1 hx ho1 hr1
    rcases cases' hx with ⟨rfl, e⟩ | ⟨_, hx⟩
    · cases e; exact hB
    · rw [(ha b1 _ hx).2] at ho1; exact h.own b1 c d sz1 o1 hx ho1 hr1
  · intro b1 c d sz1 cs hx ho1
    rcases cases' hx with ⟨rfl, e⟩ | ⟨_, hx⟩
    · rw [hg] at ho1; cases ho1; simp [AObj.rw] at hrw
    · rw [(ha b1 _ hx).2] at ho1; exact h.ro b1 c d sz1 cs hx ho1
  · intro b1 b2 c d1 d2 sz1 sz2 o1 o2 hx1 hx2 ho1 ho2 hr1 hr2
    rcases cases' hx1 with ⟨e1, e⟩ | ⟨n1, hx1⟩ <;> rcases cases' hx2 with ⟨e2, e'⟩ | ⟨n2, hx2⟩
    · rw [e1, e2]
    · cases e; have := h.blk _ _ _ _ hx2; omega
    · cases e'; have := h.blk _ _ _ _ hx1; omega
    · rw [(ha b1 _ hx1).2] at ho1; rw [(ha b2 _ hx2).2] at ho2
      exact h.inj _ _ _ _ _ _ _ _ _ hx1 hx2 ho1 ho2 hr1 hr2

/-- A part of the heap has gone a step; the rest lies beside it. -/
theorem Rel.merge {m : Nat} {Hs H' H2 : AH} {ρ' : Ren} {w' : World} (h : Rel P w0 B ρ H w) (hm : m = Hs.size) (hag : ∀ b x, b < m → ρ b = some x → Hs.get b = H.get b)
    (hR : Rel P w0 B ρ' H' w') (hE : Ext (ρ.below m) Hs w ρ' H' w') (hgap : ∀ b, m ≤ b → b < H'.size → ρ b = none) (hs : ∀ b x, ρ b = some x → b < H2.size) (hs' : H'.size ≤ H2.size)
    (hlow : ∀ b, b < H'.size → H2.get b = H'.get b) (hhigh : ∀ b x, H'.size ≤ b → ρ b = some x → H2.get b = H.get b) :
    Rel P w0 B (fun b => if b < H'.size then ρ' b else ρ b) H2 w' := by
  have hHs : m ≤ H'.size := by rw [hm]; exact hE.hsize
  have hle : ∀ b x, ρ b = some x → (fun b => if b < H'.size then ρ' b else ρ b) b = some x := by
    intro b x hx
    by_cases hb : b < H'.size
    · simp only [hb, if_true]
      by_cases hbm : b < m
      · exact hE.le b x (by rw [Ren.below_lt hbm]; exact hx)
      · rw [hgap b (by omega) hb] at hx; cases hx
    · simp only [hb, if_false]; exact hx
  have hle' : ∀ b x, ρ' b = some x → (fun b => if b < H'.size then ρ' b else ρ b) b = some x := by
    intro b x hx
    have := hR.dom b x hx
    simp only [this, if_true]; exact hx
  have cases' : ∀ {b x}, (fun b => if b < H'.size then ρ' b else ρ b) b = some x → (b < H'.size ∧ ρ' b = some x) ∨ (H'.size ≤ b ∧ ρ b = some x) := by
    intro b x hx
    by_cases hb : b < H'.size
    · simp only [hb, if_true] at hx; exact .inl ⟨hb, hx⟩
    · simp only [hb, if_false] at hx; exact .inr ⟨by omega, hx⟩
  -- what lies beside is where nothing is written
  have beside : ∀ {b c d sz o}, H'.size ≤ b → ρ b = some (c, d, sz) → H.get b = some o → o.rw = true → ∀ b1 d1 sz1 o1, ρ' b1 = some (c, d1, sz1) → H'.get b1 = some o1 → o1.rw = true → False := by
    intro b c d sz o hb hx ho hr b1 d1 sz1 o1 hx1 ho1 hr1
    cases hρ : ρ.below m b1 with
    | none =>
      rcases hE.newC b1 c d1 sz1 hx1 hρ with h3 | ⟨b0, d0, sz0, o0, h3, h4, h5⟩
      · have := h.blk b c d sz hx; omega
      · obtain ⟨hb0, h3⟩ := Ren.below_some h3
        rw [hag b0 _ hb0 h3] at h4
        have := h.inj b0 b c d0 d sz0 sz o0 o h3 hx h4 ho h5 hr
        omega
    | some y =>
      have hy : y = (c, d1, sz1) := by have := hE.le b1 y hρ; rw [hx1] at this; exact (Option.some.inj this).symm
      subst hy
      obtain ⟨hb1, hρ⟩ := Ren.below_some hρ
      cases hH : Hs.get b1 with
      | none => rw [hm] at hb1; have := AH.get_none (H := Hs) (b := b1); unfold AH.get AH.size at *; rw [List.getElem?_eq_none_iff] at hH; omega
      | some o2 =>
        cases hr2 : o2.rw with
        | true =>
          rw [hag b1 _ hb1 hρ] at hH
          have := h.inj b1 b c d1 d sz1 sz o2 o hρ hx hH ho hr2 hr
          omega
        | false =>
          have := hE.keepRo b1 o2 hH hr2
          rw [ho1] at this
          cases this
          rw [hr1] at hr2
          cases hr2
  have kept : ∀ {b c d sz}, H'.size ≤ b → ρ b = some (c, d, sz) → (∀ o, H.get b = some o → o.rw = true ∨ o = .dead ∨ c < B) → ∀ o, H.get b = some o → ORel P ρ d sz o w'.heap[c]? := by
    intro b c d sz hb hx hcl o ho
    have h0 := h.obj b c d sz o hx ho
    cases o with
    | dead => trivial
    | map es cl =>
      have e : w'.heap[c]? = w.heap[c]? := by
        refine hE.keepC c (h.blk b c d sz hx) (fun b1 d1 sz1 o1 hx1 ho1 => ?_)
        cases hr1 : o1.rw with
        | false => rfl
        | true =>
          obtain ⟨hb1, hx1⟩ := Ren.below_some hx1
          rw [hag b1 _ hb1 hx1] at ho1
          have := h.inj b1 b c d1 d sz1 sz o1 _ hx1 hx ho1 ho hr1 rfl
          omega
      rw [e]; exact h0
    | cells r cs =>
      have e : w'.heap[c]? = w.heap[c]? := by
        cases r with
        | true =>
          have hc := h.ro b c d sz cs hx ho
          have h1 := hR.below.block c hc
          have h2 := h.below.block c hc
          rw [h1, h2]
        | false =>
          refine hE.keepC c (h.blk b c d sz hx) (fun b1 d1 sz1 o1 hx1 ho1 => ?_)
          cases hr1 : o1.rw with
          | false => rfl
          | true =>
            obtain ⟨hb1, hx1⟩ := Ren.below_some hx1
            rw [hag b1 _ hb1 hx1] at ho1
            have := h.inj b1 b c d1 d sz1 sz o1 _ hx1 hx ho1 ho hr1 rfl
            omega
      rw [e]; exact h0
  refine ⟨h.base, hR.below, ?_, ?_, ?_, ?_, ?_, ?_⟩
  · intro b x hx
    rcases cases' hx with ⟨hb, _⟩ | ⟨_, hx⟩
    · omega
    · exact hs b x hx
  · intro b c d sz hx
    rcases cases' hx with ⟨_, hx⟩ | ⟨_, hx⟩
    · exact hR.blk b c d sz hx
    · have := h.blk b c d sz hx; have := hE.wsize; omega
  · intro b c d sz o hx ho
    rcases cases' hx with ⟨hb, hx⟩ | ⟨hb, hx⟩
    · rw [hlow b hb] at ho; exact (hR.obj b c d sz o hx ho).mono hle'
    · rw [hhigh b _ hb hx] at ho
      refine (kept hb hx (fun o ho => ?_) o ho).mono hle
      cases o with
      | dead => exact .inr (.inl rfl)
      | map es cl => exact .inl rfl
      | cells r cs =>
        cases r with
        | false => exact .inl rfl
        | true => exact .inr (.inr (h.ro b c d sz cs hx ho))
  · intro b c d sz o hx ho hr
    rcases cases' hx with ⟨hb, hx⟩ | ⟨hb, hx⟩
    · rw [hlow b hb] at ho; exact hR.own b c d sz o hx ho hr
    · rw [hhigh b _ hb hx] at ho; exact h.own b c d sz o hx ho hr
  · intro b c d sz cs hx ho
    rcases cases' hx with ⟨hb, hx⟩ | ⟨hb, hx⟩
    · rw [hlow b hb] at ho; exact hR.ro b c d sz cs hx ho
    · rw [hhigh b _ hb hx] at ho; exact h.ro b c d sz cs hx ho
  · intro b1 b2 c d1 d2 sz1 sz2 o1 o2 hx1 hx2 ho1 ho2 hr1 hr2
    rcases cases' hx1 with ⟨hb1, hx1⟩ | ⟨hb1, hx1⟩ <;> rcases cases' hx2 with ⟨hb2, hx2⟩ | ⟨hb2, hx2⟩
    · rw [hlow b1 hb1] at ho1; rw [hlow b2 hb2] at ho2
      exact hR.inj _ _ _ _ _ _ _ _ _ hx1 hx2 ho1 ho2 hr1 hr2
    · rw [hlow b1 hb1] at ho1; rw [hhigh b2 _ hb2 hx2] at ho2
      exact (beside hb2 hx2 ho2 hr2 b1 d1 sz1 o1 hx1 ho1 hr1).elim
    · rw [hhigh b1 _ hb1 hx1] at ho1; rw [hlow b2 hb2] at ho2
      exact (beside hb1 hx1 ho1 hr1 b2 d2 sz2 o2 hx2 ho2 hr2).elim
    · rw [hhigh b1 _ hb1 hx1] at ho1; rw [hhigh b2 _ hb2 hx2] at ho2
      exact h.inj _ _ _ _ _ _ _ _ _ hx1 hx2 ho1 ho2 hr1 hr2
end
end Go.Proofs.YtbjelopcelompaaGreatDoor.Gst
