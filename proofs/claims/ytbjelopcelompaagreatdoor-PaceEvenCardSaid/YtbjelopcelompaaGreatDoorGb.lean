/- Three ways in which a world and its abstract heap change together: a block is written, a block is new, a row of cells goes on under a new number. -/
import Derived.Test.YtbjelopcelompaaGreatDoorGa
namespace Go.Proofs.YtbjelopcelompaaGreatDoor.Gst
open Go Go.RowKit
section
variable {P : Program} {w0 : World} {B : Nat} {ρ : Ren} {H : AH} {w : World}

/-- A block of the call's own is written. -/
theorem Rel.setBlock (h : Rel P w0 B ρ H w) {b c d sz : Nat} {o o' : AObj} (hb : ρ b = some (c, d, sz)) (ho : H.get b = some o) (hrw : o.rw = true) (hrw' : o'.rw = true) {w' : World}
    (hos : w'.os = w.os) (htape : w'.tape = w.tape) (hout : w'.output = w.output) (hsz : w'.heap.size = w.heap.size) (hoth : ∀ k, k ≠ c → w'.heap[k]? = w.heap[k]?)
    (hnew : ORel P ρ d sz o' w'.heap[c]?) : Rel P w0 B ρ (H.set b o') w' ∧ Ext ρ H w ρ (H.set b o') w' := by
  have hlt := AH.lt_of_get ho
  have hB : B ≤ c := h.own b c d sz o hb ho hrw
  have key : ∀ b1 o1, (H.set b o').get b1 = some o1 → (b1 = b ∧ o1 = o') ∨ (b1 ≠ b ∧ H.get b1 = some o1) := by
    intro b1 o1 h1
    rw [AH.get_set] at h1
    by_cases hb1 : b1 = b
    · rw [if_pos hb1, if_pos hlt] at h1
      exact .inl ⟨hb1, (Option.some.inj h1).symm⟩
    · rw [if_neg hb1] at h1
      exact .inr ⟨hb1, h1⟩
  constructor
  · refine ⟨h.base, ?_, ?_, ?_, ?_, ?_, ?_, ?_⟩
    · exact h.below.trans ⟨hos, htape, hout, Nat.le_of_eq hsz.symm, fun k hk => hoth k (by omega)⟩
    · intro b1 x hx; rw [AH.size_set]; exact h.dom b1 x hx
    · intro b1 c1 d1 sz1 hx; rw [hsz]; exact h.blk b1 c1 d1 sz1 hx
    · intro b1 c1 d1 sz1 o1 hx ho1
      rcases key b1 o1 ho1 with ⟨rfl, rfl⟩ | ⟨hne, ho1⟩
      · rw [hb] at hx; cases hx; exact hnew
      · by_cases hc : c1 = c
        · subst hc
          cases hr1 : o1.rw with
          | true => exact absurd (h.inj b1 b _ _ _ _ _ _ _ hx hb ho1 ho hr1 hrw) hne
          | false =>
            cases o1 with
            | dead => trivial
            | map es cl => simp [AObj.rw] at hr1
            | cells r cs =>
              cases r with
              | false => simp [AObj.rw] at hr1
              | true => have := h.ro b1 _ _ _ _ hx ho1; omega
        · rw [hoth c1 hc]; exact h.obj b1 c1 d1 sz1 o1 hx ho1
    · intro b1 c1 d1 sz1 o1 hx ho1 hr1
      rcases key b1 o1 ho1 with ⟨rfl, rfl⟩ | ⟨_, ho1⟩
      · rw [hb] at hx; cases hx; exact hB
      · exact h.own b1 c1 d1 sz1 o1 hx ho1 hr1
    · intro b1 c1 d1 sz1 cs hx ho1
      rcases key b1 _ ho1 with ⟨rfl, rfl⟩ | ⟨_, ho1⟩
      · simp [AObj.rw] at hrw'
      · exact h.ro b1 c1 d1 sz1 cs hx ho1
    · intro b1 b2 c1 d1 d2 sz1 sz2 o1 o2 hx1 hx2 ho1 ho2 hr1 hr2
      rcases key b1 o1 ho1 with ⟨rfl, rfl⟩ | ⟨n1, k1⟩ <;> rcases key b2 o2 ho2 with ⟨rfl, rfl⟩ | ⟨n2, k2⟩
      · rfl
      · exact h.inj _ _ _ _ _ _ _ _ _ hx1 hx2 ho k2 hrw hr2
      · exact h.inj _ _ _ _ _ _ _ _ _ hx1 hx2 k1 ho hr1 hrw
      · exact h.inj _ _ _ _ _ _ _ _ _ hx1 hx2 k1 k2 hr1 hr2
  · refine ⟨fun _ _ hx => hx, fun b1 x hx hn => absurd hx (by rw [hn]; simp), Nat.le_of_eq (AH.size_set ..).symm, Nat.le_of_eq hsz.symm, ?_, ?_, ?_, fun b1 c1 d1 sz1 hx hn => absurd hx (by rw [hn]; simp)⟩
    · intro b1 _ hn
      exact AH.get_set_ne (fun e => by rw [e, hb] at hn; cases hn)
    · intro b1 o1 ho1 hr1
      rw [AH.get_set_ne (fun e => by rw [e, ho] at ho1; cases ho1; rw [hrw] at hr1; cases hr1)]
      exact ho1
    · intro c1 _ hf
      exact hoth c1 (fun e => by subst e; have := hf b d sz o hb ho; rw [hrw] at this; cases this)

theorem Ren.upd_same (ρ : Ren) (b : Nat) (x : Nat × Nat × Nat) : ρ.upd b x b = some x := by simp [Ren.upd]
theorem Ren.upd_ne {ρ : Ren} {b b' : Nat} {x : Nat × Nat × Nat} (h : b' ≠ b) : ρ.upd b x b' = ρ b' := by simp [Ren.upd, h]
theorem Ren.upd_le {ρ : Ren} {b : Nat} {x : Nat × Nat × Nat} (h : ρ b = none) : ∀ b' y, ρ b' = some y → ρ.upd b x b' = some y := by
  intro b' y hy
  rw [Ren.upd_ne (fun e => by rw [e, h] at hy; cases hy)]
  exact hy

theorem Rel.size (h : Rel P w0 B ρ H w) : B ≤ w.heap.size := Nat.le_trans h.base h.below.size

/-- A new block. -/
theorem Rel.push (h : Rel P w0 B ρ H w) {o : AObj} {ob : Obj} {sz : Nat} (hrw : o.rw = true) (hnew : ORel P ρ 0 sz o (some ob)) :
    Rel P w0 B (ρ.upd H.size (w.heap.size, 0, sz)) (H.push o) (w.alloc ob) ∧ Ext ρ H w (ρ.upd H.size (w.heap.size, 0, sz)) (H.push o) (w.alloc ob) := by
  have hB := h.size
  have hnone : ρ H.size = none := by
    cases hn : ρ H.size with
    | none => rfl
    | some x => have := h.dom _ _ hn; omega
  have hle := Ren.upd_le (x := (w.heap.size, 0, sz)) hnone
  have hheap : ∀ k, k < w.heap.size → (w.alloc ob).heap[k]? = w.heap[k]? := fun k hk => Below.heap_alloc w ob k hk
  have hlast : (w.alloc ob).heap[w.heap.size]? = some ob  := heap_alloc_new w ob
  have key : ∀ b1 o1, (H.push o).get b1 = some o1 → (b1 = H.size ∧ o1 = o) ∨ (b1 < H.size ∧ H.get b1 = some o1) := by
    intro b1 o1 h1
    rw [AH.get_push] at h1
    by_cases hb1 : b1 = H.size
    · rw [if_pos hb1] at h1; exact .inl ⟨hb1, (Option.some.inj h1).symm⟩
    · rw [if_neg hb1] at h1; exact .inr ⟨AH.lt_of_get h1, h1⟩
  have old : ∀ {b1 c1 d1 sz1}, b1 < H.size → ρ.upd H.size (w.heap.size, 0, sz) b1 = some (c1, d1, sz1) → ρ b1 = some (c1, d1, sz1) := by
    intro b1 c1 d1 sz1 hb1 hx
    rwa [Ren.upd_ne (by omega)] at hx
  constructor
  · refine ⟨h.base, ?_, ?_, ?_, ?_, ?_, ?_, ?_⟩
    · exact h.below.alloc hB ob
    · intro b1 x hx
      rw [AH.size_push]
      by_cases hb1 : b1 = H.size
      · omega
      · rw [Ren.upd_ne hb1] at hx; have := h.dom b1 x hx; omega
    · intro b1 c1 d1 sz1 hx
      rw [World.size_alloc]
      by_cases hb1 : b1 = H.size
      · subst hb1; rw [Ren.upd_same] at hx; cases hx; omega
      · rw [Ren.upd_ne hb1] at hx; have := h.blk b1 c1 d1 sz1 hx; omega
    · intro b1 c1 d1 sz1 o1 hx ho1
      rcases key b1 o1 ho1 with ⟨rfl, rfl⟩ | ⟨hlt, ho1⟩
      · rw [Ren.upd_same] at hx; cases hx; rw [hlast]; exact hnew.mono hle
      · have hx' := old hlt hx
        rw [hheap c1 (h.blk b1 c1 d1 sz1 hx')]; exact (h.obj b1 c1 d1 sz1 o1 hx' ho1).mono hle
    · intro b1 c1 d1 sz1 o1 hx ho1 hr1
      rcases key b1 o1 ho1 with ⟨rfl, rfl⟩ | ⟨hlt, ho1⟩
      · rw [Ren.upd_same] at hx; cases hx; exact hB
      · exact h.own b1 c1 d1 sz1 o1 (old hlt hx) ho1 hr1
    · intro b1 c1 d1 sz1 cs hx ho1
      rcases key b1 _ ho1 with ⟨rfl, rfl⟩ | ⟨hlt, ho1⟩
      · simp [AObj.rw] at hrw
      · exact h.ro b1 c1 d1 sz1 cs (old hlt hx) ho1
    · intro b1 b2 c1 d1 d2 sz1 sz2 o1 o2 hx1 hx2 ho1 ho2 hr1 hr2
      rcases key b1 o1 ho1 with ⟨rfl, rfl⟩ | ⟨n1, k1⟩ <;> rcases key b2 o2 ho2 with ⟨rfl, rfl⟩ | ⟨n2, k2⟩
      · rfl
      · rw [Ren.upd_same] at hx1; cases hx1
        have := h.blk _ _ _ _ (old n2 hx2); omega
      · rw [Ren.upd_same] at hx2; cases hx2
        have := h.blk _ _ _ _ (old n1 hx1); omega
      · exact h.inj _ _ _ _ _ _ _ _ _ (old n1 hx1) (old n2 hx2) k1 k2 hr1 hr2
  · refine ⟨hle, ?_, by rw [AH.size_push]; omega, by simp, ?_, ?_, ?_, ?_⟩
    · intro b1 x hx hn
      by_cases hb1 : b1 = H.size
      · rw [AH.size_push]; omega
      · rw [Ren.upd_ne hb1, hn] at hx; cases hx
    · intro b1 hb1 _; exact AH.get_push_old hb1
    · intro b1 o1 ho1 _; rw [AH.get_push_old (AH.lt_of_get ho1)]; exact ho1
    · intro c1 hc _; exact hheap c1 hc
    · intro b1 c1 d1 sz1 hx hn
      by_cases hb1 : b1 = H.size
      · subst hb1; rw [Ren.upd_same] at hx; cases hx; exact .inl (Nat.le_refl _)
      · rw [Ren.upd_ne hb1, hn] at hx; cases hx

/-- A row of cells that goes on under a new number, in its own block (that may have been written behind its end) or in a new one. -/
theorem Rel.move (h : Rel P w0 B ρ H w) {b c d sz : Nat} {cs : List Value} (hb : ρ b = some (c, d, sz)) (ho : H.get b = some (.cells false cs)) {o' : AObj} (hrw' : o'.rw = true) {w' : World} {c' d' sz' : Nat}
    (hos : w'.os = w.os) (htape : w'.tape = w.tape) (hout : w'.output = w.output) (hsz : w.heap.size ≤ w'.heap.size)
    (hc' : c' = c ∧ w'.heap.size = w.heap.size ∨ c' = w.heap.size ∧ c' < w'.heap.size) (hoth : ∀ k, k < w.heap.size → k ≠ c → w'.heap[k]? = w.heap[k]?)
    (hnew : ORel P ρ d' sz' o' w'.heap[c']?) (hkeep : c' ≠ c → w'.heap[c]? = w.heap[c]?) :
    Rel P w0 B (ρ.upd H.size (c', d', sz')) ((H.set b .dead).push o') w' ∧ Ext ρ H w (ρ.upd H.size (c', d', sz')) ((H.set b .dead).push o') w' := by
  have hlt := AH.lt_of_get ho
  have hcB : B ≤ c := h.own b c d sz _ hb ho rfl
  have hB := h.size
  have hcw : c < w.heap.size := h.blk b c d sz hb
  have hc'w : c' < w'.heap.size := by rcases hc' with ⟨e, e2⟩ | ⟨_, e⟩ <;> omega
  have hBc' : B ≤ c' := by rcases hc' with ⟨e, _⟩ | ⟨e, _⟩ <;> omega
  have hsize : (H.set b .dead).size = H.size := AH.size_set ..
  have hnone : ρ H.size = none := by
    cases hn : ρ H.size with
    | none => rfl
    | some x => have := h.dom _ _ hn; omega
  have hle := Ren.upd_le (x := (c', d', sz')) hnone
  have key : ∀ b1 o1, ((H.set b .dead).push o').get b1 = some o1 → (b1 = H.size ∧ o1 = o') ∨ (b1 = b ∧ o1 = .dead) ∨ (b1 < H.size ∧ b1 ≠ b ∧ H.get b1 = some o1) := by
    intro b1 o1 h1
    rw [AH.get_push, hsize] at h1
    by_cases hb1 : b1 = H.size
    · rw [if_pos hb1] at h1; exact .inl ⟨hb1, (Option.some.inj h1).symm⟩
    · rw [if_neg hb1, AH.get_set] at h1
      by_cases hb2 : b1 = b
      · rw [if_pos hb2, if_pos hlt] at h1; exact .inr (.inl ⟨hb2, (Option.some.inj h1).symm⟩)
      · rw [if_neg hb2] at h1; exact .inr (.inr ⟨AH.lt_of_get h1, hb2, h1⟩)
  have old : ∀ {b1 c1 d1 sz1}, b1 < H.size → ρ.upd H.size (c', d', sz') b1 = some (c1, d1, sz1) → ρ b1 = some (c1, d1, sz1) := by
    intro b1 c1 d1 sz1 hb1 hx
    rwa [Ren.upd_ne (by omega)] at hx
  -- an old block that is written lies elsewhere
  have apart : ∀ {b1 c1 d1 sz1 o1}, b1 ≠ b → ρ b1 = some (c1, d1, sz1) → H.get b1 = some o1 → o1.rw = true → c1 ≠ c := by
    intro b1 c1 d1 sz1 o1 hne hx ho1 hr1 e
    subst e
    exact hne (h.inj _ _ _ _ _ _ _ _ _ hx hb ho1 ho hr1 rfl)
  have ne' : ∀ {b1 c1 d1 sz1 o1}, b1 ≠ b → ρ b1 = some (c1, d1, sz1) → H.get b1 = some o1 → o1.rw = true → c1 ≠ c' := by
    intro b1 c1 d1 sz1 o1 hne hx ho1 hr1 e
    rcases hc' with ⟨e1, _⟩ | ⟨e1, _⟩
    · exact apart hne hx ho1 hr1 (e.trans e1)
    · have := h.blk _ _ _ _ hx; omega
  constructor
  · refine ⟨h.base, ?_, ?_, ?_, ?_, ?_, ?_, ?_⟩
    · exact h.below.trans ⟨hos, htape, hout, hsz, fun k hk => hoth k (by omega) (by omega)⟩
    · intro b1 x hx
      rw [AH.size_push, hsize]
      by_cases hb1 : b1 = H.size
      · omega
      · rw [Ren.upd_ne hb1] at hx; have := h.dom b1 x hx; omega
    · intro b1 c1 d1 sz1 hx
      by_cases hb1 : b1 = H.size
      · subst hb1; rw [Ren.upd_same] at hx; cases hx; exact hc'w
      · rw [Ren.upd_ne hb1] at hx; have := h.blk b1 c1 d1 sz1 hx; omega
    · intro b1 c1 d1 sz1 o1 hx ho1
      rcases key b1 o1 ho1 with ⟨rfl, rfl⟩ | ⟨rfl, rfl⟩ | ⟨hl, hne, ho1⟩
      · rw [Ren.upd_same] at hx; cases hx; exact hnew.mono hle
      · trivial
      · have hx' := old hl hx
        have hw := h.blk b1 c1 d1 sz1 hx'
        by_cases e : c1 = c
        · subst e
          by_cases e' : c' = c1
          · cases hr1 : o1.rw with
            | true => exact absurd rfl (apart hne hx' ho1 hr1)
            | false =>
              cases o1 with
              | dead => trivial
              | map es cl => simp [AObj.rw] at hr1
              | cells r cs1 =>
                cases r with
                | false => simp [AObj.rw] at hr1
                | true => have := h.ro b1 _ _ _ _ hx' ho1; omega
          · rw [hkeep e']; exact (h.obj b1 _ d1 sz1 o1 hx' ho1).mono hle
        · rw [hoth c1 hw e]; exact (h.obj b1 c1 d1 sz1 o1 hx' ho1).mono hle
    · intro b1 c1 d1 sz1 o1 hx ho1 hr1
      rcases key b1 o1 ho1 with ⟨rfl, rfl⟩ | ⟨rfl, rfl⟩ | ⟨hl, hne, ho1⟩
      · rw [Ren.upd_same] at hx; cases hx; exact hBc'
      · simp [AObj.rw] at hr1
      · exact h.own b1 c1 d1 sz1 o1 (old hl hx) ho1 hr1
    · intro b1 c1 d1 sz1 cs1 hx ho1
      rcases key b1 _ ho1 with ⟨rfl, rfl⟩ | ⟨rfl, e⟩ | ⟨hl, hne, ho1⟩
      · simp [AObj.rw] at hrw'
      · cases e
      · exact h.ro b1 c1 d1 sz1 cs1 (old hl hx) ho1
    · intro b1 b2 c1 d1 d2 sz1 sz2 o1 o2 hx1 hx2 ho1 ho2 hr1 hr2
      rcases key b1 o1 ho1 with ⟨rfl, rfl⟩ | ⟨rfl, rfl⟩ | ⟨n1, m1, k1⟩ <;> rcases key b2 o2 ho2 with ⟨rfl, rfl⟩ | ⟨rfl, rfl⟩ | ⟨n2, m2, k2⟩ <;> try (simp [AObj.rw] at hr1; done)
      all_goals try (simp [AObj.rw] at hr2; done)
      · rfl
      · rw [Ren.upd_same] at hx1; cases hx1; exact absurd rfl (ne' m2 (old n2 hx2) k2 hr2)
      · rw [Ren.upd_same] at hx2; cases hx2; exact absurd rfl (ne' m1 (old n1 hx1) k1 hr1)
      · exact h.inj _ _ _ _ _ _ _ _ _ (old n1 hx1) (old n2 hx2) k1 k2 hr1 hr2
  · refine ⟨hle, ?_, by rw [AH.size_push, hsize]; omega, hsz, ?_, ?_, ?_, ?_⟩
    · intro b1 x hx hn
      by_cases hb1 : b1 = H.size
      · rw [AH.size_push, hsize]; omega
      · rw [Ren.upd_ne hb1, hn] at hx; cases hx
    · intro b1 hb1 hn
      rw [AH.get_push_old (by rw [hsize]; exact hb1), AH.get_set_ne (fun e => by rw [e, hb] at hn; cases hn)]
    · intro b1 o1 ho1 hr1
      rw [AH.get_push_old (by rw [hsize]; exact AH.lt_of_get ho1), AH.get_set_ne (fun e => by rw [e, ho] at ho1; cases ho1; cases hr1)]
      exact ho1
    · intro c1 hc1 hf
      exact hoth c1 hc1 (fun e => by subst e; have := hf b d sz _ hb ho; cases this)
    · intro b1 c1 d1 sz1 hx hn
      by_cases hb1 : b1 = H.size
      · subst hb1; rw [Ren.upd_same] at hx; cases hx
        rcases hc' with ⟨e, _⟩ | ⟨e, _⟩
        · exact .inr ⟨b, d, sz, _, by rw [hb, e], ho, rfl⟩
        · exact .inl (by omega)
      · rw [Ren.upd_ne hb1, hn] at hx; cases hx
end
end Go.Proofs.YtbjelopcelompaaGreatDoor.Gst
