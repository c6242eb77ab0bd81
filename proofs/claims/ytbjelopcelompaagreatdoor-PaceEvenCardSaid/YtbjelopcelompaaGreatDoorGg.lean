/- append and make. -/
import Derived.Test.YtbjelopcelompaaGreatDoorGf
namespace Go.Proofs.YtbjelopcelompaaGreatDoor.Gst
open Go Go.RowKit
set_option linter.unusedSimpArgs false
section
variable {P : Program} {w0 : World} {B : Nat} {ρ : Ren} {H : AH} {w : World}

theorem row_run (hR : Rel P w0 B ρ H w) {e m : Nat} {x x' : Value} {news : List Value} (h : pRow e x H = some (m, news)) (hx : VRel P ρ x x') :
    ∃ a' k' news', x' = .slice a' m k' ∧ LRel P ρ news news' ∧ news'.length = m * e ∧ (Builtin.firstCells e m x').run P w = .ok news'.toArray w ∧ (Builtin.firstCells e m x').run P w.drew = .ok news'.toArray w.drew := by
  by_cases hsl : ∃ a n k, x = .slice a n k
  case neg =>
    exfalso
    cases x <;> first | exact hsl ⟨_, _, _, rfl⟩ | (simp [pRow] at h)
  obtain ⟨a, n, k, rfl⟩ := hsl
  cases a with
  | none =>
    simp only [pRow] at h
    split at h
    · rename_i hn
      cases h
      subst hn
      rw [hx.nilslice_inv]
      exact ⟨none, k, [], rfl, LRel.nil, by simp, by simp [Builtin.firstCells], by simp [Builtin.firstCells]⟩
    · cases h
  | some ad =>
    obtain ⟨b, o, sp⟩ := ad
    cases sp with
    | some sp => simp [pRow] at h
    | none =>
    simp only [pRow] at h
    split at h
    · rename_i hm
      cases h
      subst hm
      obtain ⟨a', k', rfl, ha⟩ := hx.anyslice_inv
      cases a' with
      | none => simp at ha
      | some a' => exact ⟨some a', k', [], rfl, LRel.nil, by simp, by simp [Builtin.firstCells, loadCells, loadCellsFrom], by simp [Builtin.firstCells, loadCells, loadCellsFrom]⟩
    · rename_i hm
      have h2 := Option.bind_eq_some_iff.1 h
      clear h
      obtain ⟨cs, hc, h⟩ := h2
      split at h
      · rename_i hle
        cases h
        cases hx with
        | lit h => simp [litV] at h
        | slice0 h => exact absurd rfl hm
        | empty => exact absurd rfl hm
        | slice hb hk hn he =>
          rename_i c d sz k'
          have hld : pLdN (m * e) (.pointer (some ⟨b, o, none⟩)) H = some (.agg ((cs.drop o).take (m * e)).toArray) := by
            simp [pLdN, pAt, hc, hle]
          obtain ⟨a', xs', ha', hrun, hv⟩ := loadN hR hld (.ptr hb)
          cases ha'
          obtain ⟨ys, hys, hsz, hel⟩ := hv.agg_inv
          cases hys
          have hrun2 : (loadCells ⟨c, d + o, none⟩ (m * e)).run P w.drew = .ok xs' w.drew := by
            obtain ⟨a2, xs2, ha2, hr2, _⟩ := loadN hR.drew hld (.ptr hb)
            cases ha2
            have hcs : (loadCells ⟨c, d + o, none⟩ (m * e)).run P w = .ok xs' w := hrun
            -- the cells are the same ones
            obtain ⟨ro, hg⟩ := pCells_some hc
            obtain ⟨cc, el, fz, hw, hsz', hd', _, _⟩ := hR.cells hb hg
            have hrd : ∀ (W : World), W.heap[c]? = some (.cells cc el fz) → (loadCells ⟨c, d + o, none⟩ (m * e)).run P W = .ok ((cc.toList.drop (d + o)).take (m * e)).toArray W := by
              intro W hW
              have hl : ((cc.toList.drop (d + o)).take (m * e)).length = m * e := by simp; omega
              have := run_loadCells_list (P := P) W ⟨c, d + o, none⟩ ((cc.toList.drop (d + o)).take (m * e)) (by
                intro j y hy
                rw [List.getElem?_take] at hy
                split at hy
                · rw [List.getElem?_drop, Array.getElem?_toList] at hy
                  rw [Addr.add_lit]
                  simp [World.cell?, hW, hy]
                · cases hy)
              rwa [hl] at this
            rw [hrd w hw] at hcs
            cases hcs
            exact hrd w.drew hw
          refine ⟨some ⟨c, d + o, none⟩, k', xs'.toList, rfl, ⟨by simpa using hsz, fun i x y hx hy => hel i x y (by simpa using hx) (by simpa using hy)⟩, ?_, ?_, ?_⟩
          · have := hsz; simp at this ⊢; omega
          · simpa [Builtin.firstCells] using hrun
          · simpa [Builtin.firstCells] using hrun2
      · cases h

theorem append_grow_run {t u ty el : TypeId} {i : TypeInfo} {z : Value} (ht : P.underlying t = some (.slice el)) (hu : P.underlying u = some (.slice el)) (hi : P.info? el = some i) (hz : i.zero = some z)
    (base : Option Addr) (sLen sCap : Nat) (olds' : List Value) (ho : (Builtin.firstCells i.size sLen (.slice base sLen sCap)).run P w.drew = .ok olds'.toArray w.drew)
    {a' : Option Addr} {m k' : Nat} {news' : List Value} (hx : (Builtin.firstCells i.size m (.slice a' m k')).run P w.drew = .ok news'.toArray w.drew)
    (hg : sCap < sLen + m) (hb : (sLen + m) * i.bytes ≤ room) (h63 : sLen + m ≤ room) :
    (Builtin.append_ #[t, u] ty #[.slice base sLen sCap, .slice a' m k']).run P w =
      .ok (.slice (some ⟨w.heap.size, 0, none⟩) (sLen + m) (grownCap w (sLen + m) sCap el))
        (w.drew.alloc (.cells (olds' ++ news' ++ (Builtin.zeroCells z.cells (grownCap w (sLen + m) sCap el - (sLen + m))).toList).toArray el)) := by
  unfold room at hb h63
  have hn : ¬ (sLen + m ≤ sCap) := by omega
  have h63' : ¬ (9223372036854775807 < ((sLen : Int) + (m : Int))) := by omega
  have h48' : ¬ (281474976710656 < Builtin.nextslicecap (sLen + m) sCap * i.bytes) := by
    have := growslice_fits hg hb; omega
  simp [Builtin.append_, run_underlying ht, run_underlying hu, sizeOf, typeInfo, zeroValue, hi, hz, Builtin.lenOf, hn, h63', h48', Question.forced, ho, hx, newRow, grownCap]
  congr 2
  apply Array.ext'
  simp [List.append_assoc]

theorem append_room_run {t u ty el : TypeId} {i : TypeInfo} (ht : P.underlying t = some (.slice el)) (hu : P.underlying u = some (.slice el)) (hi : P.info? el = some i)
    (base : Addr) (sLen sCap : Nat) {a' : Option Addr} {m k' : Nat} {news' : List Value} (hx : (Builtin.firstCells i.size m (.slice a' m k')).run P w = .ok news'.toArray w)
    (hg : sLen + m ≤ sCap) {w' : World} (hst : (storeCells (base.add (sLen * i.size)) news').run P w = .ok () w') :
    (Builtin.append_ #[t, u] ty #[.slice (some base) sLen sCap, .slice a' m k']).run P w = .ok (.slice (some base) (sLen + m) sCap) w' := by
  simp [Builtin.append_, run_underlying ht, run_underlying hu, sizeOf, typeInfo, hi, Builtin.lenOf, hg, hx, hst]

theorem append_nil_run {t u ty el : TypeId} {i : TypeInfo} (ht : P.underlying t = some (.slice el)) (hu : P.underlying u = some (.slice el)) (hi : P.info? el = some i)
    {a' : Option Addr} {k' : Nat} {news' : List Value} (hx : (Builtin.firstCells i.size 0 (.slice a' 0 k')).run P w = .ok news'.toArray w) :
    (Builtin.append_ #[t, u] ty #[.slice none 0 0, .slice a' 0 k']).run P w = .ok (.slice none 0 0) w := by
  simp [Builtin.append_, run_underlying ht, run_underlying hu, sizeOf, typeInfo, hi, Builtin.lenOf, hx]

/-- What 'append' gives: the row that it makes stands under a new number. -/
theorem app_out (hR : Rel P w0 B ρ H w) {t u ty el : TypeId} {i : TypeInfo} {z : Value} (ht : P.underlying t = some (.slice el)) (hu : P.underlying u = some (.slice el)) (hi : P.info? el = some i) (hz : i.zero = some z)
    (hzs : z.cells.size = i.size) {s s' x x' v : Value} {H' : AH} (h : pApp i.size i.bytes s x H = some (v, H')) (hs : VRel P ρ s s') (hx : VRel P ρ x x') :
    ∃ v' w' ρ', (Builtin.append_ #[t, u] ty #[s', x']).run P w = .ok v' w' ∧ VRel P ρ' v v' ∧ Ext ρ H w ρ' H' w' ∧ Rel P w0 B ρ' H' w' := by
  unfold pApp at h
  have h2 := Option.bind_eq_some_iff.1 h
  clear h
  obtain ⟨⟨m, news⟩, hrow, h⟩ := h2
  obtain ⟨a', k', news', rfl, hln, hnl, hrun, hrunD⟩ := row_run hR hrow hx
  split at h
  · rename_i hcond
    obtain ⟨hone, he⟩ := hcond
    have hones := ones_rel hln hone
    simp only at h hone
    -- a new block, whatever stood there before
    have fresh : ∀ (base : Option Addr) (sCap n : Nat) (olds olds' : List Value), LRel P ρ olds olds' → olds'.length = n * i.size → s' = .slice base n sCap →
        (Builtin.firstCells i.size n (.slice base n sCap)).run P w.drew = .ok olds'.toArray w.drew → sCap < n + m → (n + m) * i.bytes ≤ room → n + m ≤ room →
        ∃ sz k, (Builtin.append_ #[t, u] ty #[s', .slice a' m k']).run P w = .ok (.slice (some ⟨w.heap.size, 0, none⟩) (n + m) k) (w.drew.alloc (.cells (olds' ++ news' ++ (Builtin.zeroCells z.cells (k - (n + m))).toList).toArray el)) ∧
          sz = k * i.size ∧ n + m ≤ k ∧ ORel P ρ 0 sz (.cells false (olds ++ news)) (some (.cells (olds' ++ news' ++ (Builtin.zeroCells z.cells (k - (n + m))).toList).toArray el)) := by
      intro base sCap n olds olds' hlo hlen hs' ho hg hb h63
      have hge := grownCap_ge w (n + m) sCap el
      refine ⟨_, grownCap w (n + m) sCap el, by rw [hs']; exact append_grow_run ht hu hi hz base n sCap olds' ho hrunD hg hb h63, rfl, hge, ?_⟩
      have htot : (olds' ++ news').length = (n + m) * i.size := by simp [hlen, hnl, Nat.add_mul]
      refine ⟨_, el, (0, 0), rfl, ?_, ?_, fun _ => rfl, ?_⟩
      · have hzl : (Builtin.zeroCells z.cells (grownCap w (n + m) sCap el - (n + m))).size = (grownCap w (n + m) sCap el - (n + m)) * i.size := by rw [size_zeroCells, hzs]
        simp only [List.size_toArray, List.length_append, Array.length_toList, hzl] at htot ⊢
        rw [htot, ← Nat.add_mul]
        congr 1
        omega
      · rw [Nat.zero_add, (hlo.append hln).1, htot]
        exact Nat.mul_le_mul_right _ hge
      · have e : ((olds' ++ news' ++ (Builtin.zeroCells z.cells (grownCap w (n + m) sCap el - (n + m))).toList).toArray.toList.drop 0).take (olds ++ news).length = olds' ++ news' := by
          rw [(hlo.append hln).1]
          simp only [List.drop_zero]
          exact List.take_left
        rw [e]
        exact hlo.append hln
    have freshPush : ∀ (base : Option Addr) (sCap : Nat), s' = .slice base 0 sCap → sCap = 0 → (Builtin.firstCells i.size 0 (.slice base 0 sCap)).run P w.drew = .ok [].toArray w.drew → 0 < m → m * i.bytes ≤ room → m ≤ room →
        ∃ v' w' ρ', (Builtin.append_ #[t, u] ty #[s', .slice a' m k']).run P w = .ok v' w' ∧ VRel P ρ' (.slice (some ⟨H.size, 0, none⟩) m i.size) v' ∧ Ext ρ H w ρ' (H.push (.cells false news)) w' ∧ Rel P w0 B ρ' (H.push (.cells false news)) w' := by
      intro base sCap hs' hcap ho hm hb h63
      obtain ⟨sz, k, hr, hsz, hk, hor⟩ := fresh base sCap 0 [] [] LRel.nil (by simp) hs' ho (by omega) (by simpa using hb) (by omega)
      simp only [Nat.zero_add, List.nil_append] at hr hk hor
      have hp := hR.drew.push (o := .cells false news) rfl hor
      exact ⟨_, _, _, hr, .slice (d := 0) (o := 0) (Ren.upd_same ..) (by rw [hsz]; simp) hk he, hp.2.of_drew, hp.1⟩
    by_cases hsl : ∃ a n k, s = .slice a n k
    case neg =>
      exfalso
      cases s <;> first | exact hsl ⟨_, _, _, rfl⟩ | (simp at h)
    obtain ⟨a, n, e', rfl⟩ := hsl
    cases a with
    | none =>
      simp only at h
      split at h
      · rename_i hnk
        obtain ⟨rfl, rfl⟩ := hnk
        have hs' := hs.nilslice_inv
        split at h
        · rename_i hm0
          cases h
          subst hm0
          rw [hs']
          exact ⟨_, w, ρ, append_nil_run ht hu hi hrun, .lit rfl, Ext.refl _ _ _, hR⟩
        · rename_i hm0
          split at h
          · rename_i hc
            cases h
            exact freshPush none 0 hs' rfl (by simp [Builtin.firstCells]) (by omega) hc.1 hc.2
          · cases h
      · cases h
    | some ad =>
      obtain ⟨b, o, sp⟩ := ad
      cases sp with
      | some sp => simp at h
      | none =>
      simp only at h
      split at h
      · rename_i hm0
        cases h
        subst hm0
        have hn0 : news' = [] := List.eq_nil_of_length_eq_zero (by simpa using hnl)
        subst hn0
        cases hs with
        | lit h => simp [litV] at h
        | slice hb hk hn he' =>
          exact ⟨_, w, ρ, append_room_run ht hu hi _ _ _ hrun (by omega) (by simp [storeCells]), .slice hb hk (by omega) he', Ext.refl _ _ _, hR⟩
        | slice0 hb =>
          exact ⟨_, w, ρ, append_room_run ht hu hi _ _ _ hrun (by omega) (by simp [storeCells]), .slice0 hb, Ext.refl _ _ _, hR⟩
        | empty =>
          exact ⟨_, w, ρ, append_room_run ht hu hi _ _ _ hrun (by omega) (by simp [storeCells]), .empty, Ext.refl _ _ _, hR⟩
      · rename_i hm0
        split at h
        · rename_i he0
          subst he0
          split at h
          · rename_i hc
            obtain ⟨rfl, hb, h63⟩ := hc
            cases h
            cases hs with
            | lit h => simp [litV] at h
            | slice hb hk hn he' => omega
            | slice0 hb' => exact freshPush _ 0 rfl rfl (by simp [Builtin.firstCells, loadCells, loadCellsFrom]) (by omega) hb h63
            | empty => exact freshPush _ 0 rfl rfl (by simp [Builtin.firstCells, loadCells, loadCellsFrom]) (by omega) hb h63
          · cases h
        · rename_i he0
          split at h
          · rename_i cs hg
            split at h
            · rename_i hc
              obtain ⟨rfl, hfit, hb, h63⟩ := hc
              cases h
              have hlt := AH.lt_of_get hg
              -- the row in a new block
              have grow : ∀ (base : Option Addr) (sCap c d sz : Nat), ρ b = some (c, d, sz) → s' = .slice base n sCap → sCap < n + m → (∃ olds', LRel P ρ ((cs.drop o).take (n * i.size)) olds' ∧ (Builtin.firstCells i.size n (.slice base n sCap)).run P w.drew = .ok olds'.toArray w.drew) →
                  ∃ v' w' ρ', (Builtin.append_ #[t, u] ty #[s', .slice a' m k']).run P w = .ok v' w' ∧ VRel P ρ' (.slice (some ⟨H.size, 0, none⟩) (n + m) i.size) v' ∧
                    Ext ρ H w ρ' ((H.set b .dead).push (.cells false ((cs.drop o).take (n * i.size) ++ news))) w' ∧ Rel P w0 B ρ' ((H.set b .dead).push (.cells false ((cs.drop o).take (n * i.size) ++ news))) w' := by
                intro base sCap c d sz hbc hs' hcap ⟨olds', hlo, ho⟩
                have hlen : olds'.length = n * i.size := by rw [← hlo.1]; simp; omega
                obtain ⟨sz', k, hr, hsz', hk, hor⟩ := fresh base sCap n _ olds' hlo hlen hs' ho hcap hb h63
                have hlast : (w.drew.alloc (.cells (olds' ++ news' ++ (Builtin.zeroCells z.cells (k - (n + m))).toList).toArray el)).heap[w.heap.size]? = some (.cells (olds' ++ news' ++ (Builtin.zeroCells z.cells (k - (n + m))).toList).toArray el) := heap_alloc_new w.drew _
                have hold : ∀ q, q < w.heap.size → (w.drew.alloc (.cells (olds' ++ news' ++ (Builtin.zeroCells z.cells (k - (n + m))).toList).toArray el)).heap[q]? = w.heap[q]? := fun q hq => heap_alloc_old w.drew _ q hq
                have hmv := hR.move hbc hg (o' := .cells false ((cs.drop o).take (n * i.size) ++ news)) rfl (w' := w.drew.alloc (.cells (olds' ++ news' ++ (Builtin.zeroCells z.cells (k - (n + m))).toList).toArray el)) (c' := w.heap.size) (d' := 0) (sz' := sz')
                  rfl rfl rfl (by simp) (.inr ⟨rfl, by simp⟩) (fun q hq _ => hold q hq) (by rw [hlast]; exact hor) (fun _ => hold c (hR.blk b c d sz hbc))
                exact ⟨_, _, _, hr, .slice (d := 0) (o := 0) (Ren.upd_same ..) (by rw [hsz']; simp) hk he, hmv.2, hmv.1⟩
              rcases hs.slice_inv he0 with ⟨c, d, sz, a, hb', rfl, rfl⟩ | ⟨c, d, sz, k, hb', hk, hn, rfl⟩
              · refine grow (some a) 0 c d sz hb' rfl (by omega) ⟨[], by simpa using LRel.nil, by simp [Builtin.firstCells, loadCells, loadCellsFrom]⟩
              · have he' : 0 < i.size := by omega
                obtain ⟨cc, elc, fz, hw, hsz, hd, hfz, hl⟩ := hR.cells hb' hg
                have hfz := hfz rfl
                subst hfz
                by_cases hroom : n + m ≤ k
                · -- in its own block
                  have hmul : n * i.size + m * i.size ≤ k * i.size := by rw [← Nat.add_mul]; exact Nat.mul_le_mul_right _ hroom
                  have hst := run_storeCells_at P c (d + o + n * i.size) elc news' 0 cc w hw (by rw [hnl]; omega) hones
                  simp only [Nat.add_zero] at hst
                  have hadd : (⟨c, d + o, none⟩ : Addr).add (n * i.size) = ⟨c, d + o + n * i.size, none⟩ := Addr.add_lit _ _ _
                  have hr := append_room_run (ty := ty) ht hu hi ⟨c, d + o, none⟩ n k hrun hroom (by rw [hadd]; exact hst)
                  have hor : ORel P ρ (d + o) sz (.cells false ((cs.drop o).take (n * i.size) ++ news)) (w.setRow c (cc.toList.take (d + o + n * i.size) ++ news' ++ cc.toList.drop (d + o + n * i.size + news'.length)).toArray).heap[c]? := by
                    rw [setRow_heap w c cc _ elc (0, 0) hw]
                    have hlo : ((cs.drop o).take (n * i.size)).length = n * i.size := by simp; omega
                    refine ⟨_, elc, (0, 0), rfl, (by simp; omega), (by rw [List.length_append, hlo, hln.1, hnl]; omega), fun _ => rfl, ?_⟩
                    have hlen2 : ((cs.drop o).take (n * i.size) ++ news).length = n * i.size + m * i.size := by rw [List.length_append, hlo, hln.1, hnl]
                    rw [hlen2]
                    have e : ((cc.toList.take (d + o + n * i.size) ++ news' ++ cc.toList.drop (d + o + n * i.size + news'.length)).toArray.toList.drop (d + o)).take (n * i.size + m * i.size) = ((cc.toList.drop (d + o)).take (n * i.size)) ++ news' := by
                      have hccl : d + o + n * i.size ≤ cc.toList.length := by simp; omega
                      have e1 : (cc.toList.take (d + o + n * i.size) ++ news' ++ cc.toList.drop (d + o + n * i.size + news'.length)).toArray.toList = cc.toList.take (d + o + n * i.size) ++ (news' ++ cc.toList.drop (d + o + n * i.size + news'.length)) := by simp
                      have l1 : (cc.toList.take (d + o + n * i.size)).length = d + o + n * i.size := by rw [List.length_take]; omega
                      rw [e1, List.drop_append_of_le_length (by omega), List.drop_take]
                      have l2 : ((cc.toList.drop (d + o)).take (d + o + n * i.size - (d + o))).length = n * i.size := by rw [List.length_take, List.length_drop]; omega
                      have l3 : d + o + n * i.size - (d + o) = n * i.size := by omega
                      rw [l3] at l2 ⊢
                      rw [← List.append_assoc, List.take_append_of_le_length (by rw [List.length_append, l2, hnl]; omega), List.take_of_length_le (by rw [List.length_append, l2, hnl]; omega)]
                    rw [e]
                    refine LRel.append ?_ hln
                    have := (hl.drop o).take (n * i.size)
                    have e2 : (((cc.toList.drop d).take cs.length).drop o).take (n * i.size) = (cc.toList.drop (d + o)).take (n * i.size) := by
                      rw [List.drop_take, List.drop_drop, List.take_take]
                      congr 1
                      omega
                    rwa [e2] at this
                  have hmv := hR.move hb' hg (o' := .cells false ((cs.drop o).take (n * i.size) ++ news)) rfl (w' := w.setRow c (cc.toList.take (d + o + n * i.size) ++ news' ++ cc.toList.drop (d + o + n * i.size + news'.length)).toArray) (c' := c) (d' := d + o) (sz' := sz)
                    rfl rfl rfl (by rw [size_setRow]; exact Nat.le_refl _) (.inl ⟨rfl, size_setRow ..⟩) (fun q _ hq => setRow_other w c q _ hq) hor (fun hne => absurd rfl hne)
                  have hv2 := VRel.slice (P := P) (o := 0) (n := n + m) (e := i.size) (k := k) (Ren.upd_same ρ H.size (c, d + o, sz)) (by omega) hroom he
                  exact ⟨_, _, _, hr, hv2, hmv.2, hmv.1⟩
                · refine grow (some ⟨c, d + o, none⟩) k c d sz hb' rfl (by omega) ?_
                  by_cases hn0 : n = 0
                  · subst hn0
                    exact ⟨[], by simpa using LRel.nil, by simp [Builtin.firstCells, loadCells, loadCellsFrom]⟩
                  · have hc : pCells H b = some cs := by simp [pCells, hg]
                    have hrow2 : pRow i.size (.slice (some ⟨b, o, none⟩) n i.size) H = some (n, (cs.drop o).take (n * i.size)) := by simp [pRow, hn0, hc, hfit]
                    obtain ⟨a2, k2, olds', e2, hlo, _, _, hrd⟩ := row_run hR hrow2 (.slice hb' hk hn he')
                    cases e2
                    exact ⟨olds', hlo, hrd⟩
            · cases h
          · cases h
  · cases h
end
end Go.Proofs.YtbjelopcelompaaGreatDoor.Gst
