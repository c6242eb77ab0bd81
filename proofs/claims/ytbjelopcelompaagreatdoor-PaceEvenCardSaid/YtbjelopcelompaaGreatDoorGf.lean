/- Operations on memory: loads, stores, new blocks. -/
import Derived.Test.YtbjelopcelompaaGreatDoorGe
namespace Go.Proofs.YtbjelopcelompaaGreatDoor.Gst
open Go Go.RowKit
set_option linter.unusedSimpArgs false
section
variable {P : Program} {w0 : World} {B : Nat} {ρ : Ren} {H : AH} {w : World}

/-- What an operation has come to. -/
def Out (P : Program) (w0 : World) (B : Nat) (ρ : Ren) (H : AH) (w : World) (r : Result Next) (v : Value) (H' : AH) : Prop :=
  ∃ v' w' ρ', (r = .ok (.value v') w' ∨ (r = .ok .skip w' ∧ v' = undef)) ∧ VRel P ρ' v v' ∧ Ext ρ H w ρ' H' w' ∧ Rel P w0 B ρ' H' w'

theorem Out.pure (hR : Rel P w0 B ρ H w) {r : Result Next} {v v' : Value} (hr : r = .ok (.value v') w) (hv : VRel P ρ v v') : Out P w0 B ρ H w r v H :=
  ⟨v', w, ρ, .inl hr, hv, Ext.refl _ _ _, hR⟩

theorem pAt_some {v : Value} {b o : Nat} (h : pAt v = some (b, o)) : v = .pointer (some ⟨b, o, none⟩) := by
  unfold pAt at h
  split at h
  · cases h; rfl
  · cases h
theorem pCells_some {b : Nat} {cs : List Value} (h : pCells H b = some cs) : ∃ ro, H.get b = some (.cells ro cs) := by
  unfold pCells at h
  split at h
  · rename_i ro cs' hg; cases h; exact ⟨ro, hg⟩
  · cases h

/-- A block of the run that the abstract one speaks of: its cells. -/
theorem Rel.cells (hR : Rel P w0 B ρ H w) {b c d sz : Nat} {ro : Bool} {cs : List Value} (hb : ρ b = some (c, d, sz)) (ho : H.get b = some (.cells ro cs)) :
    ∃ cc el fz, w.heap[c]? = some (.cells cc el fz) ∧ cc.size = sz ∧ d + cs.length ≤ sz ∧ (ro = false → fz = (0, 0)) ∧ LRel P ρ cs ((cc.toList.drop d).take cs.length) :=
  hR.obj b c d sz _ hb ho

theorem cell_at {c d o n : Nat} {cc : Array Value} {el : TypeId} {fz : Nat × Nat} {y : Value} (hg : w.heap[c]? = some (.cells cc el fz)) (hy : ((cc.toList.drop d).take n)[o]? = some y) :
    w.cell? ⟨c, d + o, none⟩ = some y := by
  rw [List.getElem?_take] at hy
  split at hy
  · rw [List.getElem?_drop, Array.getElem?_toList] at hy
    simp [World.cell?, hg, hy]
  · cases hy

theorem load1 (hR : Rel P w0 B ρ H w) {v v' x : Value} (h : pLd1 v H = some x) (hv : VRel P ρ v v') : ∃ a' x', v' = .pointer (some a') ∧ (load a').run P w = .ok x' w ∧ VRel P ρ x x' := by
  unfold pLd1 at h
  obtain ⟨⟨b, o⟩, ha, h⟩ := Option.bind_eq_some_iff.1 h
  obtain ⟨cs, hc, h⟩ := Option.bind_eq_some_iff.1 h
  rw [pAt_some ha] at hv
  obtain ⟨c, d, sz, hb, rfl⟩ := hv.ptr_inv
  obtain ⟨ro, hg⟩ := pCells_some hc
  obtain ⟨cc, el, fz, hw, _, _, _, hl⟩ := hR.cells hb hg
  obtain ⟨x', hx', hxx⟩ := hl.get h
  refine ⟨_, x', rfl, ?_, hxx⟩
  have hcell := cell_at hw hx'
  simp [run_load, hcell]

theorem loadN (hR : Rel P w0 B ρ H w) {n : Nat} {v v' x : Value} (h : pLdN n v H = some x) (hv : VRel P ρ v v') : ∃ a' xs', v' = .pointer (some a') ∧ (loadCells a' n).run P w = .ok xs' w ∧ VRel P ρ x (.agg xs') := by
  unfold pLdN at h
  obtain ⟨⟨b, o⟩, ha, h⟩ := Option.bind_eq_some_iff.1 h
  obtain ⟨cs, hc, h⟩ := Option.bind_eq_some_iff.1 h
  rw [pAt_some ha] at hv
  obtain ⟨c, d, sz, hb, rfl⟩ := hv.ptr_inv
  obtain ⟨ro, hg⟩ := pCells_some hc
  obtain ⟨cc, el, fz, hw, _, _, _, hl⟩ := hR.cells hb hg
  split at h
  · rename_i hle
    cases h
    have hl' := (hl.drop o).take n
    have hlen : ((((cc.toList.drop d).take cs.length).drop o).take n).length = n := by rw [← hl'.1]; simp; simp at hle; omega
    have hrun := run_loadCells_list (P := P) w ⟨c, d + o, none⟩ ((((cc.toList.drop d).take cs.length).drop o).take n) (by
      intro j y hy
      rw [List.getElem?_take] at hy
      split at hy
      · rw [List.getElem?_drop] at hy
        have := cell_at hw hy
        rw [Addr.add_lit, Nat.add_assoc]
        exact this
      · cases hy)
    rw [hlen] at hrun
    exact ⟨_, _, rfl, hrun, hl'.toAgg⟩
  · cases h

theorem List.splice_take {α : Type} (l : List α) (o : Nat) (xs : List α) : (l.take o ++ xs ++ l.drop (o + xs.length)) = l.take o ++ xs ++ l.drop (o + xs.length) := rfl

/-- A store into a window of a row. -/
theorem splice_window {cc : List Value} {d o n : Nat} {xs : List Value} (hd : d + n ≤ cc.length) (ho : o + xs.length ≤ n) :
    ((cc.take (d + o) ++ xs ++ cc.drop (d + o + xs.length)).drop d).take n = splice ((cc.drop d).take n) o xs := by
  unfold splice
  apply List.ext_getElem?
  intro i
  simp only [List.getElem?_take, List.getElem?_drop, List.getElem?_append, List.length_take, List.length_append, List.length_drop]
  have m1 : min (d + o) cc.length = d + o := by omega
  have m2 : min n (cc.length - d) = n := by omega
  have m3 : min o n = o := by omega
  simp only [m1, m2, m3]
  by_cases hi : i < n
  · simp only [hi, if_true]
    by_cases h1 : i < o
    · have a1 : d + i < d + o := by omega
      have a2 : d + i < d + o + xs.length := by omega
      have a3 : i < o + xs.length := by omega
      simp [h1, a1, a2, a3]
    · by_cases h2 : i < o + xs.length
      · have a1 : ¬ d + i < d + o := by omega
        have a2 : d + i < d + o + xs.length := by omega
        have a4 : d + i - (d + o) = i - o := by omega
        simp [h1, h2, a1, a2, a4]
      · have a2 : ¬ d + i < d + o + xs.length := by omega
        have a5 : o + xs.length + (i - (o + xs.length)) < n := by omega
        have a6 : d + o + xs.length + (d + i - (d + o + xs.length)) = d + (o + xs.length + (i - (o + xs.length))) := by omega
        simp [h2, a2, a5, a6]
  · simp only [hi, if_false]
    have a3 : ¬ i < o + xs.length := by omega
    have a5 : ¬ o + xs.length + (i - (o + xs.length)) < n := by omega
    simp [a3, a5]

theorem splice_length {cs xs : List Value} {o : Nat} (h : o + xs.length ≤ cs.length) : (splice cs o xs).length = cs.length := by
  unfold splice; simp; omega
theorem LRel.splice {cs cs' xs xs' : List Value} (h : LRel P ρ cs cs') (hx : LRel P ρ xs xs') (o : Nat) : LRel P ρ (Gst.splice cs o xs) (Gst.splice cs' o xs') := by
  unfold Gst.splice
  rw [← hx.1]
  exact ((h.take o).append hx).append (h.drop _)

theorem ones_rel {xs xs' : List Value} (h : LRel P ρ xs xs') (ha : xs.all Value.oneCell' = true) : ∀ v ∈ xs', v.oneCell' = true := by
  intro v hv
  obtain ⟨i, hi, rfl⟩ := List.getElem_of_mem hv
  have hi' : i < xs.length := by have := h.1; omega
  have hr := h.2 i xs[i] xs'[i] (List.getElem?_eq_getElem hi') (List.getElem?_eq_getElem hi)
  rw [← hr.oneCell]
  exact List.all_eq_true.1 ha _ (List.getElem_mem hi')

theorem storeN (hR : Rel P w0 B ρ H w) {n : Nat} {v v' x x' : Value} {H' : AH} (h : pSt n v x H = some H') (hv : VRel P ρ v v') (hx : VRel P ρ x x') :
    ∃ a' w', v' = .pointer (some a') ∧ x'.cells.size = n ∧ (storeCells a' x'.cells.toList).run P w = .ok () w' ∧ Ext ρ H w ρ H' w' ∧ Rel P w0 B ρ H' w' := by
  unfold pSt at h
  obtain ⟨⟨b, o⟩, ha, h⟩ := Option.bind_eq_some_iff.1 h
  rw [pAt_some ha] at hv
  obtain ⟨c, d, sz, hb, rfl⟩ := hv.ptr_inv
  simp only at h
  split at h
  · rename_i cs hg
    split at h
    · rename_i hcond
      obtain ⟨hn, hfit, hone⟩ := hcond
      cases h
      obtain ⟨cc, el, fz, hw, hsz, hd, hfz, hl⟩ := hR.cells hb hg
      have hfz := hfz rfl
      subst hfz
      have hxc := hx.cells
      have hlen : x'.cells.toList.length = n := by rw [← hxc.1]; simpa using hn
      have hlenx : x.cells.toList.length = n := by simpa using hn
      have hst := run_storeCells_at P c (d + o) el x'.cells.toList 0 cc w hw (by rw [hlen]; omega) (ones_rel hxc hone)
      simp only [Nat.add_zero] at hst
      have hset := hR.setBlock (o := .cells false cs) (o' := .cells false (Gst.splice cs o x.cells.toList)) hb hg rfl rfl
        (w' := w.setRow c (cc.toList.take (d + o) ++ x'.cells.toList ++ cc.toList.drop (d + o + x'.cells.toList.length)).toArray)
        rfl rfl rfl (size_setRow ..) (fun k hk => setRow_other w c k _ hk)
        ⟨_, el, (0, 0), setRow_heap w c cc _ el (0, 0) hw, (by have h1 := hlen; simp at h1 ⊢; omega), by rw [splice_length (by rw [hlenx]; exact hfit)]; exact hd, fun _ => rfl, by
          have hwin := splice_window (cc := cc.toList) (d := d) (o := o) (n := cs.length) (xs := x'.cells.toList) (by simp; omega) (by rw [hlen]; exact hfit)
          rw [splice_length (by rw [hlenx]; exact hfit)]
          have e : (cc.toList.take (d + o) ++ x'.cells.toList ++ cc.toList.drop (d + o + x'.cells.toList.length)).toArray.toList = cc.toList.take (d + o) ++ x'.cells.toList ++ cc.toList.drop (d + o + x'.cells.toList.length) := rfl
          rw [e, hwin]
          exact hl.splice hxc o⟩
      refine ⟨_, _, rfl, by simpa using hlen, hst, hset.2, hset.1⟩
    · cases h
  · cases h

/-- A new row of cells. -/
theorem pushCells (hR : Rel P w0 B ρ H w) {cs cs' : List Value} {el : TypeId} (hl : LRel P ρ cs cs') :
    Rel P w0 B (ρ.upd H.size (w.heap.size, 0, cs'.length)) (H.push (.cells false cs)) (w.alloc (.cells cs'.toArray el)) ∧
    Ext ρ H w (ρ.upd H.size (w.heap.size, 0, cs'.length)) (H.push (.cells false cs)) (w.alloc (.cells cs'.toArray el)) :=
  hR.push rfl ⟨_, el, (0, 0), rfl, by simp, by rw [hl.1]; omega, fun _ => rfl, by rw [hl.1]; simpa using hl⟩

theorem newPtr (hR : Rel P w0 B ρ H w) {cs cs' : List Value} {el : TypeId} (hl : LRel P ρ cs cs') {r : Result Next} (hr : r = .ok (.value (.pointer (some ⟨w.heap.size, 0, none⟩))) (w.alloc (.cells cs'.toArray el))) :
    Out P w0 B ρ H w r (.pointer (some ⟨H.size, 0, none⟩)) (H.push (.cells false cs)) :=
  ⟨_, _, _, .inl hr, .ptr (d := 0) (o := 0) (Ren.upd_same ..), (pushCells hR hl).2, (pushCells hR hl).1⟩

theorem newSlice (hR : Rel P w0 B ρ H w) {cs cs' : List Value} {el : TypeId} {n e : Nat} (hl : LRel P ρ cs cs') (he : 0 < e) (hn : n * e ≤ cs'.length) {r : Result Next}
    (hr : r = .ok (.value (.slice (some ⟨w.heap.size, 0, none⟩) n n)) (w.alloc (.cells cs'.toArray el))) :
    Out P w0 B ρ H w r (.slice (some ⟨H.size, 0, none⟩) n e) (H.push (.cells false cs)) :=
  ⟨_, _, _, .inl hr, .slice (d := 0) (o := 0) (Ren.upd_same ..) (by omega) (Nat.le_refl _) he, (pushCells hR hl).2, (pushCells hR hl).1⟩
end
end Go.Proofs.YtbjelopcelompaaGreatDoor.Gst
