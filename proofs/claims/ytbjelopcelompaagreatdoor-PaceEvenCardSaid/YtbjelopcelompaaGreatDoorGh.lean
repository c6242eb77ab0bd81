/- Literals, make, maps. -/
import Derived.Test.YtbjelopcelompaaGreatDoorGg
namespace Go.Proofs.YtbjelopcelompaaGreatDoor.Gst
open Go Go.RowKit
set_option linter.unusedSimpArgs false
section
variable {P : Program} {w0 : World} {B : Nat} {ρ : Ren} {H : AH} {w : World}

/-! ### Zeros, and parts laid into them -/
theorem flat_get {α : Type} (l : List α) (n i : Nat) (h : i < n * l.length) : (List.replicate n l).flatten[i]? = l[i % l.length]? := by
  induction n generalizing i with
  | zero => simp at h
  | succ n ih =>
    rw [List.replicate_succ, List.flatten_cons, List.getElem?_append]
    by_cases hi : i < l.length
    · rw [if_pos hi, Nat.mod_eq_of_lt hi]
    · rw [if_neg hi, ih (i - l.length) (by rw [Nat.add_mul] at h; omega)]
      congr 1
      exact (Nat.mod_eq_sub_mod (by omega)).symm

theorem zeros_flat (z : Array Value) (n : Nat) (hz : 0 < z.size) : ((Array.range (n * z.size)).map fun x => z[x % z.size]!).toList = (List.replicate n z.toList).flatten := by
  apply List.ext_getElem?
  intro i
  by_cases hi : i < n * z.size
  · rw [flat_get z.toList n i (by simpa using hi)]
    have hm : i % z.size < z.size := Nat.mod_lt _ hz
    simp [hi, getElem!_pos, hm]
  · have hl : ((List.replicate n z.toList).flatten).length = n * z.size := by simp
    rw [List.getElem?_eq_none (by simp; omega), List.getElem?_eq_none (by rw [hl]; omega)]

theorem foldl_splice (off : Nat) : ∀ (vs : List Value) (k : Nat) (cells : List Value), off + k + vs.length ≤ cells.length →
    ((vs.zipIdx k).foldl (fun (cs : Array Value) (p : Value × Nat) => cs.setIfInBounds (off + p.2) p.1) cells.toArray).toList = splice cells (off + k) vs := by
  intro vs
  induction vs with
  | nil => intro k cells _; simp [splice]
  | cons v vs ih =>
    intro k cells h
    simp only [List.length_cons] at h
    rw [List.zipIdx_cons, List.foldl_cons]
    have e : (cells.toArray.setIfInBounds (off + k) v) = (cells.set (off + k) v).toArray := by simp
    rw [e, ih (k + 1) _ (by simp; omega)]
    unfold splice
    have e2 := list_seg_step cells (off + k) v vs (by omega)
    simp only [List.length_cons]
    rw [show off + (k + 1) = off + k + 1 from by omega]
    exact e2

theorem fill_one (cells vs : List Value) (off : Nat) (h : off + vs.length ≤ cells.length) :
    (vs.toArray.zipIdx.foldl (fun (cs : Array Value) (p : Value × Nat) => cs.setIfInBounds (off + p.2) p.1) cells.toArray) = (splice cells off vs).toArray := by
  have e := foldl_splice off vs 0 cells (by omega)
  apply Array.ext'
  simp only [Nat.add_zero] at e
  rw [← e, ← Array.foldl_toList, Array.toList_zipIdx]

theorem fill_rel (pl : Nat → Option (Nat × Nat)) : ∀ {parts : List (Nat × Value)} {parts' : List (Nat × Value)} {cells cells' out : List Value}, pFill pl cells parts = some out → LRel P ρ cells cells' →
    (parts.length = parts'.length ∧ ∀ (i : Nat) p p', parts[i]? = some p → parts'[i]? = some p' → p.1 = p'.1 ∧ VRel P ρ p.2 p'.2) → ∃ out', Instr.fill pl cells'.toArray parts' = some out'.toArray ∧ LRel P ρ out out' := by
  intro parts
  induction parts with
  | nil =>
    intro parts' cells cells' out h hl hp
    cases parts' with
    | cons => simp at hp
    | nil => simp only [pFill] at h; cases h; exact ⟨cells', by simp [Instr.fill], hl⟩
  | cons p parts ih =>
    intro parts' cells cells' out h hl hp
    cases parts' with
    | nil => simp at hp
    | cons p' parts' =>
      obtain ⟨i, v⟩ := p
      obtain ⟨i', v'⟩ := p'
      obtain ⟨hi, hv⟩ := hp.2 0 (i, v) (i', v') (by simp) (by simp)
      simp only at hi hv
      subst hi
      simp only [pFill] at h
      have h2 := Option.bind_eq_some_iff.1 h
      clear h
      obtain ⟨⟨off, size⟩, hpl, h⟩ := h2
      simp only at h
      split at h
      · rename_i hc
        have hvc := hv.cells
        have hsz : v'.cells.size = size := by have := hvc.1; simp at this; omega
        have hcl : cells'.length = cells.length := hl.1.symm
        obtain ⟨out', ho, hr⟩ := ih h (hl.splice hvc off) ⟨by simpa using hp.1, fun j q q' hq hq' => hp.2 (j + 1) q q' (by simpa using hq) (by simpa using hq')⟩
        refine ⟨out', ?_, hr⟩
        simp only [Instr.fill, hpl]
        have hcond : (v'.cells.size ≠ size || off + v'.cells.size > cells'.toArray.size) = false := by
          simp [hsz]; omega
        have hf := fill_one cells' v'.cells.toList off (by simp [hsz]; omega)
        simp only [Array.toArray_toList] at hf
        rw [hf, if_neg (by simpa using hcond)]
        exact ho
      · cases h

theorem parts_rel {ev ev' : Operand → Value} (ps : Array (Nat × Operand)) (hx : ∀ x ∈ ps.toList.map (·.2), VRel P ρ (ev x) (ev' x)) :
    (ps.toList.map fun p => (p.1, ev p.2)).length = ((ps.map fun (i, x) => (i, ev' x)).toList).length ∧
    ∀ (i : Nat) p p', (ps.toList.map fun p => (p.1, ev p.2))[i]? = some p → ((ps.map fun (i, x) => (i, ev' x)).toList)[i]? = some p' → p.1 = p'.1 ∧ VRel P ρ p.2 p'.2 := by
  refine ⟨by simp, fun i p p' hp hp' => ?_⟩
  simp only [List.getElem?_map, Option.map_eq_some_iff, Array.toList_map] at hp hp'
  obtain ⟨q, hq, rfl⟩ := hp
  obtain ⟨q', hq', rfl⟩ := hp'
  rw [hq] at hq'
  cases hq'
  exact ⟨rfl, hx _ (List.mem_map.2 ⟨q, List.mem_of_getElem? hq, rfl⟩)⟩

theorem places_run {fs : List Field} {ps : List (Nat × Nat)} (h : placesOf P fs = some ps) (w : World) : (fs.mapM (m := Sem) fun f => do pure (f.offset, ← sizeOf f.type)).run P w = .ok ps w := by
  induction fs generalizing ps with
  | nil => simp [placesOf] at h; subst h; simp
  | cons f fs ih =>
    unfold placesOf at h ih
    rw [List.mapM_cons] at h
    simp only [Option.bind_eq_bind, Option.bind_eq_some_iff, Option.pure_def, Option.some.injEq] at h
    obtain ⟨p, hp, qs, hq, rfl⟩ := h
    obtain ⟨n, hn, rfl⟩ := Option.map_eq_some_iff.1 hp
    have hi := ih hq
    rw [List.mapM_cons]
    simp only [Sem.run_bind, szOf_run hn, Result.andThen_ok, Sem.run_pure, hi]

theorem places_run' {fs : Array Field} {ps : List (Nat × Nat)} (h : placesOf P fs.toList = some ps) (w : World) : (fs.mapM (m := Sem) fun f => do pure (f.offset, ← sizeOf f.type)).run P w = .ok ps.toArray w := by
  rw [Array.mapM_eq_mapM_toList]
  simp only [Sem.run_map, places_run h, Result.andThen_ok]

theorem build_out {t : TypeId} {parts : Array (Nat × Operand)} {ev ev' : Operand → Value} (hx : ∀ x ∈ parts.toList.map (·.2), VRel P ρ (ev x) (ev' x)) {z : Value} (hz : zeroOf P t = some z) {fs : Array Field} (hu : P.underlying t = some (.struct fs))
    {ps : List (Nat × Nat)} (hps : placesOf P fs.toList = some ps) {cs : List Value} (h : pFill (ps[·]?) z.cells.toList (parts.toList.map fun p => (p.1, ev p.2)) = some cs) :
    ∃ v', (Instr.build t (parts.map fun (i, x) => (i, ev' x))).run P w = .ok v' w ∧ VRel P ρ (.agg cs.toArray) v' := by
  obtain ⟨i, hi, hzi, hlit, _⟩ := zeroOf_info hz
  obtain ⟨out', ho, hr⟩ := fill_rel _ h (LRel.of_all hlit) (parts_rel parts hx)
  refine ⟨.agg out'.toArray, ?_, hr.toAgg⟩
  have hpr := places_run' hps w
  have e : (fun i : Nat => ps.toArray[i]?) = (fun i : Nat => ps[i]?) := by funext i; simp
  simp only [Instr.build, Sem.run_bind, zeroOf_run hz, Result.andThen_ok, run_underlying hu, hpr]
  rw [e]
  simp only [Array.toArray_toList] at ho
  rw [ho]
  rfl

theorem buildArr_out {t el : TypeId} {n : Nat} {parts : Array (Nat × Operand)} {ev ev' : Operand → Value} (hx : ∀ x ∈ parts.toList.map (·.2), VRel P ρ (ev x) (ev' x)) {z : Value} (hz : zeroOf P t = some z) (hu : P.underlying t = some (.array n el))
    {e : Nat} (he : szOf P el = some e) {cs : List Value} (h : pFill (fun i => some (i * e, e)) z.cells.toList (parts.toList.map fun p => (p.1, ev p.2)) = some cs) :
    ∃ v', (Instr.build t (parts.map fun (i, x) => (i, ev' x))).run P w = .ok v' w ∧ VRel P ρ (.agg cs.toArray) v' := by
  obtain ⟨i, hi, hzi, hlit, _⟩ := zeroOf_info hz
  obtain ⟨out', ho, hr⟩ := fill_rel _ h (LRel.of_all hlit) (parts_rel parts hx)
  refine ⟨.agg out'.toArray, ?_, hr.toAgg⟩
  simp only [Instr.build, Sem.run_bind, zeroOf_run hz, Result.andThen_ok, run_underlying hu, szOf_run he]
  simp only [Array.toArray_toList] at ho
  rw [ho]
  rfl

theorem lit_flat {z : List Value} (h : z.all litV = true) (n : Nat) : LRel P ρ (List.replicate n z).flatten (List.replicate n z).flatten := by
  apply LRel.of_all
  rw [List.all_eq_true] at h ⊢
  intro x hx
  rw [List.mem_flatten] at hx
  obtain ⟨l, hl, hxl⟩ := hx
  rw [(List.mem_replicate.1 hl).2] at hxl
  exact h x hxl

theorem buildSlice_out (hR : Rel P w0 B ρ H w) {t el : TypeId} {len : Nat} {parts : Array (Nat × Operand)} {ev ev' : Operand → Value} (hx : ∀ x ∈ parts.toList.map (·.2), VRel P ρ (ev x) (ev' x)) {z : Value} (hz : zeroOf P el = some z)
    (hu : P.underlying t = some (.slice el)) {e : Nat} (he : szOf P el = some e) (h0 : 0 < e) (hze : z.cells.size = e) (hbig : len * e ≤ 2 ^ 24) {cs : List Value}
    (h : pFill (fun i => some (i * e, e)) (List.replicate len z.cells.toList).flatten (parts.toList.map fun p => (p.1, ev p.2)) = some cs) :
    ∃ v' w' ρ', (Instr.buildSlice t len (parts.map fun (i, x) => (i, ev' x))).run P w = .ok v' w' ∧ VRel P ρ' (.slice (some ⟨H.size, 0, none⟩) len e) v' ∧ Ext ρ H w ρ' (H.push (.cells false cs)) w' ∧ Rel P w0 B ρ' (H.push (.cells false cs)) w' := by
  obtain ⟨i, hi, hzi, hlit, _⟩ := zeroOf_info hz
  obtain ⟨out', ho, hr⟩ := fill_rel _ h (lit_flat hlit len) (parts_rel parts hx)
  have hzf := zeros_flat z.cells len (by omega)
  rw [hze] at hzf
  have hza : ((Array.range (len * e)).map fun x => z.cells[x % e]!) = ((List.replicate len z.cells.toList).flatten).toArray := by rw [← hzf]
  have hpush := pushCells (el := el) hR hr
  have hlo : out'.length = len * e := by
    have hfl : ∀ {parts : List (Nat × Value)} {cells out : List Value}, pFill (fun i => some (i * e, e)) cells parts = some out → out.length = cells.length := by
      intro parts
      induction parts with
      | nil => intro cells out h; simp [pFill] at h; rw [h]
      | cons p parts ih =>
        intro cells out h
        obtain ⟨i, v⟩ := p
        simp only [pFill, Option.bind_some] at h
        split at h
        · rename_i hc
          rw [ih h, splice_length]
          simp; omega
        · cases h
    rw [← hr.1, hfl h]
    simp [hze]
  refine ⟨_, _, _, ?_, .slice (d := 0) (o := 0) (sz := out'.length) (Ren.upd_same ..) (by rw [hlo]; omega) (Nat.le_refl len) h0, hpush.2, hpush.1⟩
  have hnb : ¬ (len * e > 2 ^ 24) := by omega
  by_cases hl0 : len = 0
  · subst hl0
    rw [Nat.zero_mul] at hnb
    have hr0 : (Array.range 0) = (#[] : Array Nat) := rfl
    have ho0 : (List.replicate 0 z.cells.toList).flatten.toArray = (#[] : Array Value) := rfl
    rw [ho0] at ho
    simp only [Instr.buildSlice, Sem.run_bind, run_underlying hu, Result.andThen_ok, szOf_run he, Sem.run_ite, Nat.zero_mul, hnb, if_false, Sem.run_pure, if_true, hr0, Array.map_empty, ho, newRow, run_newObj, Nat.zero_add]
    rfl
  have hne : ¬ (len * e = 0) := by
    intro h
    rcases Nat.mul_eq_zero.1 h with h | h <;> omega
  simp only [Instr.buildSlice, Sem.run_bind, run_underlying hu, Result.andThen_ok, szOf_run he, Sem.run_ite, hnb, if_false, Sem.run_pure, hne, zeroOf_run hz, hze, hza, ho, newRow, run_newObj, Nat.zero_add]
  rfl

theorem make_out (hR : Rel P w0 B ρ H w) {t el : TypeId} {l c v : Value} {H' : AH} {z : Value} {e by' : Nat} (hz : zeroOf P el = some z) (hu : P.underlying t = some (.slice el)) (he : szOf P el = some e) (hb : bytesOf' P el = some by')
    (h : pMake z.cells.toList e by' l c H = some (v, H')) {l' c' : Value} (hl : VRel P ρ l l') (hc : VRel P ρ c c') :
    ∃ v' w' ρ', (Instr.makeSlice t l' c').run P w = .ok v' w' ∧ VRel P ρ' v v' ∧ Ext ρ H w ρ' H' w' ∧ Rel P w0 B ρ' H' w' := by
  cases l <;> simp only [pMake] at h <;> try (cases h; done)
  cases c <;> simp only at h <;> try (cases h; done)
  rename_i k1 l k2 c
  split at h
  · rename_i hcond
    obtain ⟨h0, rfl, hbig, hroom, hpos, hzl⟩ := hcond
    cases h
    rw [hl.int_inv, hc.int_inv]
    obtain ⟨i, hi, hzi, hlit, _⟩ := zeroOf_info hz
    have hie : i.size = e := by
      obtain ⟨i2, hi2, h2⟩ := szOf_info he
      rw [hi] at hi2; cases hi2; exact h2
    have hib : i.bytes = by' := by
      unfold bytesOf' at hb; simpa [hi] using hb
    unfold room at hbig hroom
    have hln : l = (l.toNat : Int) := by omega
    have hbytes : (i.bytes : Int) * l ≤ 281474976710656 := by
      rw [hib, hln, ← Int.natCast_mul]
      have : by' * l.toNat ≤ 140737488355328 := by rw [Nat.mul_comm]; exact hbig
      omega
    have hrun := run_make (P := P) w t el i z hu hi hzi k1 k2 l l h0 (Int.le_refl _) hbytes (by omega)
    have hzs : z.cells.size = e := by simpa using hzl
    have hm : madeCells z.cells (l.toNat * i.size) = ((List.replicate l.toNat z.cells.toList).flatten).toArray := by
      have hzf := zeros_flat z.cells l.toNat (by omega)
      rw [hzs] at hzf
      unfold madeCells
      rw [hie, ← hzf, hzs]
    rw [hm] at hrun
    have hpush := pushCells (el := el) hR (lit_flat (P := P) (ρ := ρ) hlit l.toNat)
    exact ⟨_, _, _, hrun, .slice (d := 0) (o := 0) (Ren.upd_same ..) (by simp [hzs]) (Nat.le_refl _) hpos, hpush.2, hpush.1⟩
  · cases h
end
end Go.Proofs.YtbjelopcelompaaGreatDoor.Gst
