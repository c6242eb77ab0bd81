/- Maps are read and written; then every operation. -/
import Derived.Test.YtbjelopcelompaaGreatDoorGi
namespace Go.Proofs.YtbjelopcelompaaGreatDoor.Gst
open Go Go.RowKit
set_option linter.unusedSimpArgs false
section
variable {P : Program} {w0 : World} {B : Nat} {ρ : Ren} {H : AH} {w : World}

theorem run_getObj_map {r : Nat} {es : Array MapEntry} {c : Nat} (h : w.heap[r]? = some (.map es c)) : (getObj r).run P w = .ok (.map es c) w := by
  simp [getObj, Sem.run, h]
theorem run_setObj_map {r : Nat} {es es2 : Array MapEntry} {c c2 : Nat} (h : w.heap[r]? = some (.map es c)) : (setObj r (.map es2 c2)).run P w = .ok () { w with heap := w.heap.setIfInBounds r (.map es2 c2) } := by
  simp [setObj, Sem.run, h]

theorem Rel.map (hR : Rel P w0 B ρ H w) {b c d sz : Nat} {es : List MapEntry} {cl : Nat} (hb : ρ b = some (c, d, sz)) (ho : H.get b = some (.map es cl)) :
    ∃ es' : Array MapEntry, w.heap[c]? = some (.map es' cl) ∧ EsRel P ρ es es'.toList := by
  obtain ⟨es', h1, h2, h3⟩ := hR.obj b c d sz _ hb ho
  exact ⟨es', h1, by simpa using h2, fun i e e' he he' => h3 i e e' he (by simpa using he')⟩

theorem mapTypes_some {t k e : TypeId} (h : mapTypes P t = some (k, e)) : P.underlying t = some (.map k e) := by
  unfold mapTypes at h
  cases hu : P.underlying t with
  | none => simp [hu] at h
  | some d => cases d <;> simp [hu] at h; obtain ⟨rfl, rfl⟩ := h; rfl

theorem mapOf_run (hR : Rel P w0 B ρ H w) {m m' : Value} {es : List MapEntry} {c : Nat} (h : pMapOf m H = some (es, c)) (hm : VRel P ρ m m') :
    (m' = .map none ∧ es = []) ∨ ∃ r es', m' = .map (some r) ∧ w.heap[r]? = some (.map es' c) ∧ EsRel P ρ es es'.toList := by
  cases m <;> simp only [pMapOf] at h <;> try (cases h; done)
  rename_i r
  cases r with
  | none => simp only at h; cases h; exact .inl ⟨hm.nilmap_inv, rfl⟩
  | some b =>
    simp only at h
    split at h
    · rename_i es1 c1 hg
      cases h
      obtain ⟨c', d, sz, hb, rfl⟩ := hm.map_inv
      obtain ⟨es', h1, h2⟩ := hR.map hb hg
      exact .inr ⟨c', es', rfl, h1, h2⟩
    · cases h

theorem zero_vrel {t : TypeId} {z : Value} (h : zeroOf P t = some z) : VRel P ρ z z := by
  obtain ⟨_, _, _, _, hc⟩ := zeroOf_info h
  exact VRel.const hc

theorem pair_rel {v v' : Value} (h : VRel P ρ v v') (b : Bool) : VRel P ρ (.tuple #[v, .bool b]) (.tuple #[v', .bool b]) :=
  LRel.toTuple (xs := [v, .bool b]) (ys := [v', .bool b]) (LRel.cons h (LRel.cons (.lit rfl) LRel.nil))

theorem lookup_out (hR : Rel P w0 B ρ H w) {t kt et : TypeId} (ht : mapTypes P t = some (kt, et)) {cl : KCls} (hcl : flatKey P kt = some cl) {z : Value} (hz : zeroOf P et = some z) {m m' k k' v : Value} {ok : Bool}
    (h : pLookup cl z m k ok H = some v) (hm : VRel P ρ m m') (hk : VRel P ρ k k') : ∃ v', (Instr.lookup t m' k' ok).run P w = .ok v' w ∧ VRel P ρ v v' := by
  unfold pLookup at h
  split at h
  · rename_i hok
    have h2 := Option.bind_eq_some_iff.1 h
    clear h
    obtain ⟨⟨es, c⟩, hes, h⟩ := h2
    obtain ⟨r, hr, h⟩ := Option.map_eq_some_iff.1 h
    simp only at hr
    rw [keyOK_rel hok hk]
    have hu := mapTypes_some ht
    have fin : ∀ (es' : List MapEntry) (emp : Bool), EsRel P ρ es es' → ∃ v', (do
          Instr.checkKey emp 10000 kt k
          let (v, ok2) ← match ← Instr.findKey kt k es' with
            | some (_, v) => pure (v, true)
            | none => pure (← zeroValue et, false)
          pure (if ok then .tuple #[v, .bool ok2] else v) : Sem Value).run P w = .ok v' w ∧ VRel P ρ v v' := by
      intro es' emp hrel
      obtain ⟨r', h1, h2⟩ := find_run (w := w) hcl hok hr hrel
      simp only [Sem.run_bind, check_run hcl hok, Result.andThen_ok, h1]
      cases r with
      | none =>
        cases r' with
        | some x => obtain ⟨i, x⟩ := x; simp [FoundRel] at h2
        | none =>
          subst h
          simp only [Sem.run_bind, zeroOf_run hz, Result.andThen_ok, Sem.run_pure]
          cases ok
          · exact ⟨_, rfl, zero_vrel hz⟩
          · exact ⟨_, rfl, pair_rel (zero_vrel hz) false⟩
      | some x =>
        obtain ⟨i, x⟩ := x
        cases r' with
        | none => simp [FoundRel] at h2
        | some y =>
          obtain ⟨i', y⟩ := y
          subst h
          simp only [Sem.run_pure, Result.andThen_ok]
          cases ok
          · exact ⟨_, rfl, h2.2⟩
          · exact ⟨_, rfl, pair_rel h2.2 true⟩
    rcases mapOf_run hR hes hm with ⟨rfl, rfl⟩ | ⟨r1, es', rfl, hw, hrel⟩
    · obtain ⟨v', h1, h2⟩ := fin [] true ⟨rfl, fun _ _ _ h => by simp at h⟩
      refine ⟨v', ?_, h2⟩
      simp only [Instr.lookup, Sem.run_bind, run_underlying hu, Result.andThen_ok, Sem.run_pure] at h1 ⊢
      exact h1
    · obtain ⟨v', h1, h2⟩ := fin es'.toList es'.isEmpty hrel
      refine ⟨v', ?_, h2⟩
      simp only [Instr.lookup, Sem.run_bind, run_underlying hu, Result.andThen_ok, run_getObj_map hw, Sem.run_pure] at h1 ⊢
      exact h1
  · cases h

theorem found_key {cl : KCls} {k : Value} : ∀ {es : List MapEntry} {j i : Nat} {v : Value}, findKey' cl k es j = some (some (i, v)) → j ≤ i ∧ ∃ e, es[i - j]? = some e ∧ e.key = k := by
  intro es
  induction es with
  | nil => intro j i v h; simp [findKey'] at h
  | cons e es ih =>
    intro j i v h
    simp only [findKey'] at h
    have h2 := Option.bind_eq_some_iff.1 h
    clear h
    obtain ⟨b, hb, h⟩ := h2
    cases b with
    | true =>
      simp only [if_true] at h
      cases h
      have he : k = e.key := by
        have hlit : VRel (default : Program) (fun _ => none) e.key e.key ∨ True := .inr trivial
        cases cl <;> cases hk : k <;> cases hek : e.key <;> rw [hk, hek] at hb <;> simp only [keyEq] at hb <;> try (cases hb; done)
        · split at hb
          · rename_i hkk
            subst hkk
            have := Option.some.inj hb
            simp at this
            rw [this]
          · cases hb
        · rw [beq_bytes (Option.some.inj hb)]
        · split at hb
          · rw [Array.toList_inj.1 (eqCells_eq hb)]
          · cases hb
      exact ⟨Nat.le_refl _, e, by simp, he.symm⟩
    | false =>
      simp only [Bool.false_eq_true, if_false] at h
      obtain ⟨h1, e1, h2, h3⟩ := ih h
      refine ⟨by omega, e1, ?_, h3⟩
      have : i - j = (i - (j + 1)) + 1 := by omega
      rw [this]
      simpa using h2

theorem sameBits_self {cl : KCls} {k : Value} (hok : keyOK cl k = true) : Instr.sameBits 10000 k k = true := by
  cases cl <;> cases k <;> simp only [keyOK] at hok <;> try (cases hok; done)
  · simp [Instr.sameBits]
  · simp [Instr.sameBits, beq_toListBytes]
  · rename_i n xs
    simp only [Bool.and_eq_true, beq_iff_eq] at hok
    have key : ∀ (d : Nat) (l : List Value), l.all isIntV = true → (l.zip l).all (fun (x, y) => Instr.sameBits d x y) = true := by
      intro d l
      induction l with
      | nil => intro _; rfl
      | cons x l ih =>
        intro h
        simp only [List.all_cons, Bool.and_eq_true] at h
        simp only [List.zip_cons_cons, List.all_cons, ih h.2, Bool.and_true]
        cases x <;> simp [isIntV] at h
        cases d <;> simp [Instr.sameBits]
    have : Instr.sameBits (9999 + 1) (.agg xs) (.agg xs) = true := by
      rw [Instr.sameBits]
      simp [key 9999 xs.toList hok.2]
    exact this

/-- A map is written. -/
theorem setMap (hR : Rel P w0 B ρ H w) {b c d sz : Nat} {es es2 : List MapEntry} {cl cl2 : Nat} (hb : ρ b = some (c, d, sz)) (ho : H.get b = some (.map es cl)) {es2' : Array MapEntry} (hrel : EsRel P ρ es2 es2'.toList) :
    Rel P w0 B ρ (H.set b (.map es2 cl2)) { w with heap := w.heap.setIfInBounds c (.map es2' cl2) } ∧ Ext ρ H w ρ (H.set b (.map es2 cl2)) { w with heap := w.heap.setIfInBounds c (.map es2' cl2) } := by
  have hc := hR.blk b c d sz hb
  refine hR.setBlock (o' := .map es2 cl2) hb ho rfl rfl rfl rfl rfl (by simp) (fun k hk => ?_) ?_
  · simp only [Array.getElem?_setIfInBounds]
    rw [if_neg (by omega)]
  · refine ⟨es2', ?_, by simpa using hrel.1, fun i e e' he he' => hrel.2 i e e' he (by simpa using he')⟩
    simp [hc]

theorem EsRel.push {es es' : List MapEntry} (h : EsRel P ρ es es') {e e' : MapEntry} (he : ERel P ρ e e') : EsRel P ρ (es ++ [e]) (es' ++ [e']) := by
  refine ⟨by simp [h.1], fun i a a' ha ha' => ?_⟩
  rw [List.getElem?_append] at ha ha'
  by_cases hi : i < es.length
  · rw [if_pos hi] at ha; rw [if_pos (by rw [h.1]; exact hi)] at ha'; exact h.2 i a a' ha ha'
  · rw [if_neg hi] at ha; rw [if_neg (by rw [h.1]; exact hi), h.1] at ha'
    have e0 : i - es.length = 0 := by
      have := (List.getElem?_eq_some_iff.1 ha).1
      simp at this; omega
    rw [e0] at ha ha'
    cases ha; cases ha'
    exact he
theorem EsRel.modify {es es' : List MapEntry} (h : EsRel P ρ es es') (i : Nat) {f f' : MapEntry → MapEntry} (hf : ∀ e e', ERel P ρ e e' → ERel P ρ (f e) (f' e')) : EsRel P ρ (es.modify i f) (es'.modify i f') := by
  refine ⟨by simp [h.1], fun j a a' ha ha' => ?_⟩
  rw [List.getElem?_modify] at ha ha'
  obtain ⟨e, he, rfl⟩ := Option.map_eq_some_iff.1 ha
  obtain ⟨e', he', rfl⟩ := Option.map_eq_some_iff.1 ha'
  have := h.2 j e e' he he'
  split
  · exact hf _ _ this
  · exact this
theorem EsRel.erase {es es' : List MapEntry} (h : EsRel P ρ es es') (i : Nat) : EsRel P ρ (es.eraseIdx i) (es'.eraseIdx i) := by
  refine ⟨by simp [List.length_eraseIdx, h.1], fun j a a' ha ha' => ?_⟩
  rw [List.getElem?_eraseIdx] at ha ha'
  split at ha <;> rename_i hj
  · rw [if_pos hj] at ha'; exact h.2 j a a' ha ha'
  · rw [if_neg hj] at ha'; exact h.2 _ a a' ha ha'

theorem update_out (hR : Rel P w0 B ρ H w) {t kt et : TypeId} (ht : mapTypes P t = some (kt, et)) {cl : KCls} (hcl : flatKey P kt = some cl) {m m' k k' x x' : Value} {H' : AH}
    (h : pUpdate cl m k x H = some H') (hm : VRel P ρ m m') (hk : VRel P ρ k k') (hx : VRel P ρ x x') : ∃ w', (Instr.mapUpdate t m' k' x').run P w = .ok () w' ∧ Ext ρ H w ρ H' w' ∧ Rel P w0 B ρ H' w' := by
  unfold pUpdate at h
  split at h
  · rename_i hok
    have hkk := keyOK_rel hok hk
    subst hkk
    have hu := mapTypes_some ht
    cases m <;> try (cases h; done)
    rename_i r0
    cases r0 with
    | none => simp at h
    | some b =>
    simp only at h
    split at h
    · rename_i es c hg
      obtain ⟨r, hr, h⟩ := Option.map_eq_some_iff.1 h
      obtain ⟨cb, d, sz, hb, rfl⟩ := hm.map_inv
      obtain ⟨es', hw, hrel⟩ := hR.map hb hg
      obtain ⟨r', h1, h2⟩ := find_run (w := w) hcl hok hr hrel
      simp only [Instr.mapUpdate, Sem.run_bind, run_underlying hu, Result.andThen_ok, run_getObj_map hw, check_run hcl hok, h1]
      cases r with
      | none =>
        cases r' with
        | some x => obtain ⟨i, x⟩ := x; simp [FoundRel] at h2
        | none =>
          subst h
          have hs := setMap (cl2 := c + 1) hR hb hg (es2 := es ++ [{ key := k', val := x, born := c }]) (es2' := es'.push { key := k', val := x', born := c }) (by simpa using hrel.push (e := { key := k', val := x, born := c }) (e' := { key := k', val := x', born := c }) ⟨hk, hx, rfl⟩)
          exact ⟨_, run_setObj_map hw, hs.2, hs.1⟩
      | some y =>
        obtain ⟨i, y⟩ := y
        cases r' with
        | none => simp [FoundRel] at h2
        | some y' =>
          obtain ⟨i', y'⟩ := y'
          obtain ⟨rfl, hy⟩ := h2
          subst h
          obtain ⟨_, e, he, hek⟩ := found_key hr
          simp only [Nat.sub_zero] at he
          have hi : i < es.length := (List.getElem?_eq_some_iff.1 he).1
          have hi' : i < es'.toList.length := by rw [hrel.1]; exact hi
          have hrele := hrel.2 i e es'.toList[i] he (List.getElem?_eq_getElem hi')
          have hold : (((es'[i]?).map (·.key)).getD k') = k' := by
            have hkey := hrele.1
            rw [hek] at hkey
            have := keyOK_rel hok hkey
            have hi2 : i < es'.size := by simpa using hi'
            simp only [Array.getElem_toList] at this
            simp [hi2, this]
          have hstay : (Instr.keyThatStays (((es'[i]?).map (·.key)).getD k') k').run P w = .ok k' w := by
            rw [hold]
            simp [Instr.keyThatStays, sameBits_self hok]
          simp only [Sem.run_bind, hstay, Result.andThen_ok]
          have hs := setMap (cl2 := c) hR hb hg (es2 := es.modify i fun e => { e with key := k', val := x }) (es2' := es'.modify i fun e => { e with key := k', val := x' }) (by
            have := hrel.modify i (f := fun e => { e with key := k', val := x }) (f' := fun e => { e with key := k', val := x' }) (fun e e' h => ⟨hk, hx, h.2.2⟩)
            simpa [Array.toList_modify] using this)
          exact ⟨_, run_setObj_map hw, hs.2, hs.1⟩
    · cases h
  · cases h

theorem delete_out (hR : Rel P w0 B ρ H w) {t ty kt et : TypeId} (ht : mapTypes P t = some (kt, et)) {cl : KCls} (hcl : flatKey P kt = some cl) {m m' k k' : Value} {H' : AH} {ts : Array TypeId} (hts : ts[0]? = some t)
    (h : pDelete cl m k H = some H') (hm : VRel P ρ m m') (hk : VRel P ρ k k') : ∃ w', (Builtin.delete_ ts ty #[m', k']).run P w = .ok (.tuple #[]) w' ∧ Ext ρ H w ρ H' w' ∧ Rel P w0 B ρ H' w' := by
  unfold pDelete at h
  split at h
  · rename_i hok
    have hkk := keyOK_rel hok hk
    subst hkk
    have hu := mapTypes_some ht
    cases m <;> try (cases h; done)
    rename_i r0
    cases r0 with
    | none => simp at h
    | some b =>
    simp only at h
    split at h
    · rename_i es c hg
      obtain ⟨r, hr, h⟩ := Option.map_eq_some_iff.1 h
      obtain ⟨cb, d, sz, hb, rfl⟩ := hm.map_inv
      obtain ⟨es', hw, hrel⟩ := hR.map hb hg
      obtain ⟨r', h1, h2⟩ := find_run (w := w) hcl hok hr hrel
      have pre : ∀ {w' : World}, (match r' with
          | some (i, _) => setObj cb (.map (es'.eraseIdxIfInBounds i) c)
          | none => setObj cb (.map es' c) : Sem Unit).run P w = .ok () w' → (Builtin.delete_ ts ty #[.map (some cb), k']).run P w = .ok (.tuple #[]) w' := by
        intro w' hrun
        cases r' with
        | none => simp [Builtin.delete_, hts, run_underlying hu, run_getObj_map hw, check_run hcl hok, h1, hrun]
        | some x => obtain ⟨i, x⟩ := x; simp [Builtin.delete_, hts, run_underlying hu, run_getObj_map hw, check_run hcl hok, h1, hrun]
      cases r with
      | none =>
        cases r' with
        | some x => obtain ⟨i, x⟩ := x; simp [FoundRel] at h2
        | none =>
          subst h
          have hs := setMap (cl2 := c) hR hb hg (es2 := es) (es2' := es') hrel
          exact ⟨_, pre (run_setObj_map hw), hs.2, hs.1⟩
      | some y =>
        obtain ⟨i, y⟩ := y
        cases r' with
        | none => simp [FoundRel] at h2
        | some y' =>
          obtain ⟨i', y'⟩ := y'
          obtain ⟨rfl, hy⟩ := h2
          subst h
          have hs := setMap (cl2 := c) hR hb hg (es2 := es.eraseIdx i) (es2' := es'.eraseIdxIfInBounds i) (by
            have hi : i < es'.size := by
              obtain ⟨_, e, he, _⟩ := found_key hr
              have := (List.getElem?_eq_some_iff.1 he).1
              have := hrel.1
              simp at this; omega
            have := hrel.erase i
            simpa [Array.eraseIdxIfInBounds, hi] using this)
          exact ⟨_, pre (run_setObj_map hw), hs.2, hs.1⟩
    · cases h
  · cases h
end
end Go.Proofs.YtbjelopcelompaaGreatDoor.Gst
