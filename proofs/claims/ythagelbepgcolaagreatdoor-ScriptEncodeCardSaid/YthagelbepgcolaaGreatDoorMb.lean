/- Regions: what a run does in them, in whatever order. -/
import Derived.Test.YthagelbepgcolaaGreatDoorMa
import Derived.Tactics
namespace Go.Proofs.YthagelbepgcolaaGreatDoor.Gst
open Go Go.RowKit
set_option linter.unusedSimpArgs false
section
variable {P : Program} {w0 : World} {B : Nat} {ρ : Ren} {H : AH} {w : World}

theorem run_getObj_map {r : Nat} {es : Array MapEntry} {c : Nat} (h : w.heap[r]? = some (.map es c)) : (getObj r).run P w = .ok (.map es c) w := by
  simp [getObj, Sem.run, h]
theorem run_setObj_map {r : Nat} {es es2 : Array MapEntry} {c c2 : Nat} (h : w.heap[r]? = some (.map es c)) : (setObj r (.map es2 c2)).run P w = .ok () { w with heap := w.heap.setIfInBounds r (.map es2 c2) } := by
  simp [setObj, Sem.run, h]

theorem Rel.map (hR : Rel P w0 B ρ H w) {b c d sz : Nat} {es : List MapEntry} {cl : Nat} (hb : ρ b = some (c, d, sz)) (ho : H.get b = some (.map es cl)) :
    ∃ es' : Array MapEntry, w.heap[c]? = some (.map es' cl) ∧ EsRel P ρ es es'.toList := by
  obtain ⟨es', h1, h2, h3⟩ := hR.obj b c d sz _ hb ho
  exact ⟨es', h1, by simpa using h2, fun i e e' he he' => h3 i e e' he (by simpa using he')⟩

theorem mapTypes_some {t k e : TypeId} (h : mapTypes P t = some (k, e)) : P.underlying t = some (.map k e) := by
  unfold mapTypes at h
  cases hu : P.underlying t with
  | none => simp [hu] at h
  | some d => cases d <;> simp [hu] at h; obtain ⟨rfl, rfl⟩ := h; rfl

theorem mapOf_run (hR : Rel P w0 B ρ H w) {m m' : Value} {es : List MapEntry} {c : Nat} (h : pMapOf m H = some (es, c)) (hm : VRel P ρ m m') :
    (m' = .map none ∧ es = []) ∨ ∃ r es', m' = .map (some r) ∧ w.heap[r]? = some (.map es' c) ∧ EsRel P ρ es es'.toList := by
  cases m <;> simp only [pMapOf] at h <;> try (cases h; done)
  rename_i r
  cases r with
  | none => simp only at h; cases h; exact .inl ⟨hm.nilmap_inv, rfl⟩
  | some b =>
    simp only at h
    split at h
    · rename_i es1 c1 hg
      cases h
      obtain ⟨c', d, sz, hb, rfl⟩ := hm.map_inv
      obtain ⟨es', h1, h2⟩ := hR.map hb hg
      exact .inr ⟨c', es', rfl, h1, h2⟩
    · cases h

theorem zero_vrel {t : TypeId} {z : Value} (h : zeroOf P t = some z) : VRel P ρ z z := by
  obtain ⟨_, _, _, _, hc⟩ := zeroOf_info h
  exact VRel.const hc

theorem pair_rel {v v' : Value} (h : VRel P ρ v v') (b : Bool) : VRel P ρ (.tuple #[v, .bool b]) (.tuple #[v', .bool b]) :=
  LRel.toTuple (xs := [v, .bool b]) (ys := [v', .bool b]) (LRel.cons h (LRel.cons (.lit rfl) LRel.nil))

theorem lookup_out (hR : Rel P w0 B ρ H w) {t kt et : TypeId} (ht : mapTypes P t = some (kt, et)) {cl : KCls} (hcl : flatKey P kt = some cl) {z : Value} (hz : zeroOf P et = some z) {m m' k k' v : Value} {ok : Bool}
    (h : pLookup cl z m k ok H = some v) (hm : VRel P ρ m m') (hk : VRel P ρ k k') : ∃ v', (Instr.lookup t m' k' ok).run P w = .ok v' w ∧ VRel P ρ v v' := by
  unfold pLookup at h
  split at h
  · rename_i hok
    have h2 := Option.bind_eq_some_iff.1 h
    clear h
    obtain ⟨⟨es, c⟩, hes, h⟩ := h2
    obtain ⟨r, hr, h⟩ := Option.map_eq_some_iff.1 h
    simp only at hr
    rw [keyOK_rel hok hk]
    have hu := mapTypes_some ht
    have fin : ∀ (es' : List MapEntry) (emp : Bool), EsRel P ρ es es' → ∃ v', (do
          Instr.checkKey emp 10000 kt k
          let (v, ok2) ← match ← Instr.findKey kt k es' with
            | some (_, v) => pure (v, true)
            | none => pure (← zeroValue et, false)
          pure (if ok then .tuple #[v, .bool ok2] else v) : Sem Value).run P w = .ok v' w ∧ VRel P ρ v v' := by
      intro es' emp hrel
      obtain ⟨r', h1, h2⟩ := find_run (w := w) hcl hok hr hrel
      simp only [Sem.run_bind, check_run hcl hok, Result.andThen_ok, h1]
      cases r with
      | none =>
        cases r' with
        | some x => obtain ⟨i, x⟩ := x; simp [FoundRel] at h2
        | none =>
          subst h
          simp only [Sem.run_bind, zeroOf_run hz, Result.andThen_ok, Sem.run_pure]
          cases ok
          · exact ⟨_, rfl, zero_vrel hz⟩
          · exact ⟨_, rfl, pair_rel (zero_vrel hz) false⟩
      | some x =>
        obtain ⟨i, x⟩ := x
        cases r' with
        | none => simp [FoundRel] at h2
        | some y =>
          obtain ⟨i', y⟩ := y
          subst h
          simp only [Sem.run_pure, Result.andThen_ok]
          cases ok
          · exact ⟨_, rfl, h2.2⟩
          · exact ⟨_, rfl, pair_rel h2.2 true⟩
    rcases mapOf_run hR hes hm with ⟨rfl, rfl⟩ | ⟨r1, es', rfl, hw, hrel⟩
    · obtain ⟨v', h1, h2⟩ := fin [] true ⟨rfl, fun _ _ _ h => by simp at h⟩
      refine ⟨v', ?_, h2⟩
      simp only [Instr.lookup, Sem.run_bind, run_underlying hu, Result.andThen_ok, Sem.run_pure] at h1 ⊢
      exact h1
    · obtain ⟨v', h1, h2⟩ := fin es'.toList es'.isEmpty hrel
      refine ⟨v', ?_, h2⟩
      simp only [Instr.lookup, Sem.run_bind, run_underlying hu, Result.andThen_ok, run_getObj_map hw, Sem.run_pure] at h1 ⊢
      exact h1
  · cases h

theorem found_key {cl : KCls} {k : Value} : ∀ {es : List MapEntry} {j i : Nat} {v : Value}, findKey' cl k es j = some (some (i, v)) → j ≤ i ∧ ∃ e, es[i - j]? = some e ∧ e.key = k := by
  intro es
  induction es with
  | nil => intro j i v h; simp [findKey'] at h
  | cons e es ih =>
    intro j i v h
    simp only [findKey'] at h
    have h2 := Option.bind_eq_some_iff.1 h
    clear h
    obtain ⟨b, hb, h⟩ := h2
    cases b with
    | true =>
      simp only [if_true] at h
      cases h
      have he : k = e.key := by
        have hlit : VRel (default : Program) (fun _ => none) e.key e.key ∨ True := .inr trivial
        cases cl <;> cases hk : k <;> cases hek : e.key <;> rw [hk, hek] at hb <;> simp only [keyEq] at hb <;> try (cases hb; done)
        · split at hb
          · rename_i hkk
            subst hkk
            have := Option.some.inj hb
            simp at this
            rw [this]
          · cases hb
        · rw [beq_bytes (Option.some.inj hb)]
        · split at hb
          · rw [Array.toList_inj.1 (eqCells_eq hb)]
          · cases hb
      exact ⟨Nat.le_refl _, e, by simp, he.symm⟩
    | false =>
      simp only [Bool.false_eq_true, if_false] at h
      obtain ⟨h1, e1, h2, h3⟩ := ih h
      refine ⟨by omega, e1, ?_, h3⟩
      have : i - j = (i - (j + 1)) + 1 := by omega
      rw [this]
      simpa using h2

theorem sameBits_self {cl : KCls} {k : Value} (hok : keyOK cl k = true) : Instr.sameBits 10000 k k = true := by
  cases cl <;> cases k <;> simp only [keyOK] at hok <;> try (cases hok; done)
  · simp [Instr.sameBits]
  · simp [Instr.sameBits, beq_toListBytes]
  · rename_i n xs
    simp only [Bool.and_eq_true, beq_iff_eq] at hok
    have key : ∀ (d : Nat) (l : List Value), l.all isIntV = true → (l.zip l).all (fun (x, y) => Instr.sameBits d x y) = true := by
      intro d l
      induction l with
      | nil => intro _; rfl
      | cons x l ih =>
        intro h
        simp only [List.all_cons, Bool.and_eq_true] at h
        simp only [List.zip_cons_cons, List.all_cons, ih h.2, Bool.and_true]
        cases x <;> simp [isIntV] at h
        cases d <;> simp [Instr.sameBits]
    have : Instr.sameBits (9999 + 1) (.agg xs) (.agg xs) = true := by
      rw [Instr.sameBits]
      simp [key 9999 xs.toList hok.2]
    exact this

/-- A map is written. -/
theorem setMap (hR : Rel P w0 B ρ H w) {b c d sz : Nat} {es es2 : List MapEntry} {cl cl2 : Nat} (hb : ρ b = some (c, d, sz)) (ho : H.get b = some (.map es cl)) {es2' : Array MapEntry} (hrel : EsRel P ρ es2 es2'.toList) :
    Rel P w0 B ρ (H.set b (.map es2 cl2)) { w with heap := w.heap.setIfInBounds c (.map es2' cl2) } ∧ Ext ρ H w ρ (H.set b (.map es2 cl2)) { w with heap := w.heap.setIfInBounds c (.map es2' cl2) } := by
  have hc := hR.blk b c d sz hb
  refine hR.setBlock (o' := .map es2 cl2) hb ho rfl rfl rfl rfl rfl (by simp) (fun k hk => ?_) ?_
  · simp only [Array.getElem?_setIfInBounds]
    rw [if_neg (by omega)]
  · refine ⟨es2', ?_, by simpa using hrel.1, fun i e e' he he' => hrel.2 i e e' he (by simpa using he')⟩
    simp [hc]

theorem EsRel.push {es es' : List MapEntry} (h : EsRel P ρ es es') {e e' : MapEntry} (he : ERel P ρ e e') : EsRel P ρ (es ++ [e]) (es' ++ [e']) := by
  refine ⟨by simp [h.1], fun i a a' ha ha' => ?_⟩
  rw [List.getElem?_append] at ha ha'
  by_cases hi : i < es.length
  · rw [if_pos hi] at ha; rw [if_pos (by rw [h.1]; exact hi)] at ha'; exact h.2 i a a' ha ha'
  · rw [if_neg hi] at ha; rw [if_neg (by rw [h.1]; exact hi), h.1] at ha'
    have e0 : i - es.length = 0 := by
      have := (List.getElem?_eq_some_iff.1 ha).1
      simp at this; omega
    rw [e0] at ha ha'
    cases ha; cases ha'
    exact he
theorem EsRel.modify {es es' : List MapEntry} (h : EsRel P ρ es es') (i : Nat) {f f' : MapEntry → MapEntry} (hf : ∀ e e', ERel P ρ e e' → ERel P ρ (f e) (f' e')) : EsRel P ρ (es.modify i f) (es'.modify i f') := by
  refine ⟨by simp [h.1], fun j a a' ha ha' => ?_⟩
  rw [List.getElem?_modify] at ha ha'
  obtain ⟨e, he, rfl⟩ := Option.map_eq_some_iff.1 ha
  obtain ⟨e', he', rfl⟩ := Option.map_eq_some_iff.1 ha'
  have := h.2 j e e' he he'
  split
  · exact hf _ _ this
  · exact this
theorem EsRel.erase {es es' : List MapEntry} (h : EsRel P ρ es es') (i : Nat) : EsRel P ρ (es.eraseIdx i) (es'.eraseIdx i) := by
  refine ⟨by simp [List.length_eraseIdx, h.1], fun j a a' ha ha' => ?_⟩
  rw [List.getElem?_eraseIdx] at ha ha'
  split at ha <;> rename_i hj
  · rw [if_pos hj] at ha'; exact h.2 j a a' ha ha'
  · rw [if_neg hj] at ha'; exact h.2 _ a a' ha ha'

theorem update_out (hR : Rel P w0 B ρ H w) {t kt et : TypeId} (ht : mapTypes P t = some (kt, et)) {cl : KCls} (hcl : flatKey P kt = some cl) {m m' k k' x x' : Value} {H' : AH}
    (h : pUpdate cl m k x H = some H') (hm : VRel P ρ m m') (hk : VRel P ρ k k') (hx : VRel P ρ x x') : ∃ w', (Instr.mapUpdate t m' k' x').run P w = .ok () w' ∧ Ext ρ H w ρ H' w' ∧ Rel P w0 B ρ H' w' := by
  unfold pUpdate at h
  split at h
  · rename_i hok
    have hkk := keyOK_rel hok hk
    subst hkk
    have hu := mapTypes_some ht
    cases m <;> try (cases h; done)
    rename_i r0
    cases r0 with
    | none => simp at h
    | some b =>
    simp only at h
    split at h
    · rename_i es c hg
      obtain ⟨r, hr, h⟩ := Option.map_eq_some_iff.1 h
      obtain ⟨cb, d, sz, hb, rfl⟩ := hm.map_inv
      obtain ⟨es', hw, hrel⟩ := hR.map hb hg
      obtain ⟨r', h1, h2⟩ := find_run (w := w) hcl hok hr hrel
      simp only [Instr.mapUpdate, Sem.run_bind, run_underlying hu, Result.andThen_ok, run_getObj_map hw, check_run hcl hok, h1]
      cases r with
      | none =>
        cases r' with
        | some x => obtain ⟨i, x⟩ := x; simp [FoundRel] at h2
        | none =>
          subst h
          have hs := setMap (cl2 := c + 1) hR hb hg (es2 := es ++ [{ key := k', val := x, born := c }]) (es2' := es'.push { key := k', val := x', born := c }) (by simpa using hrel.push (e := { key := k', val := x, born := c }) (e' := { key := k', val := x', born := c }) ⟨hk, hx, rfl⟩)
          exact ⟨_, run_setObj_map hw, hs.2, hs.1⟩
      | some y =>
        obtain ⟨i, y⟩ := y
        cases r' with
        | none => simp [FoundRel] at h2
        | some y' =>
          obtain ⟨i', y'⟩ := y'
          obtain ⟨rfl, hy⟩ := h2
          subst h
          obtain ⟨_, e, he, hek⟩ := found_key hr
          simp only [Nat.sub_zero] at he
          have hi : i < es.length := (List.getElem?_eq_some_iff.1 he).1
          have hi' : i < es'.toList.length := by rw [hrel.1]; exact hi
          have hrele := hrel.2 i e es'.toList[i] he (List.getElem?_eq_getElem hi')
          have hold : (((es'[i]?).map (·.key)).getD k') = k' := by
            have hkey := hrele.1
            rw [hek] at hkey
            have := keyOK_rel hok hkey
            have hi2 : i < es'.size := by simpa using hi'
            simp only [Array.getElem_toList] at this
            simp [hi2, this]
          have hstay : (Instr.keyThatStays (((es'[i]?).map (·.key)).getD k') k').run P w = .ok k' w := by
            rw [hold]
            simp [Instr.keyThatStays, sameBits_self hok]
          simp only [Sem.run_bind, hstay, Result.andThen_ok]
          have hs := setMap (cl2 := c) hR hb hg (es2 := es.modify i fun e => { e with key := k', val := x }) (es2' := es'.modify i fun e => { e with key := k', val := x' }) (by
            have := hrel.modify i (f := fun e => { e with key := k', val := x }) (f' := fun e => { e with key := k', val := x' }) (fun e e' h => ⟨hk, hx, h.2.2⟩)
            simpa [Array.toList_modify] using this)
          exact ⟨_, run_setObj_map hw, hs.2, hs.1⟩
    · cases h
  · cases h

theorem delete_out (hR : Rel P w0 B ρ H w) {t ty kt et : TypeId} (ht : mapTypes P t = some (kt, et)) {cl : KCls} (hcl : flatKey P kt = some cl) {m m' k k' : Value} {H' : AH} {ts : Array TypeId} (hts : ts[0]? = some t)
    (h : pDelete cl m k H = some H') (hm : VRel P ρ m m') (hk : VRel P ρ k k') : ∃ w', (Builtin.delete_ ts ty #[m', k']).run P w = .ok (.tuple #[]) w' ∧ Ext ρ H w ρ H' w' ∧ Rel P w0 B ρ H' w' := by
  unfold pDelete at h
  split at h
  · rename_i hok
    have hkk := keyOK_rel hok hk
    subst hkk
    have hu := mapTypes_some ht
    cases m <;> try (cases h; done)
    rename_i r0
    cases r0 with
    | none => simp at h
    | some b =>
    simp only at h
    split at h
    · rename_i es c hg
      obtain ⟨r, hr, h⟩ := Option.map_eq_some_iff.1 h
      obtain ⟨cb, d, sz, hb, rfl⟩ := hm.map_inv
      obtain ⟨es', hw, hrel⟩ := hR.map hb hg
      obtain ⟨r', h1, h2⟩ := find_run (w := w) hcl hok hr hrel
      have pre : ∀ {w' : World}, (match r' with
          | some (i, _) => setObj cb (.map (es'.eraseIdxIfInBounds i) c)
          | none => setObj cb (.map es' c) : Sem Unit).run P w = .ok () w' → (Builtin.delete_ ts ty #[.map (some cb), k']).run P w = .ok (.tuple #[]) w' := by
        intro w' hrun
        cases r' with
        | none => simp [Builtin.delete_, hts, run_underlying hu, run_getObj_map hw, check_run hcl hok, h1, hrun]
        | some x => obtain ⟨i, x⟩ := x; simp [Builtin.delete_, hts, run_underlying hu, run_getObj_map hw, check_run hcl hok, h1, hrun]
      cases r with
      | none =>
        cases r' with
        | some x => obtain ⟨i, x⟩ := x; simp [FoundRel] at h2
        | none =>
          subst h
          have hs := setMap (cl2 := c) hR hb hg (es2 := es) (es2' := es') hrel
          exact ⟨_, pre (run_setObj_map hw), hs.2, hs.1⟩
      | some y =>
        obtain ⟨i, y⟩ := y
        cases r' with
        | none => simp [FoundRel] at h2
        | some y' =>
          obtain ⟨i', y'⟩ := y'
          obtain ⟨rfl, hy⟩ := h2
          subst h
          have hs := setMap (cl2 := c) hR hb hg (es2 := es.eraseIdx i) (es2' := es'.eraseIdxIfInBounds i) (by
            have hi : i < es'.size := by
              obtain ⟨_, e, he, _⟩ := found_key hr
              have := (List.getElem?_eq_some_iff.1 he).1
              have := hrel.1
              simp at this; omega
            have := hrel.erase i
            simpa [Array.eraseIdxIfInBounds, hi] using this)
          exact ⟨_, pre (run_setObj_map hw), hs.2, hs.1⟩
    · cases h
  · cases h
end
end Go.Proofs.YthagelbepgcolaaGreatDoor.Gst
/- Every operation of the run does what the abstract one does. -/
namespace Go.Proofs.YthagelbepgcolaaGreatDoor.Gst
open Go Go.RowKit
set_option linter.unusedSimpArgs false

/-- The operands that may stand in a text: constants without addresses, some of the package-level variables. -/
def okX (G : List Nat) : Operand → Bool
  | .const v => constV v
  | .global g => G.contains g
  | _ => true
def aEv (A : List Value) : Operand → Value
  | .tmp t => A[t]?.getD undef
  | .const v => v
  | .global g => .pointer (some ⟨g, 0, none⟩)
  | .func f => .func (.func f) #[] #[]
def GlobRel (ρ : Ren) (G : List Nat) : Prop := ∀ g ∈ G, ∃ sz, ρ g = some (g, 0, sz)
theorem GlobRel.mono {ρ ρ' : Ren} {G : List Nat} (hle : ∀ b x, ρ b = some x → ρ' b = some x) (h : GlobRel ρ G) : GlobRel ρ' G :=
  fun g hg => let ⟨sz, hs⟩ := h g hg; ⟨sz, hle _ _ hs⟩

structure ActRel (ds : List Deferred) (P : Program) (ρ : Ren) (A : List Value) (a : Act) : Prop where
  tmps : LRel P ρ A a.tmps.toList
  defers : a.defers = ds

section
variable {ds : List Deferred} {P : Program} {w0 : World} {B : Nat} {ρ : Ren} {H : AH} {w : World} {G : List Nat}

theorem ActRel.mono {ρ' : Ren} {A : List Value} {a : Act} (hle : ∀ b x, ρ b = some x → ρ' b = some x) (h : ActRel ds P ρ A a) : ActRel ds P ρ' A a := ⟨h.tmps.mono hle, h.defers⟩

theorem ev_rel {A : List Value} {a : Act} (hA : ActRel ds P ρ A a) (hG : GlobRel ρ G) {x : Operand} (hx : okX G x = true) : VRel P ρ (aEv A x) (a.eval x) := by
  cases x with
  | tmp t =>
    simp only [aEv, Act.eval]
    cases hA1 : A[t]? with
    | none =>
      have h1 : A.length ≤ t := by rwa [List.getElem?_eq_none_iff] at hA1
      have h2 : a.tmps.size ≤ t := by have := hA.tmps.1; simp at this; omega
      have : a.tmps.getD t undef = undef := by simp [Array.getD, Nat.not_lt.2 h2]
      rw [this]
      exact VRel.undef
    | some v =>
      obtain ⟨y, hy, hv⟩ := hA.tmps.get hA1
      have : a.tmps.getD t undef = y := by
        rw [Array.getElem?_toList] at hy
        rw [Array.getD_eq_getD_getElem?, hy]
        rfl
      rw [this]
      exact hv
  | const v => exact VRel.const hx
  | global g =>
    simp only [okX, List.contains_iff_mem] at hx
    obtain ⟨sz, hs⟩ := hG g hx
    exact .ptr (d := 0) (o := 0) hs
  | func f => exact .func rfl (fun _ _ _ h => by simp at h) rfl (fun _ _ _ h => by simp at h)

theorem ActRel.put {A : List Value} {a : Act} (hA : ActRel ds P ρ A a) (d : Option Tmp) {v v' : Value} (hv : VRel P ρ v v') :
    ActRel ds P ρ (match d with | some d => A.set d v | none => A) (a.put d v') := by
  cases d with
  | none => exact hA
  | some d => exact ⟨by simpa [Act.put] using hA.tmps.set d hv, hA.defers⟩

/-- The calls that a text makes do what the abstract ones do. -/
def CallOK (P : Program) (G : List Nat) (call : CallF) : Prop :=
  ∀ f args H v H', call f args H = some (v, H') → (∃ fn, P.funcs[f]? = some fn ∧ fn.body.isSome = true ∧ fn.name ≠ "runtime.NumGoroutine") ∧
    ∀ w0 B ρ w args', Rel P w0 B ρ H w → GlobRel ρ G → LRel P ρ args args' →
      Calls P f args'.toArray w fun e w' => ∃ v' ρ', e = .returned v' ∧ VRel P ρ' v v' ∧ Ext ρ H w ρ' H' w' ∧ Rel P w0 B ρ' H' w'

theorem map_rel {ev ev' : Operand → Value} {xs : Array Operand} (h : ∀ x ∈ xs.toList, VRel P ρ (ev x) (ev' x)) : LRel P ρ (xs.toList.map ev) (xs.map ev').toList := by
  refine ⟨by simp, fun i a b ha hb => ?_⟩
  simp only [List.getElem?_map, Option.map_eq_some_iff, Array.toList_map] at ha hb
  obtain ⟨x, hx, rfl⟩ := ha
  obtain ⟨y, hy, rfl⟩ := hb
  rw [hx] at hy
  cases hy
  exact h x (List.mem_of_getElem? hx)

/-- What the nil check of a value comes to. -/
def nilSem (v : Value) : Sem Next :=
  match v with
  | .pointer none | .nilIface | .nilFunc => runtimePanic .nilDeref
  | .func (.method name) first captured =>
    match (first[0]? : Option Value) with
    | some .nilIface => runtimePanic .nilDeref
    | some (.iface t w) => do
      if (← nilAhead ((← program).types.size + Made.depth) t w name) != some false then
        unsupported (.noEntry "op/nilCheck.the method's receiver behind this interface value is a nil pointer, or cannot be seen to be none, and the arguments act or may panic (ledger 612)")
      pure (.value (.func (.method name) first captured))
    | _ => pure (.value (.func (.method name) first captured))
  | x => pure (.value x)

theorem pNil_run {v v' x : Value} (h : pNil v = some x) (hv : VRel P ρ v v') : x = v ∧ nilSem v' = pure (.value v') := by
  cases hv with
  | lit hl =>
    cases v with
    | pointer a => cases a <;> simp [pNil] at h <;> simp [litV] at hl
    | func fn f c => simp [litV] at hl
    | slice a n k => cases h; exact ⟨rfl, rfl⟩
    | map a => cases h; exact ⟨rfl, rfl⟩
    | chan a => cases h; exact ⟨rfl, rfl⟩
    | _ => first | (simp [pNil] at h; done) | (cases h; exact ⟨rfl, rfl⟩) | (simp [litV] at hl)
  | func hf h1 hc h2 =>
    rename_i fn f f' c c'
    cases fn <;> first | (cases h; exact ⟨rfl, rfl⟩) | (simp [pNil] at h)
  | ptr _ => cases h; exact ⟨rfl, rfl⟩
  | slice _ _ _ _ => cases h; exact ⟨rfl, rfl⟩
  | slice0 _ => cases h; exact ⟨rfl, rfl⟩
  | empty => cases h; exact ⟨rfl, rfl⟩
  | map _ => cases h; exact ⟨rfl, rfl⟩
  | iface _ => cases h; exact ⟨rfl, rfl⟩
  | agg _ _ => cases h; exact ⟨rfl, rfl⟩
  | tuple _ _ => cases h; exact ⟨rfl, rfl⟩

theorem fld_run {n off : Nat} {t : TypeId} {f : Field} {fs : Array Field} {v v' x : Value} {i : Nat} (hu : P.underlying t = some (.struct fs)) (hf : fs[i]? = some f) (hn : szOf P f.type = some n) (h0 : n ≠ 0) (hoff : f.offset = off)
    (h : pFld off v = some x) (hv : VRel P ρ v v') : ∃ x', (Instr.fieldAt t v' i).run P w = .ok x' w ∧ VRel P ρ x x' := by
  obtain ⟨⟨b, o⟩, ha, rfl⟩ := Option.map_eq_some_iff.1 h
  rw [pAt_some ha] at hv
  obtain ⟨c, d, sz, hb, rfl⟩ := hv.ptr_inv
  refine ⟨.pointer (some ⟨c, d + o + off, none⟩), ?_, ?_⟩
  · simp [Instr.fieldAt, run_underlying hu, hf, Instr.sureAddr, fieldPlace, szOf_run hn, h0, hoff, Addr.add_lit]
  · rw [Nat.add_assoc]; exact .ptr hb

theorem part_run {t : TypeId} {n : Option Nat} (hn : aggOf P t = some n) {off : Nat} {xs : Array Value} {v' x : Value} (h : pPart n off (.agg xs) = some x) (hv : VRel P ρ (.agg xs) v') :
    ∃ ys x', v' = .agg ys ∧ (part t ys off).run P w = .ok x' w ∧ VRel P ρ x x' := by
  obtain ⟨ys, rfl, hs, he⟩ := hv.agg_inv
  cases n with
  | none =>
    simp only [pPart] at h
    have hi : off < xs.size := (Array.getElem?_eq_some_iff.1 h).1
    have hi' : off < ys.size := by omega
    exact ⟨ys, ys[off], rfl, by simp [part, aggOf_none hn, hi'], he off x _ h (by simp [hi'])⟩
  | some n =>
    simp only [pPart] at h
    cases h
    obtain ⟨hag, hsz⟩ := aggOf_some hn w
    refine ⟨ys, .agg (ys.extract off (off + n)), rfl, by simp [part, hag, szOf_run hsz], .agg (by simp [hs]) (fun i x y hx hy => ?_)⟩
    rw [Array.getElem?_extract] at hx hy
    rw [← hs] at hy
    split at hx
    · rename_i hi; rw [if_pos hi] at hy; exact he _ x y hx hy
    · cases hx

theorem idx_run {e : Nat} {t el : TypeId} (hu : P.underlying t = some (.slice el)) (he : szOf P el = some e) {v v' i i' x : Value} (h : pIdx e v i = some x) (hv : VRel P ρ v v') (hi : VRel P ρ i i') :
    ∃ x', (Instr.indexAt t v' i').run P w = .ok x' w ∧ VRel P ρ x x' := by
  by_cases hsl : ∃ a n k, v = .slice a n k
  case neg =>
    exfalso
    cases v <;> first | exact hsl ⟨_, _, _, rfl⟩ | (simp [pIdx] at h)
  obtain ⟨a, n, k, rfl⟩ := hsl
  cases a with
  | none => cases i <;> simp [pIdx] at h
  | some ad =>
  obtain ⟨b, o, sp⟩ := ad
  cases sp with
  | some sp => cases i <;> simp [pIdx] at h
  | none =>
  cases i <;> simp only [pIdx] at h <;> try (cases h; done)
  rename_i kk i
  split at h
  · rename_i hc
    cases h
    rw [hi.int_inv]
    have hel : P.elem t = el := by simp [Program.elem, hu]
    cases hv with
    | lit h => simp [litV] at h
    | slice0 h => omega
    | empty => omega
    | slice hb hk hn he0 =>
      rename_i c d sz k'
      refine ⟨.pointer (some ⟨c, d + o + i.toNat * e, none⟩), ?_, by rw [Nat.add_assoc]; exact .ptr hb⟩
      rw [run_indexAt_slice w t ⟨c, d + o, none⟩ n k' kk i (by rw [hel]; exact hu), if_pos hc, hel, szOf_run he]
      simp [Addr.add_lit]
  · cases h

theorem idxA_run {e len : Nat} {t el : TypeId} (hu : P.underlying t = some (.array len el)) (he : szOf P el = some e) {v v' i i' x : Value} (h : pIdxA len e v i = some x) (hv : VRel P ρ v v') (hi : VRel P ρ i i') :
    ∃ x', (Instr.indexAt t v' i').run P w = .ok x' w ∧ VRel P ρ x x' := by
  by_cases hsl : ∃ a, v = .pointer a
  case neg =>
    exfalso
    cases v <;> first | exact hsl ⟨_, rfl⟩ | (simp [pIdxA] at h)
  obtain ⟨a, rfl⟩ := hsl
  cases a with
  | none => cases i <;> simp [pIdxA] at h
  | some ad =>
  obtain ⟨b, o, sp⟩ := ad
  cases sp with
  | some sp => cases i <;> simp [pIdxA] at h
  | none =>
  cases i <;> simp only [pIdxA] at h <;> try (cases h; done)
  rename_i kk i
  split at h
  · rename_i hc
    cases h
    rw [hi.int_inv]
    obtain ⟨c, d, sz, hb, rfl⟩ := hv.ptr_inv
    have hel : P.elem t = el := by simp [Program.elem, hu]
    have hlen : P.arrayLen t = len := by simp [Program.arrayLen, hu]
    refine ⟨.pointer (some ⟨c, d + o + i.toNat * e, none⟩), ?_, by rw [Nat.add_assoc]; exact .ptr hb⟩
    rw [run_indexAt_array w t ⟨c, d + o, none⟩ kk i (by rw [hel, hlen]; exact hu), hlen, if_pos hc, hel, szOf_run he]
    simp [Addr.add_lit]
  · cases h

theorem indexV_run {e len : Nat} {n : Option Nat} {t el : TypeId} (hu : P.underlying t = some (.array len el)) (he : szOf P el = some e) (hn : aggOf P el = some n) {v v' i i' x : Value} (h : pIndexV len n e v i = some x) (hv : VRel P ρ v v') (hi : VRel P ρ i i') :
    ∃ x', (Instr.index t v' i').run P w = .ok x' w ∧ VRel P ρ x x' := by
  cases v <;> simp only [pIndexV] at h <;> try (cases h; done)
  rename_i xs
  cases i <;> simp only at h <;> try (cases h; done)
  rename_i kk i
  split at h
  · rename_i hc
    rw [hi.int_inv]
    have hp : pPart n (i.toNat * e) (.agg xs) = some x := by cases n <;> simpa [pPart] using h
    obtain ⟨ys, x', rfl, hr, hx⟩ := part_run (w := w) hn hp hv
    exact ⟨x', by simp [Instr.index, asIntOf, run_underlying hu, hc, szOf_run he, hr], hx⟩
  · cases h

theorem indexS_run {t : TypeId} (hu : P.underlying t = some .string) {v v' i i' x : Value} (h : pIndexS v i = some x) (hv : VRel P ρ v v') (hi : VRel P ρ i i') :
    ∃ x', (Instr.index t v' i').run P w = .ok x' w ∧ VRel P ρ x x' := by
  cases v <;> simp only [pIndexS] at h <;> try (cases h; done)
  rename_i s
  cases i <;> simp only at h <;> try (cases h; done)
  rename_i kk i
  split at h
  · rename_i hc
    obtain ⟨b, hb, rfl⟩ := Option.map_eq_some_iff.1 h
    rw [hi.int_inv, hv.string_inv]
    exact ⟨_, by simp [Instr.index, asIntOf, run_underlying hu, hc, hb], .lit rfl⟩
  · cases h

theorem slice_run {e : Nat} {t el : TypeId} (hu : P.underlying t = some (.slice el)) (he : szOf P el = some e) {x x' v : Value} {lo hi lo' hi' : Option Value} (h : pSlice e x lo hi = some v) (hx : VRel P ρ x x')
    (hlo : lo = none ∧ lo' = none ∨ ∃ a a', lo = some a ∧ lo' = some a' ∧ VRel P ρ a a') (hhi : hi = none ∧ hi' = none ∨ ∃ a a', hi = some a ∧ hi' = some a' ∧ VRel P ρ a a') :
    ∃ v', (Instr.sliceAt t x' lo' hi' none).run P w = .ok v' w ∧ VRel P ρ v v' := by
  cases x <;> simp only [pSlice] at h <;> try (cases h; done)
  rename_i a n e'
  have h2 := Option.bind_eq_some_iff.1 h
  clear h
  obtain ⟨l, hl, h⟩ := h2
  have h2 := Option.bind_eq_some_iff.1 h
  clear h
  obtain ⟨hh, hhv, h⟩ := h2
  split at h
  · rename_i hc
    have elo : lo = none ∧ lo' = none ∧ l = 0 ∨ ∃ k, lo' = some (.int k l) := by
      rcases hlo with ⟨rfl, rfl⟩ | ⟨b, b', rfl, rfl, hb⟩
      · left; simp at hl; exact ⟨rfl, rfl, hl.symm⟩
      · right; cases b <;> simp [pInt?] at hl; subst hl; exact ⟨_, by rw [hb.int_inv]⟩
    have ehi : hi = none ∧ hi' = none ∧ hh = n ∨ ∃ k, hi' = some (.int k hh) := by
      rcases hhi with ⟨rfl, rfl⟩ | ⟨b, b', rfl, rfl, hb⟩
      · left; simp at hhv; exact ⟨rfl, rfl, hhv.symm⟩
      · right; cases b <;> simp [pInt?] at hhv; subst hhv; exact ⟨_, by rw [hb.int_inv]⟩
    -- what the run comes to
    have run : ∀ (a' : Option Addr) (k' : Nat), n ≤ k' → (Instr.sliceAt t (.slice a' n k') lo' hi' none).run P w = .ok (.slice (if k' = l.toNat then a' else a'.map (·.add (l.toNat * e))) (hh.toNat - l.toNat) (k' - l.toNat)) w := by
      intro a' k' hk
      have c1 : hh ≤ (k' : Int) := by omega
      have c3 : 0 ≤ hh := by omega
      have c2 : l ≤ hh := hc.2.1
      have c5 : max hh 0 = hh := by omega
      rcases elo with ⟨_, rfl, rfl⟩ | ⟨kl, rfl⟩ <;> rcases ehi with ⟨_, rfl, rfl⟩ | ⟨kh, rfl⟩ <;>
        simp [Instr.sliceAt, Instr.slice, run_underlying hu, Instr.sliceBounds, Instr.sliceBound, asIntOf, szOf_run he, hc.1, c1, c2, c3, c5]
    cases a with
    | none =>
      simp only at h
      split at h
      · rename_i hne
        obtain ⟨rfl, rfl⟩ := hne
        cases h
        rw [hx.nilslice_inv]
        have e1 : l.toNat = 0 := by omega
        have e2 : hh.toNat = 0 := by omega
        refine ⟨.slice none 0 0, ?_, .lit rfl⟩
        rw [run none 0 (Nat.le_refl _), e1, e2]
        rfl
      · cases h
    | some ad =>
      obtain ⟨b, o, sp⟩ := ad
      cases sp with
      | some sp => simp at h
      | none =>
        simp only at h
        split at h
        · rename_i hee
          obtain ⟨rfl, he0⟩ := hee
          cases h
          cases hx with
          | lit h => simp [litV] at h
          | slice hb hk hn he1 =>
            rename_i c d sz k'
            refine ⟨_, run _ k' hn, ?_⟩
            by_cases hkl : k' = l.toNat
            · have e1 : hh.toNat - l.toNat = 0 := by omega
              have e2 : k' - l.toNat = 0 := by omega
              rw [if_pos hkl, e1, e2]
              exact .slice0 hb
            · rw [if_neg hkl]
              simp only [Option.map_some, Addr.add_lit]
              rw [Nat.add_assoc]
              refine .slice hb ?_ (by omega) he0
              have h1 : l.toNat * e' + (k' - l.toNat) * e' = k' * e' := by rw [← Nat.add_mul]; congr 1; omega
              omega
          | empty => omega
          | slice0 hb =>
            rename_i c d sz a
            refine ⟨_, run _ 0 (Nat.le_refl _), ?_⟩
            have e1 : l.toNat = 0 := by omega
            have e2 : hh.toNat = 0 := by omega
            rw [e1, e2]
            simpa using VRel.slice0 hb
        · cases h
  · cases h

theorem slice0_run {t el : TypeId} {e : Nat} (hu : P.underlying t = some (.slice el)) (he : szOf P el = some e) {x x' hi hi' mx mx' v : Value} (h : pSlice0 x hi mx = some v) (hx : VRel P ρ x x') (hh : VRel P ρ hi hi') (hm : VRel P ρ mx mx') :
    ∃ v', (Instr.sliceAt t x' none (some hi') (some mx')).run P w = .ok v' w ∧ VRel P ρ v v' := by
  have run : ∀ (a' : Option Addr) (n k' : Nat) (k1 k2 : IntKind), (Instr.sliceAt t (.slice a' n k') none (some (.int k1 0)) (some (.int k2 0))).run P w = .ok (.slice a' 0 0) w := by
    intro a' n k' k1 k2
    simp [Instr.sliceAt, Instr.slice, run_underlying hu, Instr.sliceBounds, Instr.sliceBound, asIntOf, szOf_run he]
  unfold pSlice0 at h
  split at h
  · cases h
    rw [hh.int_inv, hm.int_inv, hx.nilslice_inv]
    exact ⟨_, run _ _ _ _ _, .lit rfl⟩
  · rename_i b o n k k1 k2 _
    cases h
    rw [hh.int_inv, hm.int_inv]
    cases hx with
    | lit h => simp [litV] at h
    | slice hb _ _ _ => exact ⟨_, run _ _ _ _ _, .slice0 hb⟩
    | slice0 hb => exact ⟨_, run _ _ _ _ _, .slice0 hb⟩
    | empty => exact ⟨_, run _ _ _ _ _, .empty⟩
  · cases h
end
end Go.Proofs.YthagelbepgcolaaGreatDoor.Gst
/- Every operation of the run does what the abstract one does: all of them together. -/
namespace Go.Proofs.YthagelbepgcolaaGreatDoor.Gst
open Go Go.RowKit
set_option linter.unusedSimpArgs false
section
variable {ds : List Deferred} {P : Program} {w0 : World} {B : Nat} {ρ : Ren} {H : AH} {w : World} {G : List Nat}

theorem wp_of_out {o : Oper} {a : Act} {v : Value} {H' : AH} {next : Act → World → Prop} {Q : Exit → Act → World → Prop} (h : Out P w0 B ρ H w ((execOp a.eval o).run P w) v H')
    (hn : ∀ v' ρ' w', VRel P ρ' v v' → Ext ρ H w ρ' H' w' → Rel P w0 B ρ' H' w' → next (a.put o.dst v') w') : o.wp P a w next Q := by
  obtain ⟨v', w', ρ', hr | ⟨hr, rfl⟩, hv, he, hR⟩ := h
  · unfold Oper.wp; rw [hr, Oper.upon_value]; exact hn v' ρ' w' hv he hR
  · unfold Oper.wp; rw [hr, Oper.upon_skip]; exact hn _ ρ' w' hv he hR

theorem val_run {s : Sem Value} {v' : Value} {w' : World} (h : s.run P w = .ok v' w') : (do pure (Next.value (← s)) : Sem Next).run P w = .ok (.value v') w' := by simp [h]
theorem unit_run {s : Sem Unit} {w' : World} (h : s.run P w = .ok () w') : (do s; pure Next.skip : Sem Next).run P w = .ok .skip w' := by simp [h]

theorem elem_some {t el : TypeId} (h : elemOf' P t = some el) : P.underlying t = some (.slice el) := by
  unfold elemOf' at h
  cases hu : P.underlying t with
  | none => simp [hu] at h
  | some d => cases d <;> simp [hu] at h; rw [h]
theorem kind_some {t : TypeId} {k : IntKind} (h : kindOf P t = some k) : P.underlying t = some (.int k) := by
  unfold kindOf at h
  cases hu : P.underlying t with
  | none => simp [hu] at h
  | some d => cases d <;> simp [hu] at h; rw [h]
theorem field_some {t : TypeId} {i : Nat} {f : Field} (h : fieldOf P t i = some f) : ∃ fs, P.underlying t = some (.struct fs) ∧ fs[i]? = some f := by
  unfold fieldOf at h
  cases hu : P.underlying t with
  | none => simp [hu] at h
  | some d => cases d <;> simp [hu] at h; exact ⟨_, rfl, h⟩
theorem bytes_some {t : TypeId} {n : Nat} (h : bytesOf' P t = some n) {i : TypeInfo} (hi : P.info? t = some i) : i.bytes = n := by
  unfold bytesOf' at h; simpa [hi] using h
theorem size_some {t : TypeId} {n : Nat} (h : szOf P t = some n) {i : TypeInfo} (hi : P.info? t = some i) : i.size = n := by
  unfold szOf at h; simpa [hi] using h

theorem list1 {α : Type} {xs : Array α} {x : α} (h : xs.toList = [x]) : xs = #[x] := by
  apply Array.ext'; simpa using h
theorem list2 {α : Type} {xs : Array α} {x y : α} (h : xs.toList = [x, y]) : xs = #[x, y] := by
  apply Array.ext'; simpa using h

theorem two_rel {xs : List Value} {ys : Array Value} (h : LRel P ρ xs ys.toList) {x y : Value} (hx : xs = [x, y]) : ∃ x' y', ys = #[x', y'] ∧ VRel P ρ x x' ∧ VRel P ρ y y' := by
  subst hx
  have hl := h.1
  obtain ⟨l⟩ := ys
  match l, hl with
  | [x', y'], _ => exact ⟨x', y', rfl, h.2 0 x x' rfl rfl, h.2 1 y y' rfl rfl⟩
theorem one_rel {xs : List Value} {ys : Array Value} (h : LRel P ρ xs ys.toList) {x : Value} (hx : xs = [x]) : ∃ x', ys = #[x'] ∧ VRel P ρ x x' := by
  subst hx
  have hl := h.1
  obtain ⟨l⟩ := ys
  match l, hl with
  | [x'], _ => exact ⟨x', rfl, h.2 0 x x' rfl rfl⟩

theorem max_out {xs : List Value} {ys : Array Value} (h : LRel P ρ xs ys.toList) {v : Value} (hm : pMax xs = some v) (ts : Array TypeId) (t : TypeId) : (Builtin.max_ ts t ys).run P w = .ok v w ∧ litV v = true := by
  unfold pMax at hm
  split at hm
  · rename_i k x k' y
    obtain ⟨x', y', rfl, hx, hy⟩ := two_rel h rfl
    rw [hx.int_inv, hy.int_inv]
    cases hm
    exact ⟨run_max_int2 w ts t k k' x y, rfl⟩
  · cases hm
theorem min_out {xs : List Value} {ys : Array Value} (h : LRel P ρ xs ys.toList) {v : Value} (hm : pMin xs = some v) (ts : Array TypeId) (t : TypeId) : (Builtin.min_ ts t ys).run P w = .ok v w ∧ litV v = true := by
  unfold pMin at hm
  split at hm
  · rename_i k x k' y
    obtain ⟨x', y', rfl, hx, hy⟩ := two_rel h rfl
    rw [hx.int_inv, hy.int_inv]
    cases hm
    exact ⟨run_min_int2 w ts t k k' x y, rfl⟩
  · cases hm

theorem builtin_out (hR : Rel P w0 B ρ H w) {b : Builtin} {ts : Array TypeId} {t : TypeId} {cs : Array Bool} {xs : List Value} {ys : Array Value} (hl : LRel P ρ xs ys.toList) {v : Value} {H' : AH} (h : aBuiltin P b ts xs H = some (v, H')) :
    Out P w0 B ρ H w ((builtin b ts t cs ys).run P w) v H' := by
  unfold aBuiltin at h
  split at h
  · -- len
    rename_i x
    obtain ⟨x', rfl, hx⟩ := one_rel hl rfl
    cases hts : ts[0]? with
    | none => simp [hts] at h
    | some t0 =>
      simp only [hts, Option.bind_some] at h
      cases hu : P.underlying t0 with
      | none => simp [hu] at h
      | some d =>
        cases d <;> simp only [hu] at h <;> try (cases h; done)
        case string =>
          cases x <;> simp only at h <;> try (cases h; done)
          obtain ⟨y, hy, e⟩ := Option.map_eq_some_iff.1 h
          cases e
          simp [pLen] at hy
          subst hy
          rw [hx.string_inv]
          exact Out.pure hR (by simp [builtin, Builtin.len_, hts, run_underlying hu, goInt]) (.lit rfl)
        case slice el =>
          cases x <;> simp only at h <;> try (cases h; done)
          obtain ⟨y, hy, e⟩ := Option.map_eq_some_iff.1 h
          cases e
          simp [pLen] at hy
          subst hy
          obtain ⟨a', k', rfl, _⟩ := hx.anyslice_inv
          exact Out.pure hR (by simp [builtin, Builtin.len_, hts, run_underlying hu, goInt]) (.lit rfl)
        case map k el =>
          obtain ⟨y, hy, e⟩ := Option.map_eq_some_iff.1 h
          cases e
          cases x <;> simp only [pLenM] at hy <;> try (cases hy; done)
          rename_i r
          cases r with
          | none =>
            simp only at hy
            cases hy
            rw [hx.nilmap_inv]
            exact Out.pure hR (by simp [builtin, Builtin.len_, hts, run_underlying hu, goInt]) (.lit rfl)
          | some b =>
            simp only at hy
            split at hy
            · rename_i es c hg
              cases hy
              obtain ⟨c', d, sz, hb, rfl⟩ := hx.map_inv
              obtain ⟨es', hw, hrel⟩ := hR.map hb hg
              have hsz : es'.size = es.length := by simpa using hrel.1
              exact Out.pure hR (by simp [builtin, Builtin.len_, hts, run_underlying hu, run_getObj_map hw, goInt, hsz]) (.lit rfl)
            · cases hy
  · obtain ⟨y, hy, e⟩ := Option.map_eq_some_iff.1 h
    cases e
    obtain ⟨hr, hv⟩ := max_out (w := w) hl hy ts t
    exact Out.pure hR (by simp only [builtin]; exact val_run hr) (.lit hv)
  · obtain ⟨y, hy, e⟩ := Option.map_eq_some_iff.1 h
    cases e
    obtain ⟨hr, hv⟩ := min_out (w := w) hl hy ts t
    exact Out.pure hR (by simp only [builtin]; exact val_run hr) (.lit hv)
  · -- append
    rename_i s x
    obtain ⟨s', x', rfl, hs, hx⟩ := two_rel hl rfl
    obtain ⟨t0, ht0, h⟩ := Option.bind_eq_some_iff.1 h
    obtain ⟨el, hel, h⟩ := Option.bind_eq_some_iff.1 h
    obtain ⟨e, he, h⟩ := Option.bind_eq_some_iff.1 h
    obtain ⟨by', hby, h⟩ := Option.bind_eq_some_iff.1 h
    obtain ⟨z, hz, h⟩ := Option.bind_eq_some_iff.1 h
    split at h
    · rename_i hc
      obtain ⟨hzs, hu⟩ := hc
      obtain ⟨u, hu0, hue⟩ := Option.bind_eq_some_iff.1 hu
      obtain ⟨i, hi, hzi, _⟩ := zeroOf_info hz
      have e1 := size_some he hi
      have e2 := bytes_some hby hi
      subst e1; subst e2
      have hts : Builtin.append_ ts t #[s', x'] = Builtin.append_ #[t0, u] t #[s', x'] := by
        simp [Builtin.append_, ht0, hu0]
      obtain ⟨v', w', ρ', hr, hv, hE, hR'⟩ := app_out (ty := t) hR (elem_some hel) (elem_some hue) hi hzi hzs h hs hx
      exact ⟨v', w', ρ', .inl (by simp only [builtin, hts]; exact val_run hr), hv, hE, hR'⟩
    · cases h
  · -- delete
    rename_i m k
    obtain ⟨m', k', rfl, hm, hk⟩ := two_rel hl rfl
    obtain ⟨t0, ht0, h⟩ := Option.bind_eq_some_iff.1 h
    obtain ⟨⟨kt, et⟩, hkt, h⟩ := Option.bind_eq_some_iff.1 h
    obtain ⟨cl, hcl, h⟩ := Option.bind_eq_some_iff.1 h
    obtain ⟨H2, hH, e⟩ := Option.map_eq_some_iff.1 h
    cases e
    obtain ⟨w', hr, hE, hR'⟩ := delete_out (ty := t) hR hkt hcl ht0 hH hm hk
    exact ⟨.tuple #[], w', ρ, .inl (by simp only [builtin]; exact val_run hr), VRel.undef, hE, hR'⟩
  · cases h

theorem callee_rel {f f' : Value} {args args' : List Value} {g : Nat} {xs : List Value} (h : pCallee f args = some (g, xs)) (hf : VRel P ρ f f') (ha : LRel P ρ args args') :
    ∃ first captured : Array Value, f' = .func (.func g) first captured ∧ LRel P ρ xs (first.toList ++ args' ++ captured.toList) := by
  cases f <;> simp only [pCallee] at h <;> try (cases h; done)
  rename_i fn first captured
  cases fn <;> simp only at h <;> try (cases h; done)
  cases h
  obtain ⟨f1, c1, rfl, h1, h2⟩ := hf.func_inv
  exact ⟨f1, c1, rfl, (h1.append ha).append h2⟩

/-- **An operation that is no call of a Go function.** -/
theorem op_out {call : CallF} {A : List Value} {a : Act} (hA : ActRel ds P ρ A a) (hG : GlobRel ρ G) (hR : Rel P w0 B ρ H w) {o : Oper} (hok : o.op.operands.toList.all (okX G) = true)
    (hno : ∀ c f, o.op = .call c → c.callee ≠ .value f) {v : Value} {H' : AH} (h : aOp P call (aEv A) o H = some (v, H')) : Out P w0 B ρ H w ((execOp a.eval o).run P w) v H' := by
  obtain ⟨dst, op, type, pos, after, guard⟩ := o
  simp only at hok hno
  have ev : ∀ x, x ∈ op.operands.toList → VRel P ρ (aEv A x) (a.eval x) := fun x hx => ev_rel hA hG (List.all_eq_true.1 hok x hx)
  cases op <;> simp only [aOp] at h <;> simp only [execOp] <;> try (cases h; done)
  case move x => cases h; exact Out.pure hR rfl (ev x (by simp [Op.operands]))
  case assign x => cases h; exact Out.pure hR rfl (ev x (by simp [Op.operands]))
  case pick c x y =>
    obtain ⟨z, hz, e⟩ := Option.map_eq_some_iff.1 h
    cases e
    have hc := ev c (by simp [Op.operands])
    cases hcv : aEv A c <;> rw [hcv] at hz <;> simp only [pPick] at hz <;> try (cases hz; done)
    rename_i t
    cases hz
    rw [hcv] at hc
    rw [hc.bool_inv]
    cases t
    · exact Out.pure hR (by simp [asBool]) (ev y (by simp [Op.operands]))
    · exact Out.pure hR (by simp [asBool]) (ev x (by simp [Op.operands]))
  case alloc t =>
    obtain ⟨z, hz, e⟩ := Option.map_eq_some_iff.1 h
    cases e
    obtain ⟨i, hi, hzi, hlit, _⟩ := zeroOf_info hz
    refine newPtr (el := t) (cs' := z.cells.toList) hR (LRel.of_all hlit) (val_run ?_)
    simp [Instr.alloc, zeroOf_run hz, newVar, newRow]
  case box t x =>
    cases h
    refine newPtr (el := t) (cs' := (a.eval x).cells.toList) hR (ev x (by simp [Op.operands])).cells (val_run ?_)
    simp [Instr.box, newVar, newRow]
  case build t parts =>
    have hx : ∀ x ∈ parts.toList.map (·.2), VRel P ρ (aEv A x) (a.eval x) := fun x hx => ev x (by simpa [Op.operands] using hx)
    cases hu : P.underlying t with
    | none => simp [hu] at h
    | some d =>
      cases d <;> simp only [hu] at h <;> try (cases h; done)
      case struct fs =>
        obtain ⟨z, hz, h⟩ := Option.bind_eq_some_iff.1 h
        obtain ⟨ps, hps, h⟩ := Option.bind_eq_some_iff.1 h
        obtain ⟨cs, hcs, e⟩ := Option.map_eq_some_iff.1 h
        cases e
        obtain ⟨v', hr, hv⟩ := build_out (w := w) hx hz hu hps hcs
        exact Out.pure hR (val_run hr) hv
      case array n el =>
        obtain ⟨z, hz, h⟩ := Option.bind_eq_some_iff.1 h
        obtain ⟨e, he, h⟩ := Option.bind_eq_some_iff.1 h
        obtain ⟨cs, hcs, e⟩ := Option.map_eq_some_iff.1 h
        cases e
        obtain ⟨v', hr, hv⟩ := buildArr_out (w := w) hx hz hu he hcs
        exact Out.pure hR (val_run hr) hv
  case buildSlice t len parts =>
    have hx : ∀ x ∈ parts.toList.map (·.2), VRel P ρ (aEv A x) (a.eval x) := fun x hx => ev x (by simpa [Op.operands] using hx)
    obtain ⟨el, hel, h⟩ := Option.bind_eq_some_iff.1 h
    obtain ⟨e, he, h⟩ := Option.bind_eq_some_iff.1 h
    obtain ⟨z, hz, h⟩ := Option.bind_eq_some_iff.1 h
    split at h
    · rename_i hc
      obtain ⟨cs, hcs, e2⟩ := Option.map_eq_some_iff.1 h
      cases e2
      obtain ⟨v', w', ρ', hr, hv, hE, hR'⟩ := buildSlice_out hR hx hz (elem_some hel) he hc.1 hc.2.1 hc.2.2 hcs
      exact ⟨v', w', ρ', .inl (val_run hr), hv, hE, hR'⟩
    · cases h
  case load t x =>
    have hx := ev x (by simp [Op.operands])
    obtain ⟨g, hg, h⟩ := Option.bind_eq_some_iff.1 h
    cases g with
    | none =>
      obtain ⟨y, hy, e⟩ := Option.map_eq_some_iff.1 h
      cases e
      obtain ⟨a', y', ha, hr, hv⟩ := load1 hR hy hx
      exact Out.pure hR (val_run (by simp [Instr.loadAt, ha, Instr.sureAddr, loadVar, aggOf_none hg]; simpa using hr)) hv
    | some n =>
      obtain ⟨y, hy, e⟩ := Option.map_eq_some_iff.1 h
      cases e
      obtain ⟨a', ys, ha, hr, hv⟩ := loadN hR hy hx
      obtain ⟨hag, hsz⟩ := aggOf_some hg w
      exact Out.pure hR (val_run (by simp [Instr.loadAt, ha, Instr.sureAddr, loadVar, hag, szOf_run hsz, hr])) hv
  case store t x y =>
    have hx := ev x (by simp [Op.operands])
    have hy := ev y (by simp [Op.operands])
    obtain ⟨n, hn, h⟩ := Option.bind_eq_some_iff.1 h
    obtain ⟨H2, hH, e⟩ := Option.map_eq_some_iff.1 h
    cases e
    obtain ⟨a', w', ha, hcs, hr, hE, hR'⟩ := storeN hR hH hx hy
    exact ⟨undef, w', ρ, .inr ⟨unit_run (by simp [Instr.storeAt, ha, Instr.sureAddr, storeVar, szOf_run hn, hcs, hr]), rfl⟩, VRel.undef, hE, hR'⟩
  case nilCheck x =>
    have hx := ev x (by simp [Op.operands])
    obtain ⟨y, hy, e⟩ := Option.map_eq_some_iff.1 h
    cases e
    obtain ⟨rfl, hr⟩ := pNil_run hy hx
    have e2 : (nilSem (a.eval x)).run P w = .ok (.value (a.eval x)) w := by rw [hr]; rfl
    exact Out.pure hR e2 hx
  case binOp op t x y yt =>
    obtain ⟨z, hz, e⟩ := Option.map_eq_some_iff.1 h
    cases e
    obtain ⟨hr, hl⟩ := pBin_run hz (ev x (by simp [Op.operands])) (ev y (by simp [Op.operands])) x y w
    exact Out.pure hR (val_run hr) (.lit hl)
  case unOp op t x =>
    obtain ⟨z, hz, e⟩ := Option.map_eq_some_iff.1 h
    cases e
    obtain ⟨hr, hl⟩ := pUn_run hz (ev x (by simp [Op.operands])) w
    exact Out.pure hR (val_run hr) (.lit hl)
  case convert src dst x =>
    cases hu : P.underlying src with
    | none => simp [hu] at h
    | some d =>
      simp only [hu] at h
      obtain ⟨z, hz, e⟩ := Option.map_eq_some_iff.1 h
      cases e
      have hx := ev x (by simp [Op.operands])
      cases hk : kindOf P dst with
      | none => simp [hk, pConv] at hz
      | some k =>
        cases hxv : aEv A x <;> rw [hk, hxv] at hz <;> simp only [pConv] at hz <;> try (cases hz; done)
        rename_i k0 n
        cases hz
        rw [hxv] at hx
        rw [hx.int_inv]
        have hud := kind_some hk
        have hkd : P.intKind dst = k := by simp [Program.intKind, hud]
        have hr := run_convert_int (P := P) w src dst k0 n (by simp [hu]) (by rw [hkd]; exact hud)
        rw [hkd] at hr
        exact Out.pure hR (val_run hr) (.lit rfl)
  case makeFunc fn first captured =>
    cases h
    refine Out.pure hR (val_run (by simp [Instr.makeFunc]; rfl)) ?_
    refine .func (by simp) (fun i x y hx hy => ?_) (by simp) (fun i x y hx hy => ?_)
    · simp only [Array.getElem?_map, Option.map_eq_some_iff] at hx hy
      obtain ⟨p, hp, rfl⟩ := hx
      obtain ⟨q, hq, rfl⟩ := hy
      rw [hp] at hq; cases hq
      exact ev p (by simp only [Op.operands, Array.toList_append, List.mem_append]; exact .inl (by simpa using Array.mem_of_getElem? hp))
    · simp only [Array.getElem?_map, Option.map_eq_some_iff] at hx hy
      obtain ⟨p, hp, rfl⟩ := hx
      obtain ⟨q, hq, rfl⟩ := hy
      rw [hp] at hq; cases hq
      exact ev p (by simp only [Op.operands, Array.toList_append, List.mem_append]; exact .inr (by simpa using Array.mem_of_getElem? hp))
  case makeMap t r =>
    cases r with
    | some r => simp at h
    | none =>
      simp only at h
      cases h
      have hp := hR.push (o := .map [] 0) (ob := .map #[] 0) (sz := 0) rfl ⟨#[], rfl, rfl, fun _ _ _ h => by simp at h⟩
      refine ⟨.map (some w.heap.size), _, _, .inl (val_run ?_), .map (Ren.upd_same ..), hp.2, hp.1⟩
      simp [Instr.makeMap]
  case makeSlice t l c =>
    obtain ⟨el, hel, h⟩ := Option.bind_eq_some_iff.1 h
    obtain ⟨e, he, h⟩ := Option.bind_eq_some_iff.1 h
    obtain ⟨by', hby, h⟩ := Option.bind_eq_some_iff.1 h
    obtain ⟨z, hz, h⟩ := Option.bind_eq_some_iff.1 h
    obtain ⟨v', w', ρ', hr, hv, hE, hR'⟩ := make_out hR hz (elem_some hel) he hby h (ev l (by simp [Op.operands])) (ev c (by simp [Op.operands]))
    exact ⟨v', w', ρ', .inl (val_run hr), hv, hE, hR'⟩
  case slice t x lo hi mx =>
    cases mx with
    | none =>
      simp only at h
      obtain ⟨el, hel, h⟩ := Option.bind_eq_some_iff.1 h
      obtain ⟨e, he, h⟩ := Option.bind_eq_some_iff.1 h
      obtain ⟨z, hz, e2⟩ := Option.map_eq_some_iff.1 h
      cases e2
      have hx := ev x (by simp [Op.operands])
      obtain ⟨v', hr, hv⟩ := slice_run (w := w) (lo' := lo.map a.eval) (hi' := hi.map a.eval) (elem_some hel) he hz hx
        (by cases lo with
            | none => exact .inl ⟨rfl, rfl⟩
            | some l => exact .inr ⟨_, _, rfl, rfl, ev l (by simp [Op.operands])⟩)
        (by cases hi with
            | none => exact .inl ⟨rfl, rfl⟩
            | some l => exact .inr ⟨_, _, rfl, rfl, ev l (by simp [Op.operands])⟩)
      exact Out.pure hR (val_run hr) hv
    | some mx =>
      cases lo with
      | some lo => cases hi <;> simp at h
      | none =>
        cases hi with
        | none => simp at h
        | some hi =>
          simp only at h
          obtain ⟨el, hel, h⟩ := Option.bind_eq_some_iff.1 h
          obtain ⟨e, he, h⟩ := Option.bind_eq_some_iff.1 h
          obtain ⟨z, hz, e2⟩ := Option.map_eq_some_iff.1 h
          cases e2
          obtain ⟨v', hr, hv⟩ := slice0_run (w := w) (elem_some hel) he hz (ev x (by simp [Op.operands])) (ev hi (by simp [Op.operands])) (ev mx (by simp [Op.operands]))
          exact Out.pure hR (val_run hr) hv
  case fieldAddr s x f =>
    obtain ⟨fd, hf, h⟩ := Option.bind_eq_some_iff.1 h
    obtain ⟨n, hn, h⟩ := Option.bind_eq_some_iff.1 h
    split at h
    · cases h
    · rename_i h0
      obtain ⟨z, hz, e2⟩ := Option.map_eq_some_iff.1 h
      cases e2
      obtain ⟨fs, hu, hfs⟩ := field_some hf
      obtain ⟨v', hr, hv⟩ := fld_run (w := w) hu hfs hn h0 rfl hz (ev x (by simp [Op.operands]))
      exact Out.pure hR (val_run hr) hv
  case field s x f =>
    obtain ⟨fd, hf, h⟩ := Option.bind_eq_some_iff.1 h
    obtain ⟨n, hn, h⟩ := Option.bind_eq_some_iff.1 h
    obtain ⟨z, hz, e2⟩ := Option.map_eq_some_iff.1 h
    cases e2
    obtain ⟨fs, hu, hfs⟩ := field_some hf
    have hx := ev x (by simp [Op.operands])
    cases hxv : aEv A x <;> rw [hxv] at hz <;> try (simp [pPart] at hz; done)
    rename_i xs
    rw [hxv] at hx
    obtain ⟨ys, v', hys, hr, hv⟩ := part_run (w := w) hn hz hx
    refine Out.pure hR (val_run ?_) hv
    simp [Instr.field, run_underlying hu, hfs, hys, asAgg, hr]
  case indexAddr t x i =>
    cases hu : P.underlying t with
    | none => simp [hu] at h
    | some d =>
      cases d <;> simp only [hu] at h <;> try (cases h; done)
      case slice el =>
        obtain ⟨e, he, h⟩ := Option.bind_eq_some_iff.1 h
        obtain ⟨z, hz, e2⟩ := Option.map_eq_some_iff.1 h
        cases e2
        obtain ⟨v', hr, hv⟩ := idx_run (w := w) hu he hz (ev x (by simp [Op.operands])) (ev i (by simp [Op.operands]))
        exact Out.pure hR (val_run hr) hv
      case array n el =>
        obtain ⟨e, he, h⟩ := Option.bind_eq_some_iff.1 h
        obtain ⟨z, hz, e2⟩ := Option.map_eq_some_iff.1 h
        cases e2
        obtain ⟨v', hr, hv⟩ := idxA_run (w := w) hu he hz (ev x (by simp [Op.operands])) (ev i (by simp [Op.operands]))
        exact Out.pure hR (val_run hr) hv
  case index t x i =>
    cases hu : P.underlying t with
    | none => simp [hu] at h
    | some d =>
      cases d <;> simp only [hu] at h <;> try (cases h; done)
      case string =>
        obtain ⟨z, hz, e2⟩ := Option.map_eq_some_iff.1 h
        cases e2
        obtain ⟨v', hr, hv⟩ := indexS_run (w := w) hu hz (ev x (by simp [Op.operands])) (ev i (by simp [Op.operands]))
        exact Out.pure hR (val_run hr) hv
      case array n el =>
        obtain ⟨e, he, h⟩ := Option.bind_eq_some_iff.1 h
        obtain ⟨nn, hnn, h⟩ := Option.bind_eq_some_iff.1 h
        obtain ⟨z, hz, e2⟩ := Option.map_eq_some_iff.1 h
        cases e2
        obtain ⟨v', hr, hv⟩ := indexV_run (w := w) hu he hnn hz (ev x (by simp [Op.operands])) (ev i (by simp [Op.operands]))
        exact Out.pure hR (val_run hr) hv
  case lookup t m k ok =>
    obtain ⟨⟨kt, et⟩, hkt, h⟩ := Option.bind_eq_some_iff.1 h
    obtain ⟨cl, hcl, h⟩ := Option.bind_eq_some_iff.1 h
    obtain ⟨z, hz, h⟩ := Option.bind_eq_some_iff.1 h
    obtain ⟨y, hy, e2⟩ := Option.map_eq_some_iff.1 h
    cases e2
    obtain ⟨v', hr, hv⟩ := lookup_out hR hkt hcl hz hy (ev m (by simp [Op.operands])) (ev k (by simp [Op.operands]))
    exact Out.pure hR (val_run hr) hv
  case mapUpdate t m k x =>
    obtain ⟨⟨kt, et⟩, hkt, h⟩ := Option.bind_eq_some_iff.1 h
    obtain ⟨cl, hcl, h⟩ := Option.bind_eq_some_iff.1 h
    obtain ⟨H2, hH, e2⟩ := Option.map_eq_some_iff.1 h
    cases e2
    obtain ⟨w', hr, hE, hR'⟩ := update_out hR hkt hcl hH (ev m (by simp [Op.operands])) (ev k (by simp [Op.operands])) (ev x (by simp [Op.operands]))
    exact ⟨undef, w', ρ, .inr ⟨unit_run hr, rfl⟩, VRel.undef, hE, hR'⟩
  case extract t i =>
    obtain ⟨z, hz, e2⟩ := Option.map_eq_some_iff.1 h
    cases e2
    have hx := ev t (by simp [Op.operands])
    cases hxv : aEv A t <;> rw [hxv] at hz <;> simp only [pExtract] at hz <;> try (cases hz; done)
    rename_i vs
    rw [hxv] at hx
    obtain ⟨ys, hys, hs, he⟩ := hx.tuple_inv
    have hi : i < vs.size := (Array.getElem?_eq_some_iff.1 hz).1
    have hi' : i < ys.size := by omega
    exact Out.pure hR (val_run (by simp [Instr.extract, hys, hi']; rfl)) (he i _ _ hz (by simp [hi']))
  case call c =>
    obtain ⟨callee, args, ats⟩ := c
    simp only at h
    cases callee with
    | value f => exact absurd rfl (hno _ f rfl)
    | invoke r m => simp at h
    | builtin b =>
      simp only at h
      have hl : LRel P ρ (args.toList.map (aEv A)) (args.map a.eval).toList := map_rel (fun x hx => ev x (by simp only [Op.operands, Call.operands, Array.toList_append, List.mem_append]; exact .inr hx))
      simp only [resolve, Sem.run_bind, Sem.run_pure, Result.andThen_ok, invoke]
      exact builtin_out hR hl h

/-- **An operation.** -/
theorem op_sound {call : CallF} (hcall : CallOK P G call) {A : List Value} {a : Act} (hA : ActRel ds P ρ A a) (hG : GlobRel ρ G) (hR : Rel P w0 B ρ H w) {o : Oper} (hok : o.op.operands.toList.all (okX G) = true)
    {v : Value} {H' : AH} (h : aOp P call (aEv A) o H = some (v, H')) {next : Act → World → Prop} {Q : Exit → Act → World → Prop}
    (hn : ∀ v' ρ' w', VRel P ρ' v v' → Ext ρ H w ρ' H' w' → Rel P w0 B ρ' H' w' → next (a.put o.dst v') w') : o.wp P a w next Q := by
  by_cases hc : ∃ c f, o.op = .call c ∧ c.callee = .value f
  · obtain ⟨c, f, ho, hcf⟩ := hc
    obtain ⟨dst, op, type, pos, after, guard⟩ := o
    simp only at ho
    subst ho
    obtain ⟨callee, args, ats⟩ := c
    simp only at hcf
    subst hcf
    have ev : ∀ x, x ∈ (Op.call { callee := .value f, args := args, argTypes := ats }).operands.toList → VRel P ρ (aEv A x) (a.eval x) := fun x hx => ev_rel hA hG (List.all_eq_true.1 hok x hx)
    simp only [aOp] at h
    obtain ⟨⟨g, xs⟩, hfa, h⟩ := Option.bind_eq_some_iff.1 h
    simp only at h
    have hl : LRel P ρ (args.toList.map (aEv A)) (args.map a.eval).toList := map_rel (fun x hx => ev x (by simp only [Op.operands, Call.operands, Array.toList_append, List.mem_append]; exact .inr hx))
    obtain ⟨first, captured, hf, hx⟩ := callee_rel hfa (ev f (by simp [Op.operands, Call.operands])) hl
    obtain ⟨⟨fn, hfn, hbody, hname⟩, hcalls⟩ := hcall g xs H v H' h
    have hcl := hcalls w0 B ρ w _ hR hG hx
    have hrun : (execOp a.eval { dst := dst, op := .call { callee := .value f, args := args, argTypes := ats }, type := type, pos := pos, after := after, guard := guard }).run P w =
        .ok (.enter g (first ++ args.map a.eval ++ captured)) w := by
      have hbn : ¬ (fn.body = none) := by intro hb; rw [hb] at hbody; cases hbody
      simp [execOp, resolve, hf, Deferred.ofValue, invoke, callFunc, hfn, hname, hbn]
    unfold Oper.wp
    rw [hrun, Oper.upon_enter]
    have e : (first.toList ++ (args.map a.eval).toList ++ captured.toList).toArray = first ++ args.map a.eval ++ captured := by
      apply Array.ext'; simp
    rw [e] at hcl
    refine hcl.mono ?_
    rintro e w' ⟨v', ρ', rfl, hv, hE, hR'⟩
    exact hn v' ρ' w' hv hE hR'
  · exact wp_of_out (op_out hA hG hR hok (fun c f ho hcf => hc ⟨c, f, ho, hcf⟩) h) hn
end
end Go.Proofs.YthagelbepgcolaaGreatDoor.Gst
/- Regions: the abstract run takes the order of the text; where the model draws an order, a look shows that no other one tells anything else. -/
namespace Go.Proofs.YthagelbepgcolaaGreatDoor.Gst
open Go Go.RowKit
set_option linter.unusedSimpArgs false

def aPut (A : List Value) (d : Option Tmp) (v : Value) : List Value :=
  match d with
  | some d => A.set d v
  | none => A
def aYield (ops : Array Oper) (A : List Value) (j : Nat) : Option Bool :=
  match ((ops[j]?).bind (·.dst)).bind (A[·]?) with
  | some (.bool b) => some b
  | _ => none
def aStep (P : Program) (G : List Nat) (call : CallF) (ops : Array Oper) (o : Oper) (A : List Value) (H : AH) : Option (List Value × AH) :=
  if o.op.operands.toList.all (okX G) = true then
    if Region.wanted o (aYield ops A) = true then (aOp P call (aEv A) o H).map fun r => (aPut A o.dst r.1, r.2) else some (aPut A o.dst undef, H)
  else none
def aOps (P : Program) (G : List Nat) (call : CallF) (ops : Array Oper) : List Oper → List Value → AH → Option (List Value × AH)
  | [], A, H => some (A, H)
  | o :: rest, A, H => (aStep P G call ops o A H).bind fun s => aOps P G call ops rest s.1 s.2

section
variable {ds : List Deferred} {P : Program} {w0 : World} {B : Nat} {ρ : Ren} {H : AH} {w : World} {G : List Nat} {call : CallF}

theorem put_rel {A : List Value} {a : Act} (hA : ActRel ds P ρ A a) (d : Option Tmp) {v v' : Value} (hv : VRel P ρ v v') : ActRel ds P ρ (aPut A d v) (a.put d v') := by
  cases d with
  | none => exact hA
  | some d => exact ⟨by simpa [Act.put, aPut] using hA.tmps.set d hv, hA.defers⟩

theorem yield_rel {A : List Value} {a : Act} (hA : ActRel ds P ρ A a) (ops : Array Oper) (j : Nat) : yielded ops a.tmps j = aYield ops A j := by
  unfold yielded aYield
  cases hd : (ops[j]?).bind (·.dst) with
  | none => rfl
  | some t =>
    simp only [Option.bind_some]
    cases hx : A[t]? with
    | none =>
      have : a.tmps[t]? = none := by
        rw [List.getElem?_eq_none_iff] at hx
        have := hA.tmps.1
        rw [Array.getElem?_eq_none_iff]
        simp at this; omega
      rw [this]
    | some x =>
      obtain ⟨y, hy, hv⟩ := hA.tmps.get hx
      rw [Array.getElem?_toList] at hy
      rw [hy]
      cases hv with
      | lit h => rfl
      | _ => rfl

theorem wanted_rel {A : List Value} {a : Act} (hA : ActRel ds P ρ A a) (ops : Array Oper) (o : Oper) : Region.wanted o (yielded ops a.tmps) = Region.wanted o (aYield ops A) := by
  unfold Region.wanted
  cases o.guard with
  | none => rfl
  | some g => simp only [yield_rel hA]

/-- What stands behind a piece of the run: another world of the shape that the abstract run has come to. -/
def Post (ds : List Deferred) (P : Program) (w0 : World) (B : Nat) (G : List Nat) (ρ : Ren) (H : AH) (w : World) (A' : List Value) (H' : AH) (a' : Act) (w' : World) : Prop :=
  ∃ ρ', ActRel ds P ρ' A' a' ∧ GlobRel ρ' G ∧ Ext ρ H w ρ' H' w' ∧ Rel P w0 B ρ' H' w'

theorem ops_sound (hcall : CallOK P G call) (ops : Array Oper) {Q : Exit → Act → World → Prop} : ∀ (l : List Oper) {ρ : Ren} {A : List Value} {H : AH} {a : Act} {w : World} {A' : List Value} {H' : AH}, aOps P G call ops l A H = some (A', H') →
    ActRel ds P ρ A a → GlobRel ρ G → Rel P w0 B ρ H w → (∀ a' w', Post ds P w0 B G ρ H w A' H' a' w' → Q .normal a' w') → wpList P ops Q l a w := by
  intro l
  induction l with
  | nil =>
    intro ρ A H a w A' H' h hA hG hR hQ
    simp only [aOps] at h
    cases h
    exact hQ a w ⟨ρ, hA, hG, Ext.refl _ _ _, hR⟩
  | cons o rest ih =>
    intro ρ A H a w A' H' h hA hG hR hQ
    simp only [aOps] at h
    obtain ⟨⟨A1, H1⟩, hs, h⟩ := Option.bind_eq_some_iff.1 h
    simp only at h
    unfold aStep at hs
    split at hs
    · rename_i hok
      unfold wpList
      rw [wanted_rel hA]
      split at hs
      · rename_i hw
        rw [if_pos hw]
        obtain ⟨⟨v, H2⟩, ho, e⟩ := Option.map_eq_some_iff.1 hs
        cases e
        refine .inl (op_sound hcall hA hG hR hok ho (fun v' ρ' w' hv hE hR' => ?_))
        refine ih h (put_rel (hA.mono hE.le) o.dst hv) (hG.mono hE.le) hR' (fun a' w'' hp => ?_)
        obtain ⟨ρ'', h1, h2, h3, h4⟩ := hp
        exact hQ a' w'' ⟨ρ'', h1, h2, hE.trans hR h3, h4⟩
      · rename_i hw
        rw [if_neg hw]
        cases hs
        exact ih h (put_rel hA o.dst VRel.undef) hG hR hQ
    · cases hs

theorem region_text (hcall : CallOK P G call) {id : Nat} {ops : Array Oper} {Q : Exit → Act → World → Prop} {A : List Value} {a : Act} {A' : List Value} {H' : AH} (h : aOps P G call ops ops.toList A H = some (A', H'))
    (hA : ActRel ds P ρ A a) (hG : GlobRel ρ G) (hR : Rel P w0 B ρ H w) (hQ : ∀ a' w', Post ds P w0 B G ρ H w A' H' a' w' → Q .normal a' w') : (Code.region id ops false).wp P Q a w :=
  wp_region_list (ops_sound hcall ops ops.toList h hA hG hR hQ)
end
end Go.Proofs.YthagelbepgcolaaGreatDoor.Gst
/- Kinds of operations; which of them wait for which; the trace of a region. -/
namespace Go.Proofs.YthagelbepgcolaaGreatDoor.Gst
open Go Go.RowKit
set_option linter.unusedSimpArgs false

/-- 0: it touches no memory · 1: a new block · 2: it reads · 3: all else. -/
def opK : Op → Nat
  | .move _ | .assign _ | .pick .. | .build .. | .nilCheck _ | .binOp .. | .unOp .. | .convert .. | .makeFunc .. | .slice .. | .fieldAddr .. | .field .. | .indexAddr .. | .index .. | .extract .. => 0
  | .alloc _ | .box .. | .buildSlice .. | .makeMap .. | .makeSlice .. => 1
  | .load .. | .lookup .. => 2
  | .call c => match c.callee with
    | .builtin .max | .builtin .min => 0
    | .builtin .len => 2
    | _ => 3
  | _ => 3

/-- What a reading operation reads. -/
def aRd (P : Program) (ev : Operand → Value) (op : Op) (H : AH) : Option Value :=
  match op with
  | .load t a => (aggOf P t).bind fun g => match g with
    | some n => pLdN n (ev a) H
    | none => pLd1 (ev a) H
  | .lookup t m k ok => (mapTypes P t).bind fun kt => (flatKey P kt.1).bind fun fl => (zeroOf P kt.2).bind fun z => pLookup fl z (ev m) (ev k) ok H
  | .call c => match c.args.toList.map ev with
    | [x] => match (c.argTypes[0]?).bind fun t => P.underlying t with
      | some (.slice _) => match x with | .slice _ _ _ => pLen x | _ => none
      | some .string => match x with | .string _ => pLen x | _ => none
      | some (.map _ _) => pLenM x H
      | _ => none
    | _ => none
  | _ => none

/-- The block that it reads. -/
def rdBlk (ev : Operand → Value) (op : Op) : Option Nat :=
  match op with
  | .load _ a => (pAt (ev a)).map (·.1)
  | .lookup _ m _ _ => match ev m with | .map r => r | _ => none
  | .call c => match c.args.toList.map ev with
    | [.map r] => r
    | _ => none
  | _ => none

section
variable {P : Program} {w0 : World} {B : Nat} {ρ : Ren} {H : AH} {w : World} {G : List Nat} {call : CallF}

theorem aOp_rd {ev : Operand → Value} {o : Oper} (hk : opK o.op = 2) (H : AH) : aOp P call ev o H = (aRd P ev o.op H).map (·, H) := by
  obtain ⟨dst, op, type, pos, after, guard⟩ := o
  simp only at hk ⊢
  cases op <;> simp [opK] at hk
  case load t a =>
    simp only [aOp, aRd]
    cases aggOf P t with
    | none => rfl
    | some g => cases g <;> rfl
  case lookup t m k ok =>
    simp only [aOp, aRd]
    cases mapTypes P t with
    | none => rfl
    | some kt =>
      simp only [Option.bind_some]
      cases flatKey P kt.1 with
      | none => rfl
      | some fl =>
        simp only [Option.bind_some]
        cases zeroOf P kt.2 with
        | none => rfl
        | some z => rfl
  case call c =>
    obtain ⟨callee, args, ats⟩ := c
    cases callee <;> simp at hk
    rename_i b
    cases b <;> simp at hk
    simp only [aOp, aRd]
    generalize args.toList.map ev = xs
    unfold aBuiltin
    match xs with
    | [] => rfl
    | [x] =>
      simp only
      cases hb : (ats[0]?).bind fun t => P.underlying t with
      | none => rfl
      | some d => cases d <;> simp only <;> first | rfl | (cases x <;> rfl)
    | x :: y :: zs => rfl

theorem rd_same {ev : Operand → Value} {op : Op} {H1 H2 : AH} (h : ∀ b, rdBlk ev op = some b → H2.get b = H1.get b) : aRd P ev op H2 = aRd P ev op H1 := by
  cases op <;> simp only [aRd]
  case load t a =>
    have e : ∀ b o, pAt (ev a) = some (b, o) → pCells H2 b = pCells H1 b := by
      intro b o hb
      unfold pCells
      rw [h b (by simp [rdBlk, hb])]
    have e1 : pLd1 (ev a) H2 = pLd1 (ev a) H1 := by
      unfold pLd1
      cases hp : pAt (ev a) with
      | none => rfl
      | some x => simp only [Option.bind_some]; rw [e x.1 x.2 hp]
    have e2 : ∀ n, pLdN n (ev a) H2 = pLdN n (ev a) H1 := by
      intro n
      unfold pLdN
      cases hp : pAt (ev a) with
      | none => rfl
      | some x => simp only [Option.bind_some]; rw [e x.1 x.2 hp]
    simp only [e1, e2]
  case lookup t m k ok =>
    have e : pMapOf (ev m) H2 = pMapOf (ev m) H1 := by
      unfold pMapOf
      cases hm : ev m with
      | map r =>
        cases r with
        | none => rfl
        | some b => simp only; rw [h b (by simp [rdBlk, hm])]
      | _ => rfl
    simp only [pLookup, e]
  case call c =>
    have hb : ∀ b, c.args.toList.map ev = [.map (some b)] → H2.get b = H1.get b := fun b hx => h b (by simp only [rdBlk]; rw [hx])
    generalize c.args.toList.map ev = xs at hb
    match xs with
    | [] => rfl
    | [x] =>
      simp only
      have e : pLenM x H2 = pLenM x H1 := by
        unfold pLenM
        cases x with
        | map r =>
          cases r with
          | none => rfl
          | some b => simp only; rw [hb b rfl]
        | _ => rfl
      rw [e]
    | x :: y :: zs => rfl

theorem rd_blk_lt {ev : Operand → Value} {op : Op} {v : Value} (h : aRd P ev op H = some v) {b : Nat} (hb : rdBlk ev op = some b) : b < H.size := by
  cases op <;> simp only [aRd, rdBlk] at h hb <;> try (cases hb; done)
  case load t a =>
    obtain ⟨⟨b', o⟩, hp, e⟩ := Option.map_eq_some_iff.1 hb
    simp only at e
    subst e
    obtain ⟨g, _, h⟩ := Option.bind_eq_some_iff.1 h
    cases g with
    | none =>
      simp only [pLd1, hp, Option.bind_some] at h
      obtain ⟨cs, hc, _⟩ := Option.bind_eq_some_iff.1 h
      obtain ⟨ro, hg⟩ := pCells_some hc
      exact AH.lt_of_get hg
    | some n =>
      simp only [pLdN, hp, Option.bind_some] at h
      obtain ⟨cs, hc, _⟩ := Option.bind_eq_some_iff.1 h
      obtain ⟨ro, hg⟩ := pCells_some hc
      exact AH.lt_of_get hg
  case lookup t m k ok =>
    cases hm : ev m <;> rw [hm] at hb <;> try (cases hb; done)
    simp only at hb
    subst hb
    obtain ⟨kt, _, h⟩ := Option.bind_eq_some_iff.1 h
    obtain ⟨fl, _, h⟩ := Option.bind_eq_some_iff.1 h
    obtain ⟨z, _, h⟩ := Option.bind_eq_some_iff.1 h
    unfold pLookup at h
    split at h
    · obtain ⟨es, hes, _⟩ := Option.bind_eq_some_iff.1 h
      rw [hm] at hes
      simp only [pMapOf] at hes
      split at hes
      · rename_i hg; exact AH.lt_of_get hg
      · cases hes
    · cases h
  case call c =>
    generalize c.args.toList.map ev = xs at h hb
    match xs, h, hb with
    | [x], h, hb =>
      cases x <;> simp only at hb <;> try (cases hb; done)
      subst hb
      simp only at h
      cases hd : (c.argTypes[0]?).bind fun t => P.underlying t with
      | none => simp [hd] at h
      | some d =>
        cases d <;> simp only [hd] at h <;> try (cases h; done)
        simp only [pLenM] at h
        split at h
        · rename_i hg; exact AH.lt_of_get hg
        · cases h
    | [], h, hb => cases h
    | x :: y :: zs, h, hb => cases h

theorem rd_mapped {ev ev' : Operand → Value} {op : Op} (hx : ∀ x ∈ op.operands.toList, VRel P ρ (ev x) (ev' x)) {b : Nat} (hb : rdBlk ev op = some b) : ρ b ≠ none := by
  cases op <;> simp only [rdBlk] at hb <;> try (cases hb; done)
  case load t a =>
    obtain ⟨⟨b', o⟩, hp, e⟩ := Option.map_eq_some_iff.1 hb
    simp only at e
    subst e
    have hv := hx a (by simp [Op.operands])
    rw [pAt_some hp] at hv
    obtain ⟨c, d, sz, h, _⟩ := hv.ptr_inv
    rw [h]; simp
  case lookup t m k ok =>
    have hv := hx m (by simp [Op.operands])
    cases hm : ev m <;> rw [hm] at hb <;> try (cases hb; done)
    simp only at hb
    subst hb
    rw [hm] at hv
    obtain ⟨c, d, sz, h, _⟩ := hv.map_inv
    rw [h]; simp
  case call c =>
    have hv : LRel P ρ (c.args.toList.map ev) (c.args.map ev').toList := map_rel (fun x hxx => hx x (by simp only [Op.operands, Call.operands, Array.toList_append, List.mem_append]; exact .inr hxx))
    generalize c.args.toList.map ev = xs at hb hv
    match xs, hb, hv with
    | [x], hb, hv =>
      cases x <;> simp only at hb <;> try (cases hb; done)
      subst hb
      obtain ⟨x', _, hx'⟩ := one_rel hv rfl
      obtain ⟨c, d, sz, h, _⟩ := hx'.map_inv
      rw [h]; simp
    | [], hb, hv => cases hb
    | x :: y :: zs, hb, hv => cases x <;> cases hb

/-- An operation that touches no memory. -/
theorem aOp_pure {ev : Operand → Value} {o : Oper} (hk : opK o.op = 0) {v : Value} {H' : AH} (h : aOp P call ev o H = some (v, H')) : H' = H ∧ ∀ H2, aOp P call ev o H2 = some (v, H2) := by
  have key : ∀ {x : Option Value} {H H' : AH} {v : Value}, x.map (·, H) = some (v, H') → H' = H ∧ x = some v := by
    intro x H H' v hx
    obtain ⟨y, hy, e⟩ := Option.map_eq_some_iff.1 hx
    cases e
    exact ⟨rfl, hy⟩
  obtain ⟨dst, op, type, pos, after, guard⟩ := o
  simp only at hk
  cases op <;> simp [opK] at hk <;> simp only [aOp] at h ⊢
  case move x => cases h; exact ⟨rfl, fun _ => rfl⟩
  case assign x => cases h; exact ⟨rfl, fun _ => rfl⟩
  case pick => obtain ⟨e, hx⟩ := key h; exact ⟨e, fun _ => by rw [hx]; rfl⟩
  case nilCheck => obtain ⟨e, hx⟩ := key h; exact ⟨e, fun _ => by rw [hx]; rfl⟩
  case binOp => obtain ⟨e, hx⟩ := key h; exact ⟨e, fun _ => by rw [hx]; rfl⟩
  case unOp => obtain ⟨e, hx⟩ := key h; exact ⟨e, fun _ => by rw [hx]; rfl⟩
  case extract => obtain ⟨e, hx⟩ := key h; exact ⟨e, fun _ => by rw [hx]; rfl⟩
  case makeFunc => cases h; exact ⟨rfl, fun _ => rfl⟩
  case convert src dst x =>
    cases hu : P.underlying src with
    | none => simp [hu] at h
    | some d => simp only [hu] at h; obtain ⟨e, hx⟩ := key h; exact ⟨e, fun _ => by simp [hx]⟩
  case build t parts =>
    cases hu : P.underlying t with
    | none => simp [hu] at h
    | some d =>
      cases d <;> simp only [hu] at h ⊢ <;> try (cases h; done)
      · obtain ⟨z, hz, h⟩ := Option.bind_eq_some_iff.1 h
        obtain ⟨e, he, h⟩ := Option.bind_eq_some_iff.1 h
        obtain ⟨y, hy, e2⟩ := Option.map_eq_some_iff.1 h
        cases e2
        exact ⟨rfl, fun _ => by simp [hz, he, hy]⟩
      · obtain ⟨z, hz, h⟩ := Option.bind_eq_some_iff.1 h
        obtain ⟨e, he, h⟩ := Option.bind_eq_some_iff.1 h
        obtain ⟨y, hy, e2⟩ := Option.map_eq_some_iff.1 h
        cases e2
        exact ⟨rfl, fun _ => by simp [hz, he, hy]⟩
  case slice t x lo hi mx =>
    cases mx with
    | none =>
      simp only at h ⊢
      obtain ⟨z, hz, h⟩ := Option.bind_eq_some_iff.1 h
      obtain ⟨e, he, h⟩ := Option.bind_eq_some_iff.1 h
      obtain ⟨e2, hx⟩ := key h
      exact ⟨e2, fun _ => by simp [hz, he, hx]⟩
    | some m =>
      cases lo with
      | some l => cases hi <;> simp at h
      | none =>
        cases hi with
        | none => simp at h
        | some hi =>
          simp only at h ⊢
          obtain ⟨z, hz, h⟩ := Option.bind_eq_some_iff.1 h
          obtain ⟨e, he, h⟩ := Option.bind_eq_some_iff.1 h
          obtain ⟨e2, hx⟩ := key h
          exact ⟨e2, fun _ => by simp [hz, he, hx]⟩
  case fieldAddr s x f =>
    obtain ⟨z, hz, h⟩ := Option.bind_eq_some_iff.1 h
    obtain ⟨n, hn, h⟩ := Option.bind_eq_some_iff.1 h
    split at h
    · cases h
    · rename_i h0
      obtain ⟨e2, hx⟩ := key h
      exact ⟨e2, fun _ => by simp [hz, hn, h0, hx]⟩
  case field s x f =>
    obtain ⟨z, hz, h⟩ := Option.bind_eq_some_iff.1 h
    obtain ⟨n, hn, h⟩ := Option.bind_eq_some_iff.1 h
    obtain ⟨e2, hx⟩ := key h
    exact ⟨e2, fun _ => by simp [hz, hn, hx]⟩
  case indexAddr t x i =>
    cases hu : P.underlying t with
    | none => simp [hu] at h
    | some d =>
      cases d <;> simp only [hu] at h ⊢ <;> try (cases h; done)
      · obtain ⟨n, hn, h⟩ := Option.bind_eq_some_iff.1 h
        obtain ⟨e2, hx⟩ := key h
        exact ⟨e2, fun _ => by simp [hn, hx]⟩
      · obtain ⟨n, hn, h⟩ := Option.bind_eq_some_iff.1 h
        obtain ⟨e2, hx⟩ := key h
        exact ⟨e2, fun _ => by simp [hn, hx]⟩
  case index t x i =>
    cases hu : P.underlying t with
    | none => simp [hu] at h
    | some d =>
      cases d <;> simp only [hu] at h ⊢ <;> try (cases h; done)
      · obtain ⟨e2, hx⟩ := key h
        exact ⟨e2, fun _ => by simp [hx]⟩
      · obtain ⟨n, hn, h⟩ := Option.bind_eq_some_iff.1 h
        obtain ⟨m, hm, h⟩ := Option.bind_eq_some_iff.1 h
        obtain ⟨e2, hx⟩ := key h
        exact ⟨e2, fun _ => by simp [hn, hm, hx]⟩
  case call c =>
    obtain ⟨callee, args, ats⟩ := c
    cases callee <;> simp at hk
    rename_i b
    cases b <;> simp at hk
    · simp only at h ⊢
      generalize args.toList.map ev = xs at h ⊢
      unfold aBuiltin at h ⊢
      obtain ⟨e, hx⟩ := key h
      exact ⟨e, fun _ => by simp [hx]⟩
    · simp only at h ⊢
      generalize args.toList.map ev = xs at h ⊢
      unfold aBuiltin at h ⊢
      obtain ⟨e, hx⟩ := key h
      exact ⟨e, fun _ => by simp [hx]⟩
end
end Go.Proofs.YthagelbepgcolaaGreatDoor.Gst
/- New blocks; operations look at their operands alone; which operation is forced ahead of which. -/
namespace Go.Proofs.YthagelbepgcolaaGreatDoor.Gst
open Go Go.RowKit
set_option linter.unusedSimpArgs false
section
variable {ds : List Deferred} {P : Program} {w0 : World} {B : Nat} {ρ : Ren} {H : AH} {w : World} {G : List Nat} {call : CallF}

/-- A new block: what it holds hangs on the operands alone. -/
theorem alloc_spec {A : List Value} {a : Act} (hA : ActRel ds P ρ A a) (hG : GlobRel ρ G) {o : Oper} (hok : o.op.operands.toList.all (okX G) = true) (hk : opK o.op = 1) {v : Value} {H' : AH} (h : aOp P call (aEv A) o H = some (v, H')) :
    ∃ c : AObj, c.rw = true ∧ H' = H.push c ∧ ∀ w : World, ∃ ob sz v', (execOp a.eval o).run P w = .ok (.value v') (w.alloc ob) ∧ ORel P ρ 0 sz c (some ob) ∧
      ∀ ρ' : Ren, ρ' H.size = some (w.heap.size, 0, sz) → VRel P ρ' v v' := by
  obtain ⟨dst, op, type, pos, after, guard⟩ := o
  simp only at hok hk
  have ev : ∀ x, x ∈ op.operands.toList → VRel P ρ (aEv A x) (a.eval x) := fun x hx => ev_rel hA hG (List.all_eq_true.1 hok x hx)
  have cells : ∀ {cs cs' : List Value} {el : TypeId}, LRel P ρ cs cs' → ORel P ρ 0 cs'.length (.cells false cs) (some (.cells cs'.toArray el)) := by
    intro cs cs' el hl
    exact ⟨_, el, (0, 0), rfl, by simp, by rw [hl.1]; omega, fun _ => rfl, by rw [hl.1]; simpa using hl⟩
  cases op <;> simp [opK] at hk <;> simp only [aOp] at h <;> simp only [execOp]
  case alloc t =>
    obtain ⟨z, hz, e⟩ := Option.map_eq_some_iff.1 h
    cases e
    obtain ⟨i, hi, hzi, hlit, _⟩ := zeroOf_info hz
    refine ⟨_, rfl, rfl, fun w => ⟨.cells z.cells.toList.toArray t, _, .pointer (some ⟨w.heap.size, 0, none⟩), val_run ?_, cells (LRel.of_all hlit), fun ρ' hρ => .ptr (d := 0) (o := 0) hρ⟩⟩
    simp [Instr.alloc, zeroOf_run hz, newVar, newRow]
  case box t x =>
    cases h
    refine ⟨_, rfl, rfl, fun w => ⟨.cells (a.eval x).cells.toList.toArray t, _, .pointer (some ⟨w.heap.size, 0, none⟩), val_run ?_, cells (ev x (by simp [Op.operands])).cells, fun ρ' hρ => .ptr (d := 0) (o := 0) hρ⟩⟩
    simp [Instr.box, newVar, newRow]
  case makeMap t r =>
    cases r with
    | some r => simp at h
    | none =>
      simp only at h
      cases h
      refine ⟨_, rfl, rfl, fun w => ⟨.map #[] 0, 0, .map (some w.heap.size), val_run ?_, ⟨#[], rfl, rfl, fun _ _ _ h => by simp at h⟩, fun ρ' hρ => .map hρ⟩⟩
      simp [Instr.makeMap]
  case buildSlice t len parts =>
    have hx : ∀ x ∈ parts.toList.map (·.2), VRel P ρ (aEv A x) (a.eval x) := fun x hx => ev x (by simpa [Op.operands] using hx)
    obtain ⟨el, hel, h⟩ := Option.bind_eq_some_iff.1 h
    obtain ⟨e, he, h⟩ := Option.bind_eq_some_iff.1 h
    obtain ⟨z, hz, h⟩ := Option.bind_eq_some_iff.1 h
    split at h
    · rename_i hc
      obtain ⟨cs, hcs, e2⟩ := Option.map_eq_some_iff.1 h
      cases e2
      obtain ⟨h0, hze, hbig⟩ := hc
      obtain ⟨i, hi, hzi, hlit, _⟩ := zeroOf_info hz
      obtain ⟨out', ho, hr⟩ := fill_rel _ hcs (lit_flat hlit len) (parts_rel parts hx)
      have hzf := zeros_flat z.cells len (by omega)
      rw [hze] at hzf
      have hza : ((Array.range (len * e)).map fun x => z.cells[x % e]!) = ((List.replicate len z.cells.toList).flatten).toArray := by rw [← hzf]
      have hlo : out'.length = len * e := by
        have hfl : ∀ {parts : List (Nat × Value)} {cells out : List Value}, pFill (fun i => some (i * e, e)) cells parts = some out → out.length = cells.length := by
          intro parts
          induction parts with
          | nil => intro cells out h; simp [pFill] at h; rw [h]
          | cons p parts ih =>
            intro cells out h
            obtain ⟨i, v⟩ := p
            simp only [pFill, Option.bind_some] at h
            split at h
            · rename_i hc
              rw [ih h, splice_length]
              simp; omega
            · cases h
        rw [← hr.1, hfl hcs]
        simp [hze]
      have hnb : ¬ (len * e > 2 ^ 24) := by omega
      refine ⟨_, rfl, rfl, fun w => ⟨.cells out'.toArray el, _, .slice (some ⟨w.heap.size, 0, none⟩) len len, val_run ?_, cells hr, fun ρ' hρ => .slice (d := 0) (o := 0) hρ (by rw [hlo]; omega) (Nat.le_refl _) h0⟩⟩
      by_cases hl0 : len = 0
      · subst hl0
        rw [Nat.zero_mul] at hnb
        have hr0 : (Array.range 0) = (#[] : Array Nat) := rfl
        have ho0 : (List.replicate 0 z.cells.toList).flatten.toArray = (#[] : Array Value) := rfl
        rw [ho0] at ho
        simp only [Instr.buildSlice, Sem.run_bind, run_underlying (elem_some hel), Result.andThen_ok, szOf_run he, Sem.run_ite, Nat.zero_mul, hnb, if_false, Sem.run_pure, if_true, hr0, Array.map_empty, ho, newRow, run_newObj, Nat.zero_add]
        rfl
      have hne : ¬ (len * e = 0) := by
        intro h
        rcases Nat.mul_eq_zero.1 h with h | h <;> omega
      simp only [Instr.buildSlice, Sem.run_bind, run_underlying (elem_some hel), Result.andThen_ok, szOf_run he, Sem.run_ite, hnb, if_false, Sem.run_pure, hne, zeroOf_run hz, hze, hza, ho, newRow, run_newObj, Nat.zero_add]
      rfl
    · cases h
  case makeSlice t l c =>
    obtain ⟨el, hel, h⟩ := Option.bind_eq_some_iff.1 h
    obtain ⟨e, he, h⟩ := Option.bind_eq_some_iff.1 h
    obtain ⟨by', hby, h⟩ := Option.bind_eq_some_iff.1 h
    obtain ⟨z, hz, h⟩ := Option.bind_eq_some_iff.1 h
    have hl := ev l (by simp [Op.operands])
    have hc := ev c (by simp [Op.operands])
    cases hlv : aEv A l <;> rw [hlv] at h <;> simp only [pMake] at h <;> try (cases h; done)
    cases hcv : aEv A c <;> rw [hcv] at h <;> simp only at h <;> try (cases h; done)
    rename_i k1 l0 k2 c0
    rw [hlv] at hl
    rw [hcv] at hc
    split at h
    · rename_i hcond
      obtain ⟨h0, rfl, hbig, hroom, hpos, hzl⟩ := hcond
      cases h
      rw [hl.int_inv, hc.int_inv]
      obtain ⟨i, hi, hzi, hlit, _⟩ := zeroOf_info hz
      have hie := size_some he hi
      have hib := bytes_some hby hi
      unfold room at hbig hroom
      have hln : l0 = (l0.toNat : Int) := by omega
      have hbytes : (i.bytes : Int) * l0 ≤ 281474976710656 := by
        rw [hib, hln, ← Int.natCast_mul]
        have : by' * l0.toNat ≤ 140737488355328 := by rw [Nat.mul_comm]; exact hbig
        omega
      have hzs : z.cells.size = e := by simpa using hzl
      have hm : madeCells z.cells (l0.toNat * i.size) = ((List.replicate l0.toNat z.cells.toList).flatten).toArray := by
        have hzf := zeros_flat z.cells l0.toNat (by omega)
        rw [hzs] at hzf
        unfold madeCells
        rw [hie, ← hzf, hzs]
      refine ⟨_, rfl, rfl, fun w => ⟨.cells ((List.replicate l0.toNat z.cells.toList).flatten).toArray el, _, .slice (some ⟨w.heap.size, 0, none⟩) l0.toNat l0.toNat, val_run ?_, cells (lit_flat hlit l0.toNat), fun ρ' hρ => .slice (d := 0) (o := 0) hρ (by simp [hzs]) (Nat.le_refl _) hpos⟩⟩
      have hrun := run_make (P := P) w t el i z (elem_some hel) hi hzi k1 k2 l0 l0 h0 (Int.le_refl _) hbytes (by omega)
      rw [hm] at hrun
      exact hrun
    · cases h
  case call c =>
    obtain ⟨callee, args, ats⟩ := c
    cases callee <;> simp at hk
    rename_i b
    cases b <;> simp at hk

/-- An operation looks at its operands alone. -/
theorem aOp_congr {ev ev' : Operand → Value} {o : Oper} (h : ∀ x ∈ o.op.operands.toList, ev x = ev' x) (H : AH) : aOp P call ev o H = aOp P call ev' o H := by
  obtain ⟨dst, op, type, pos, after, guard⟩ := o
  simp only at h
  have pairs : ∀ ps : Array (Nat × Operand), (∀ x ∈ ps.toList.map (·.2), ev x = ev' x) → (ps.toList.map fun p => (p.1, ev p.2)) = ps.toList.map fun p => (p.1, ev' p.2) := by
    intro ps hp
    apply List.map_congr_left
    intro p hm
    rw [hp p.2 (List.mem_map.2 ⟨p, hm, rfl⟩)]
  cases op <;> simp only [aOp] <;> simp only [Op.operands] at h
  case build t ps => simp only [pairs ps (fun x hx => h x (by simpa using hx))]
  case buildSlice t n ps => simp only [pairs ps (fun x hx => h x (by simpa using hx))]
  case makeFunc fn first captured =>
    rw [Array.map_congr_left (xs := first) (f := ev) (g := ev') fun x hx => h x (by simp; exact .inl hx), Array.map_congr_left (xs := captured) (f := ev) (g := ev') fun x hx => h x (by simp; exact .inr hx)]
  case call c =>
    have hargs : c.args.toList.map ev = c.args.toList.map ev' := List.map_congr_left fun x hx => h x (by simp only [Call.operands, Array.toList_append, List.mem_append]; exact .inr hx)
    cases hc : c.callee with
    | value f => simp only [hargs, h f (by simp [Call.operands, hc])]
    | invoke r m => rfl
    | builtin b => simp only [hargs]
  case makeMap t r => cases r <;> rfl
  case slice t x lo hi mx =>
    have hx := h x (by simp)
    cases lo <;> cases hi <;> cases mx <;> simp_all
  all_goals (first | rfl | (simp_all; done))

theorem aRd_congr {ev ev' : Operand → Value} {op : Op} (h : ∀ x ∈ op.operands.toList, ev x = ev' x) (H : AH) : aRd P ev op H = aRd P ev' op H := by
  cases op <;> simp only [aRd] <;> simp only [Op.operands] at h
  case load t a => rw [h a (by simp)]
  case lookup t m k ok => rw [h m (by simp), h k (by simp)]
  case call c =>
    have hargs : c.args.toList.map ev = c.args.toList.map ev' := List.map_congr_left fun x hx => h x (by simp only [Call.operands, Array.toList_append, List.mem_append]; exact .inr hx)
    rw [hargs]
theorem rdBlk_congr {ev ev' : Operand → Value} {op : Op} (h : ∀ x ∈ op.operands.toList, ev x = ev' x) : rdBlk ev op = rdBlk ev' op := by
  cases op <;> simp only [rdBlk] <;> simp only [Op.operands] at h
  case load t a => rw [h a (by simp)]
  case lookup t m k ok => rw [h m (by simp)]
  case call c =>
    have hargs : c.args.toList.map ev = c.args.toList.map ev' := List.map_congr_left fun x hx => h x (by simp only [Call.operands, Array.toList_append, List.mem_append]; exact .inr hx)
    rw [hargs]

/-- A call's heap does not shrink. -/
def CallMono (call : CallF) : Prop := ∀ f args H v H', call f args H = some (v, H') → H.size ≤ H'.size

theorem aOp_mono (hm : CallMono call) {ev : Operand → Value} {o : Oper} {H H' : AH} {v : Value} (h : aOp P call ev o H = some (v, H')) : H.size ≤ H'.size := by
  have key : ∀ {x : Option Value} {H H' : AH} {v : Value}, x.map (·, H) = some (v, H') → H.size ≤ H'.size := by
    intro x H H' v hx
    obtain ⟨y, hy, e⟩ := Option.map_eq_some_iff.1 hx
    cases e
    exact Nat.le_refl _
  by_cases hk : opK o.op = 0
  · rw [(aOp_pure hk h).1]; exact Nat.le_refl _
  by_cases hk2 : opK o.op = 2
  · rw [aOp_rd hk2] at h; exact key h
  obtain ⟨dst, op, type, pos, after, guard⟩ := o
  simp only at hk hk2
  cases op <;> simp [opK] at hk hk2 <;> simp only [aOp] at h <;> try (cases h; done)
  case alloc t => obtain ⟨z, hz, e⟩ := Option.map_eq_some_iff.1 h; cases e; rw [AH.size_push]; omega
  case box t x => cases h; rw [AH.size_push]; omega
  case makeMap t r =>
    cases r with
    | some r => simp at h
    | none => simp only at h; cases h; rw [AH.size_push]; omega
  case buildSlice t n ps =>
    obtain ⟨el, hel, h⟩ := Option.bind_eq_some_iff.1 h
    obtain ⟨e, he, h⟩ := Option.bind_eq_some_iff.1 h
    obtain ⟨z, hz, h⟩ := Option.bind_eq_some_iff.1 h
    split at h
    · obtain ⟨cs, hcs, e2⟩ := Option.map_eq_some_iff.1 h
      cases e2
      rw [AH.size_push]; omega
    · cases h
  case makeSlice t l c =>
    obtain ⟨el, hel, h⟩ := Option.bind_eq_some_iff.1 h
    obtain ⟨e, he, h⟩ := Option.bind_eq_some_iff.1 h
    obtain ⟨by', hby, h⟩ := Option.bind_eq_some_iff.1 h
    obtain ⟨z, hz, h⟩ := Option.bind_eq_some_iff.1 h
    unfold pMake at h
    split at h
    · split at h
      · cases h; rw [AH.size_push]; omega
      · cases h
    · cases h
  case store t x y =>
    obtain ⟨n, hn, h⟩ := Option.bind_eq_some_iff.1 h
    obtain ⟨H2, hH, e⟩ := Option.map_eq_some_iff.1 h
    cases e
    unfold pSt at hH
    obtain ⟨a, ha, hH⟩ := Option.bind_eq_some_iff.1 hH
    split at hH
    · split at hH
      · cases hH; rw [AH.size_set]; exact Nat.le_refl _
      · cases hH
    · cases hH
  case mapUpdate t m k x =>
    obtain ⟨kt, hkt, h⟩ := Option.bind_eq_some_iff.1 h
    obtain ⟨cl, hcl, h⟩ := Option.bind_eq_some_iff.1 h
    obtain ⟨H2, hH, e⟩ := Option.map_eq_some_iff.1 h
    cases e
    unfold pUpdate at hH
    split at hH
    · split at hH
      · split at hH
        · obtain ⟨r, hr, e⟩ := Option.map_eq_some_iff.1 hH
          cases r with
          | none => subst e; rw [AH.size_set]; exact Nat.le_refl _
          | some p => subst e; rw [AH.size_set]; exact Nat.le_refl _
        · cases hH
      · cases hH
    · cases hH
  case call c =>
    obtain ⟨callee, args, ats⟩ := c
    simp only at h
    cases callee with
    | value f =>
      simp only at h
      obtain ⟨fa, hfa, h⟩ := Option.bind_eq_some_iff.1 h
      exact hm _ _ _ _ _ h
    | invoke r m => simp at h
    | builtin b =>
      simp only at h
      unfold aBuiltin at h
      split at h
      · simp at hk2
      · simp at hk
      · simp at hk
      · obtain ⟨t0, ht0, h⟩ := Option.bind_eq_some_iff.1 h
        obtain ⟨el, hel, h⟩ := Option.bind_eq_some_iff.1 h
        obtain ⟨e, he, h⟩ := Option.bind_eq_some_iff.1 h
        obtain ⟨by', hby, h⟩ := Option.bind_eq_some_iff.1 h
        obtain ⟨z, hz, h⟩ := Option.bind_eq_some_iff.1 h
        split at h
        · unfold pApp at h
          obtain ⟨r, hr, h⟩ := Option.bind_eq_some_iff.1 h
          split at h
          · split at h
            · split at h
              · split at h
                · cases h; exact Nat.le_refl _
                · split at h
                  · cases h; rw [AH.size_push]; omega
                  · cases h
              · cases h
            · split at h
              · cases h; exact Nat.le_refl _
              · split at h
                · split at h
                  · cases h; rw [AH.size_push]; omega
                  · cases h
                · split at h
                  · split at h
                    · cases h; rw [AH.size_push, AH.size_set]; omega
                    · cases h
                  · cases h
            · cases h
          · cases h
        · cases h
      · obtain ⟨t0, ht0, h⟩ := Option.bind_eq_some_iff.1 h
        obtain ⟨kt, hkt, h⟩ := Option.bind_eq_some_iff.1 h
        obtain ⟨cl, hcl, h⟩ := Option.bind_eq_some_iff.1 h
        obtain ⟨H2, hH, e⟩ := Option.map_eq_some_iff.1 h
        cases e
        unfold pDelete at hH
        split at hH
        · split at hH
          · split at hH
            · obtain ⟨r, hr, e⟩ := Option.map_eq_some_iff.1 hH
              cases r with
              | none => subst e; rw [AH.size_set]; exact Nat.le_refl _
              | some p => subst e; rw [AH.size_set]; exact Nat.le_refl _
            · cases hH
          · cases hH
        · cases hH
      · cases h
end

/-! ### Which operation is forced ahead of which -/
def maskOf (acc : List Nat) (o : Oper) : Nat := o.after.toList.foldl (fun s e => if Region.binds .any e && decide (e.on < acc.length) then s ||| (2 ^ e.on ||| acc.getD e.on 0) else s) 0
def masksOf (ops : List Oper) : List Nat := ops.foldl (fun acc o => acc ++ [maskOf acc o]) []
def fb (ms : List Nat) (i j : Nat) : Bool := (ms.getD j 0).testBit i

theorem maskOf_bit {acc : List Nat} {o : Oper} {i : Nat} (h : (maskOf acc o).testBit i = true) : ∃ e ∈ o.after, Region.binds .any e = true ∧ e.on < acc.length ∧ (i = e.on ∨ (acc.getD e.on 0).testBit i = true) := by
  have key : ∀ (l : List Edge) (s : Nat), (l.foldl (fun s e => if Region.binds .any e && decide (e.on < acc.length) then s ||| (2 ^ e.on ||| acc.getD e.on 0) else s) s).testBit i = true →
      s.testBit i = true ∨ ∃ e ∈ l, Region.binds .any e = true ∧ e.on < acc.length ∧ (i = e.on ∨ (acc.getD e.on 0).testBit i = true) := by
    intro l
    induction l with
    | nil => intro s h; exact .inl h
    | cons e l ih =>
      intro s h
      rw [List.foldl_cons] at h
      rcases ih _ h with h1 | ⟨e', he', hh⟩
      · split at h1
        · rename_i hc
          simp only [Bool.and_eq_true, decide_eq_true_eq] at hc
          rw [Nat.testBit_or, Nat.testBit_or, Nat.testBit_two_pow] at h1
          simp only [Bool.or_eq_true, decide_eq_true_eq] at h1
          rcases h1 with h1 | h1 | h1
          · exact .inl h1
          · exact .inr ⟨e, by simp, hc.1, hc.2, .inl h1.symm⟩
          · exact .inr ⟨e, by simp, hc.1, hc.2, .inr h1⟩
        · exact .inl h1
      · exact .inr ⟨e', by simp [he'], hh⟩
  rcases key o.after.toList 0 h with h | ⟨e, he, hh⟩
  · simp at h
  · exact ⟨e, by simpa using he, hh⟩

theorem rev_ind {α : Type} {p : List α → Prop} (h0 : p []) (h1 : ∀ l a, p l → p (l ++ [a])) (l : List α) : p l := by
  have key : ∀ m : List α, p m.reverse := by
    intro m
    induction m with
    | nil => exact h0
    | cons a m ih => rw [List.reverse_cons]; exact h1 _ _ ih
  have := key l.reverse
  rwa [List.reverse_reverse] at this

theorem masks_snoc (l : List Oper) (o : Oper) : masksOf (l ++ [o]) = masksOf l ++ [maskOf (masksOf l) o] := by
  unfold masksOf; rw [List.foldl_append]; rfl
theorem masks_length : ∀ l : List Oper, (masksOf l).length = l.length := by
  refine rev_ind rfl (fun l o ih => ?_)
  rw [masks_snoc]; simp [ih]

theorem masks_at : ∀ (l : List Oper) (j : Nat) (o : Oper), l[j]? = some o → (masksOf l).getD j 0 = maskOf (masksOf (l.take j)) o := by
  refine rev_ind (fun j o h => by simp at h) (fun l o' ih => ?_)
  · intro j o h
    rw [masks_snoc]
    by_cases hj : j < l.length
    · rw [List.getElem?_append_left hj] at h
      have e1 : (masksOf l ++ [maskOf (masksOf l) o']).getD j 0 = (masksOf l).getD j 0 := by
        rw [List.getD_eq_getElem?_getD, List.getElem?_append_left (by rw [masks_length]; exact hj), ← List.getD_eq_getElem?_getD]
      rw [e1, ih j o h, List.take_append_of_le_length (by omega)]
    · have hl : j = l.length := by
        have := (List.getElem?_eq_some_iff.1 h).1
        simp at this; omega
      subst hl
      simp at h
      subst h
      rw [List.getD_eq_getElem?_getD, List.getElem?_append_right (by rw [masks_length]; exact Nat.le_refl _), masks_length]
      simp

theorem masks_take_getD (l : List Oper) (j k : Nat) (hk : k < j) (hj : j ≤ l.length) : (masksOf (l.take j)).getD k 0 = (masksOf l).getD k 0 := by
  have h1 : k < l.length := by omega
  have h2 : (l.take j)[k]? = some l[k] := by rw [List.getElem?_take, if_pos hk, List.getElem?_eq_getElem h1]
  rw [masks_at (l.take j) k _ h2, masks_at l k l[k] (List.getElem?_eq_getElem h1), List.take_take]
  congr 2
  congr 1
  omega

/-- What is forced ahead of what may come up has come up. -/
theorem fb_closed {ops : Array Oper} {L : Nat → Bool} (hcl : ∀ k o, ops[k]? = some o → L k = true → ∀ e ∈ o.after, Region.binds .any e = true → L e.on = true) :
    ∀ (j : Nat) (o : Oper), ops[j]? = some o → (∀ e ∈ o.after, Region.binds .any e = true → L e.on = true) → ∀ i, fb (masksOf ops.toList) i j = true → L i = true := by
  intro j
  induction j using Nat.strongRecOn with
  | _ j ih =>
    intro o ho hready i hfb
    unfold fb at hfb
    have ho' : ops.toList[j]? = some o := by simpa using ho
    have hj : j < ops.toList.length := (List.getElem?_eq_some_iff.1 ho').1
    rw [masks_at ops.toList j o ho'] at hfb
    obtain ⟨e, he, hb, hlt, hi⟩ := maskOf_bit hfb
    rw [masks_length, List.length_take] at hlt
    have hej : e.on < j := by omega
    have hL := hready e he hb
    rcases hi with rfl | hi
    · exact hL
    · rw [masks_take_getD _ j e.on hej (by omega)] at hi
      have hok : e.on < ops.size := by simp at hj; omega
      exact ih e.on hej ops[e.on] (by simp [hok]) (hcl e.on _ (by simp [hok]) hL) i hi
end Go.Proofs.YthagelbepgcolaaGreatDoor.Gst
/- A region whose order the model draws: whatever order is drawn comes to what the text's order comes to. First part: slots; heaps that meet again. -/
namespace Go.Proofs.YthagelbepgcolaaGreatDoor.Gst
open Go Go.RowKit
set_option linter.unusedSimpArgs false

/-- The operations' ways in the text's order: what each slot, each block then is. -/
structure Tra (P : Program) (G : List Nat) (call : CallF) (ops : Array Oper) where
  s : Nat → List Value × AH
  val : Nat → Value
  step : ∀ i o, ops[i]? = some o → o.op.operands.toList.all (okX G) = true ∧ (s (i + 1)).1 = aPut (s i).1 o.dst (val i) ∧
    ((Region.wanted o (aYield ops (s i).1) = true ∧ aOp P call (aEv (s i).1) o (s i).2 = some (val i, (s (i + 1)).2)) ∨
     (Region.wanted o (aYield ops (s i).1) = false ∧ val i = undef ∧ (s (i + 1)).2 = (s i).2))
  back : ∀ j o, ops[j]? = some o → ∀ e ∈ o.after, Region.binds .any e = true → e.on < j
  pair : ∀ i j oi oj, i < j → ops[i]? = some oi → ops[j]? = some oj → fb (masksOf ops.toList) i j = true ∨ (oi.apart ops oj = true ∧ ¬ (opK oi.op = 3 ∧ opK oj.op = 3))
  look : ∀ j e oj oe, ops[j]? = some oj → ops[e]? = some oe → opK oj.op = 2 → opK oe.op = 3 → fb (masksOf ops.toList) e j = false → fb (masksOf ops.toList) j e = false →
    aRd P (aEv (s j).1) oj.op (s (if e < j then e else e + 1)).2 = aRd P (aEv (s j).1) oj.op (s j).2

section
variable {P : Program} {w0 : World} {B : Nat} {ρ : Ren} {H : AH} {w : World} {G : List Nat} {call : CallF} {ops : Array Oper}

/-- What the slots hold when these operations have come up. -/
def AD (T : Tra P G call ops) (L : Nat → Bool) : Nat → List Value
  | 0 => (T.s 0).1
  | k + 1 => match ops[k]? with
    | some o => if L k = true then aPut (AD T L k) o.dst (T.val k) else AD T L k
    | none => AD T L k

theorem aPut_length (A : List Value) (d : Option Tmp) (v : Value) : (aPut A d v).length = A.length := by cases d <;> simp [aPut]
theorem aPut_ne {A : List Value} {d : Option Tmp} {v : Value} {t : Nat} (h : d ≠ some t) : (aPut A d v)[t]? = A[t]? := by
  cases d with
  | none => rfl
  | some d => simp only [aPut]; rw [List.getElem?_set_ne (fun e => h (by rw [e]))]
theorem aPut_eq {A : List Value} {t : Nat} {v : Value} : (aPut A (some t) v)[t]? = if t < A.length then some v else none := by
  simp only [aPut]
  rw [List.getElem?_set]
  simp

theorem AD_length (T : Tra P G call ops) (L : Nat → Bool) : ∀ k, (AD T L k).length = (T.s 0).1.length := by
  intro k
  induction k with
  | zero => rfl
  | succ k ih =>
    simp only [AD]
    split
    · split
      · rw [aPut_length, ih]
      · exact ih
    · exact ih
theorem s_length (T : Tra P G call ops) : ∀ k, k ≤ ops.size → (T.s k).1.length = (T.s 0).1.length := by
  intro k
  induction k with
  | zero => intro _; rfl
  | succ k ih =>
    intro hk
    have ho : ops[k]? = some ops[k] := by simp [Nat.lt_of_succ_le hk]
    rw [(T.step k _ ho).2.1, aPut_length, ih (by omega)]

theorem AD_at (T : Tra P G call ops) {L : Nat → Bool} {j t : Nat} (hj : j ≤ ops.size) (h1 : ∀ i o, ops[i]? = some o → i < j → o.dst = some t → L i = true) (h2 : ∀ i o, ops[i]? = some o → j ≤ i → o.dst = some t → L i = false) :
    (AD T L ops.size)[t]? = (T.s j).1[t]? := by
  have a1 : ∀ k, k ≤ j → (AD T L k)[t]? = (T.s k).1[t]? := by
    intro k
    induction k with
    | zero => intro _; rfl
    | succ k ih =>
      intro hk
      have hlt : k < ops.size := by omega
      have ho : ops[k]? = some ops[k] := by simp [hlt]
      simp only [AD, ho]
      rw [(T.step k _ ho).2.1]
      by_cases hd : (ops[k]).dst = some t
      · rw [if_pos (h1 k _ ho (by omega) hd), hd, aPut_eq, aPut_eq, AD_length, s_length T k (by omega)]
      · rw [aPut_ne hd]
        split
        · rw [aPut_ne hd]; exact ih (by omega)
        · exact ih (by omega)
  have a2 : ∀ k, j ≤ k → k ≤ ops.size → (AD T L k)[t]? = (AD T L j)[t]? := by
    intro k
    induction k with
    | zero => intro hk _; rw [show j = 0 from by omega]
    | succ k ih =>
      intro hk hs
      by_cases he : j = k + 1
      · rw [he]
      · have hlt : k < ops.size := by omega
        have ho : ops[k]? = some ops[k] := by simp [hlt]
        simp only [AD, ho]
        by_cases hd : (ops[k]).dst = some t
        · rw [if_neg (by rw [h2 k _ ho (by omega) hd]; simp)]; exact ih (by omega) (by omega)
        · split
          · rw [aPut_ne hd]; exact ih (by omega) (by omega)
          · exact ih (by omega) (by omega)
  rw [a2 _ hj (Nat.le_refl _), a1 j (Nat.le_refl _)]

/-- One more operation has come up. -/
theorem AD_set (T : Tra P G call ops) {L : Nat → Bool} {j : Nat} {o : Oper} (ho : ops[j]? = some o) (hj : L j = false) (hlater : ∀ i oi, ops[i]? = some oi → j < i → L i = true → ∀ t, o.dst = some t → oi.dst ≠ some t) :
    AD T (fun i => if i = j then true else L i) ops.size = aPut (AD T L ops.size) o.dst (T.val j) := by
  have key : ∀ k, k ≤ ops.size → AD T (fun i => if i = j then true else L i) k = if j < k then aPut (AD T L k) o.dst (T.val j) else AD T L k := by
    intro k
    induction k with
    | zero => intro _; simp [AD]
    | succ k ih =>
      intro hk
      have hlt : k < ops.size := by omega
      have hok : ops[k]? = some ops[k] := by simp [hlt]
      simp only [AD, hok]
      rw [ih (by omega)]
      by_cases hkj : k = j
      · subst hkj
        rw [ho] at hok
        cases hok
        simp [hj]
      · simp only [if_neg hkj]
        by_cases hjk : j < k
        · have h3 : j < k + 1 := by omega
          rw [if_pos hjk, if_pos h3]
          by_cases hL : L k = true
          · rw [if_pos hL, if_pos hL]
            -- two slots, or none
            cases hd : o.dst with
            | none => rfl
            | some t =>
              have hne := hlater k _ hok hjk hL t hd
              cases hdk : (ops[k]).dst with
              | none => rfl
              | some u =>
                have : t ≠ u := fun e => hne (by rw [hdk, e])
                simp only [aPut]
                rw [List.set_comm _ _ this]
          · rw [if_neg hL, if_neg hL]
        · have h3 : ¬ j < k + 1 := by omega
          rw [if_neg hjk, if_neg h3]
  rw [key _ (Nat.le_refl _), if_pos (by have := (Array.getElem?_eq_some_iff.1 ho).1; omega)]

theorem AD_none (T : Tra P G call ops) : ∀ k, AD T (fun _ => false) k = (T.s 0).1 := by
  intro k
  induction k with
  | zero => rfl
  | succ k ih => simp only [AD]; split <;> simp [ih]

theorem AD_all (T : Tra P G call ops) {L : Nat → Bool} (h : ∀ i, i < ops.size → L i = true) : AD T L ops.size = (T.s ops.size).1 := by
  apply List.ext_getElem?
  intro t
  exact AD_at T (Nat.le_refl _) (fun i o ho hi _ => h i hi) (fun i o ho hi _ => by have := (Array.getElem?_eq_some_iff.1 ho).1; omega)

/-! ### Heaps -/
theorem Rel.agree {H2 : AH} (h : Rel P w0 B ρ H w) (ha : ∀ b x, ρ b = some x → b < H2.size ∧ H2.get b = H.get b) : Rel P w0 B ρ H2 w where
  base := h.base
  below := h.below
  dom := fun b x hx => (ha b x hx).1
  blk := h.blk
  obj := fun b c d sz o hx ho => h.obj b c d sz o hx (by rw [← (ha b _ hx).2]; exact ho)
  own := fun b c d sz o hx ho => h.own b c d sz o hx (by rw [← (ha b _ hx).2]; exact ho)
  ro := fun b c d sz cs hx ho => h.ro b c d sz cs hx (by rw [← (ha b _ hx).2]; exact ho)
  inj := fun b b' c d d' sz sz' o o' hx hx' ho ho' => h.inj b b' c d d' sz sz' o o' hx hx' (by rw [← (ha b _ hx).2]; exact ho) (by rw [← (ha b' _ hx').2]; exact ho')

def Ren.below (ρ : Ren) (m : Nat) : Ren := fun b => if b < m then ρ b else none
theorem Ren.below_some {ρ : Ren} {m b : Nat} {x : Nat × Nat × Nat} (h : ρ.below m b = some x) : b < m ∧ ρ b = some x := by
  unfold Ren.below at h
  split at h
  · exact ⟨by assumption, h⟩
  · cases h
theorem Ren.below_lt {ρ : Ren} {m b : Nat} (h : b < m) : ρ.below m b = ρ b := by simp [Ren.below, h]

theorem VRel.strong {ρ1 ρ2 : Ren} {v v' : Value} (h : VRel P ρ1 v v') (hle : ∀ b x, ρ1 b = some x → ρ2 b = some x) : VRel P ρ2 v v' := h.mono hle

/-- A new block, at a number that was kept for it. -/
theorem Rel.fill (h : Rel P w0 B ρ H w) {b : Nat} (hb : ρ b = none) {o : AObj} {ob : Obj} {sz : Nat} (hrw : o.rw = true) (hnew : ORel P ρ 0 sz o (some ob)) {H2 : AH} (hs : b < H2.size) (hg : H2.get b = some o)
    (ha : ∀ b' x, ρ b' = some x → b' < H2.size ∧ H2.get b' = H.get b') : Rel P w0 B (ρ.upd b (w.heap.size, 0, sz)) H2 (w.alloc ob) := by
  have hB := h.size
  have hle := Ren.upd_le (x := (w.heap.size, 0, sz)) hb
  have hheap : ∀ k, k < w.heap.size → (w.alloc ob).heap[k]? = w.heap[k]? := fun k hk => Below.heap_alloc w ob k hk
  have hlast : (w.alloc ob).heap[w.heap.size]? = some ob := heap_alloc_new w ob
  have cases' : ∀ {b1 x}, ρ.upd b (w.heap.size, 0, sz) b1 = some x → (b1 = b ∧ x = (w.heap.size, 0, sz)) ∨ (b1 ≠ b ∧ ρ b1 = some x) := by
    intro b1 x hx
    by_cases e : b1 = b
    · subst e; rw [Ren.upd_same] at hx; exact .inl ⟨rfl, (Option.some.inj hx).symm⟩
    · rw [Ren.upd_ne e] at hx; exact .inr ⟨e, hx⟩
  refine ⟨h.base, h.below.alloc hB ob, ?_, ?_, ?_, ?_, ?_, ?_⟩
  · intro b1 x hx
    rcases cases' hx with ⟨rfl, _⟩ | ⟨_, hx⟩
    · exact hs
    · exact (ha b1 x hx).1
  · intro b1 c d sz1 hx
    rw [World.size_alloc]
    rcases cases' hx with ⟨rfl, e⟩ | ⟨_, hx⟩
    · cases e; omega
    · have := h.blk b1 c d sz1 hx; omega
  · intro b1 c d sz1 o1 hx ho1
    rcases cases' hx with ⟨rfl, e⟩ | ⟨_, hx⟩
    · cases e; rw [hg] at ho1; cases ho1; rw [hlast]; exact hnew.mono hle
    · rw [(ha b1 _ hx).2] at ho1
      rw [hheap c (h.blk b1 c d sz1 hx)]; exact (h.obj b1 c d sz1 o1 hx ho1).mono hle
  · intro b1 c d sz1 o1 hx ho1 hr1
    rcases cases' hx with ⟨rfl, e⟩ | ⟨_, hx⟩
    · cases e; exact hB
    · rw [(ha b1 _ hx).2] at ho1; exact h.own b1 c d sz1 o1 hx ho1 hr1
  · intro b1 c d sz1 cs hx ho1
    rcases cases' hx with ⟨rfl, e⟩ | ⟨_, hx⟩
    · rw [hg] at ho1; cases ho1; simp [AObj.rw] at hrw
    · rw [(ha b1 _ hx).2] at ho1; exact h.ro b1 c d sz1 cs hx ho1
  · intro b1 b2 c d1 d2 sz1 sz2 o1 o2 hx1 hx2 ho1 ho2 hr1 hr2
    rcases cases' hx1 with ⟨e1, e⟩ | ⟨n1, hx1⟩ <;> rcases cases' hx2 with ⟨e2, e'⟩ | ⟨n2, hx2⟩
    · rw [e1, e2]
    · cases e; have := h.blk _ _ _ _ hx2; omega
    · cases e'; have := h.blk _ _ _ _ hx1; omega
    · rw [(ha b1 _ hx1).2] at ho1; rw [(ha b2 _ hx2).2] at ho2
      exact h.inj _ _ _ _ _ _ _ _ _ hx1 hx2 ho1 ho2 hr1 hr2

/-- A part of the heap has gone a step; the rest lies beside it. -/
theorem Rel.merge {m : Nat} {Hs H' H2 : AH} {ρ' : Ren} {w' : World} (h : Rel P w0 B ρ H w) (hm : m = Hs.size) (hag : ∀ b x, b < m → ρ b = some x → Hs.get b = H.get b)
    (hR : Rel P w0 B ρ' H' w') (hE : Ext (ρ.below m) Hs w ρ' H' w') (hgap : ∀ b, m ≤ b → b < H'.size → ρ b = none) (hs : ∀ b x, ρ b = some x → b < H2.size) (hs' : H'.size ≤ H2.size)
    (hlow : ∀ b, b < H'.size → H2.get b = H'.get b) (hhigh : ∀ b x, H'.size ≤ b → ρ b = some x → H2.get b = H.get b) :
    Rel P w0 B (fun b => if b < H'.size then ρ' b else ρ b) H2 w' := by
  have hHs : m ≤ H'.size := by rw [hm]; exact hE.hsize
  have hle : ∀ b x, ρ b = some x → (fun b => if b < H'.size then ρ' b else ρ b) b = some x := by
    intro b x hx
    by_cases hb : b < H'.size
    · simp only [hb, if_true]
      by_cases hbm : b < m
      · exact hE.le b x (by rw [Ren.below_lt hbm]; exact hx)
      · rw [hgap b (by omega) hb] at hx; cases hx
    · simp only [hb, if_false]; exact hx
  have hle' : ∀ b x, ρ' b = some x → (fun b => if b < H'.size then ρ' b else ρ b) b = some x := by
    intro b x hx
    have := hR.dom b x hx
    simp only [this, if_true]; exact hx
  have cases' : ∀ {b x}, (fun b => if b < H'.size then ρ' b else ρ b) b = some x → (b < H'.size ∧ ρ' b = some x) ∨ (H'.size ≤ b ∧ ρ b = some x) := by
    intro b x hx
    by_cases hb : b < H'.size
    · simp only [hb, if_true] at hx; exact .inl ⟨hb, hx⟩
    · simp only [hb, if_false] at hx; exact .inr ⟨by omega, hx⟩
  -- what lies beside is where nothing is written
  have beside : ∀ {b c d sz o}, H'.size ≤ b → ρ b = some (c, d, sz) → H.get b = some o → o.rw = true → ∀ b1 d1 sz1 o1, ρ' b1 = some (c, d1, sz1) → H'.get b1 = some o1 → o1.rw = true → False := by
    intro b c d sz o hb hx ho hr b1 d1 sz1 o1 hx1 ho1 hr1
    cases hρ : ρ.below m b1 with
    | none =>
      rcases hE.newC b1 c d1 sz1 hx1 hρ with h3 | ⟨b0, d0, sz0, o0, h3, h4, h5⟩
      · have := h.blk b c d sz hx; omega
      · obtain ⟨hb0, h3⟩ := Ren.below_some h3
        rw [hag b0 _ hb0 h3] at h4
        have := h.inj b0 b c d0 d sz0 sz o0 o h3 hx h4 ho h5 hr
        omega
    | some y =>
      have hy : y = (c, d1, sz1) := by have := hE.le b1 y hρ; rw [hx1] at this; exact (Option.some.inj this).symm
      subst hy
      obtain ⟨hb1, hρ⟩ := Ren.below_some hρ
      cases hH : Hs.get b1 with
      | none => rw [hm] at hb1; have := AH.get_none (H := Hs) (b := b1); unfold AH.get AH.size at *; rw [List.getElem?_eq_none_iff] at hH; omega
      | some o2 =>
        cases hr2 : o2.rw with
        | true =>
          rw [hag b1 _ hb1 hρ] at hH
          have := h.inj b1 b c d1 d sz1 sz o2 o hρ hx hH ho hr2 hr
          omega
        | false =>
          have := hE.keepRo b1 o2 hH hr2
          rw [ho1] at this
          cases this
          rw [hr1] at hr2
          cases hr2
  have kept : ∀ {b c d sz}, H'.size ≤ b → ρ b = some (c, d, sz) → (∀ o, H.get b = some o → o.rw = true ∨ o = .dead ∨ c < B) → ∀ o, H.get b = some o → ORel P ρ d sz o w'.heap[c]? := by
    intro b c d sz hb hx hcl o ho
    have h0 := h.obj b c d sz o hx ho
    cases o with
    | dead => trivial
    | map es cl =>
      have e : w'.heap[c]? = w.heap[c]? := by
        refine hE.keepC c (h.blk b c d sz hx) (fun b1 d1 sz1 o1 hx1 ho1 => ?_)
        cases hr1 : o1.rw with
        | false => rfl
        | true =>
          obtain ⟨hb1, hx1⟩ := Ren.below_some hx1
          rw [hag b1 _ hb1 hx1] at ho1
          have := h.inj b1 b c d1 d sz1 sz o1 _ hx1 hx ho1 ho hr1 rfl
          omega
      rw [e]; exact h0
    | cells r cs =>
      have e : w'.heap[c]? = w.heap[c]? := by
        cases r with
        | true =>
          have hc := h.ro b c d sz cs hx ho
          have h1 := hR.below.block c hc
          have h2 := h.below.block c hc
          rw [h1, h2]
        | false =>
          refine hE.keepC c (h.blk b c d sz hx) (fun b1 d1 sz1 o1 hx1 ho1 => ?_)
          cases hr1 : o1.rw with
          | false => rfl
          | true =>
            obtain ⟨hb1, hx1⟩ := Ren.below_some hx1
            rw [hag b1 _ hb1 hx1] at ho1
            have := h.inj b1 b c d1 d sz1 sz o1 _ hx1 hx ho1 ho hr1 rfl
            omega
      rw [e]; exact h0
  refine ⟨h.base, hR.below, ?_, ?_, ?_, ?_, ?_, ?_⟩
  · intro b x hx
    rcases cases' hx with ⟨hb, _⟩ | ⟨_, hx⟩
    · omega
    · exact hs b x hx
  · intro b c d sz hx
    rcases cases' hx with ⟨_, hx⟩ | ⟨_, hx⟩
    · exact hR.blk b c d sz hx
    · have := h.blk b c d sz hx; have := hE.wsize; omega
  · intro b c d sz o hx ho
    rcases cases' hx with ⟨hb, hx⟩ | ⟨hb, hx⟩
    · rw [hlow b hb] at ho; exact (hR.obj b c d sz o hx ho).mono hle'
    · rw [hhigh b _ hb hx] at ho
      refine (kept hb hx (fun o ho => ?_) o ho).mono hle
      cases o with
      | dead => exact .inr (.inl rfl)
      | map es cl => exact .inl rfl
      | cells r cs =>
        cases r with
        | false => exact .inl rfl
        | true => exact .inr (.inr (h.ro b c d sz cs hx ho))
  · intro b c d sz o hx ho hr
    rcases cases' hx with ⟨hb, hx⟩ | ⟨hb, hx⟩
    · rw [hlow b hb] at ho; exact hR.own b c d sz o hx ho hr
    · rw [hhigh b _ hb hx] at ho; exact h.own b c d sz o hx ho hr
  · intro b c d sz cs hx ho
    rcases cases' hx with ⟨hb, hx⟩ | ⟨hb, hx⟩
    · rw [hlow b hb] at ho; exact hR.ro b c d sz cs hx ho
    · rw [hhigh b _ hb hx] at ho; exact h.ro b c d sz cs hx ho
  · intro b1 b2 c d1 d2 sz1 sz2 o1 o2 hx1 hx2 ho1 ho2 hr1 hr2
    rcases cases' hx1 with ⟨hb1, hx1⟩ | ⟨hb1, hx1⟩ <;> rcases cases' hx2 with ⟨hb2, hx2⟩ | ⟨hb2, hx2⟩
    · rw [hlow b1 hb1] at ho1; rw [hlow b2 hb2] at ho2
      exact hR.inj _ _ _ _ _ _ _ _ _ hx1 hx2 ho1 ho2 hr1 hr2
    · rw [hlow b1 hb1] at ho1; rw [hhigh b2 _ hb2 hx2] at ho2
      exact (beside hb2 hx2 ho2 hr2 b1 d1 sz1 o1 hx1 ho1 hr1).elim
    · rw [hhigh b1 _ hb1 hx1] at ho1; rw [hlow b2 hb2] at ho2
      exact (beside hb1 hx1 ho1 hr1 b2 d2 sz2 o2 hx2 ho2 hr2).elim
    · rw [hhigh b1 _ hb1 hx1] at ho1; rw [hhigh b2 _ hb2 hx2] at ho2
      exact h.inj _ _ _ _ _ _ _ _ _ hx1 hx2 ho1 ho2 hr1 hr2
end
end Go.Proofs.YthagelbepgcolaaGreatDoor.Gst
/- Operations that only look; what an operation comes to, without the slots; values whose blocks are old ones. -/
namespace Go.Proofs.YthagelbepgcolaaGreatDoor.Gst
open Go Go.RowKit
set_option linter.unusedSimpArgs false
section
variable {ds : List Deferred} {P : Program} {w0 : World} {B : Nat} {ρ : Ren} {H : AH} {w : World} {G : List Nat} {call : CallF}

def POut (P : Program) (ρ : Ren) (w : World) (r : Result Next) (v : Value) : Prop := ∃ v', r = .ok (.value v') w ∧ VRel P ρ v v'
theorem POut.mk {r : Result Next} {v v' : Value} (hr : r = .ok (.value v') w) (hv : VRel P ρ v v') : POut P ρ w r v := ⟨v', hr, hv⟩

theorem builtin_pure (hR : Rel P w0 B ρ H w) {b : Builtin} {ts : Array TypeId} {t : TypeId} {cs : Array Bool} {xs : List Value} {ys : Array Value} (hl : LRel P ρ xs ys.toList) (hb : b = .len ∨ b = .max ∨ b = .min) {v : Value} {H' : AH} (h : aBuiltin P b ts xs H = some (v, H')) :
    POut P ρ w ((builtin b ts t cs ys).run P w) v := by
  unfold aBuiltin at h
  split at h
  · -- len
    rename_i x
    obtain ⟨x', rfl, hx⟩ := one_rel hl rfl
    cases hts : ts[0]? with
    | none => simp [hts] at h
    | some t0 =>
      simp only [hts, Option.bind_some] at h
      cases hu : P.underlying t0 with
      | none => simp [hu] at h
      | some d =>
        cases d <;> simp only [hu] at h <;> try (cases h; done)
        case string =>
          cases x <;> simp only at h <;> try (cases h; done)
          obtain ⟨y, hy, e⟩ := Option.map_eq_some_iff.1 h
          cases e
          simp [pLen] at hy
          subst hy
          rw [hx.string_inv]
          exact POut.mk (by simp [builtin, Builtin.len_, hts, run_underlying hu, goInt]) (.lit rfl)
        case slice el =>
          cases x <;> simp only at h <;> try (cases h; done)
          obtain ⟨y, hy, e⟩ := Option.map_eq_some_iff.1 h
          cases e
          simp [pLen] at hy
          subst hy
          obtain ⟨a', k', rfl, _⟩ := hx.anyslice_inv
          exact POut.mk (by simp [builtin, Builtin.len_, hts, run_underlying hu, goInt]) (.lit rfl)
        case map k el =>
          obtain ⟨y, hy, e⟩ := Option.map_eq_some_iff.1 h
          cases e
          cases x <;> simp only [pLenM] at hy <;> try (cases hy; done)
          rename_i r
          cases r with
          | none =>
            simp only at hy
            cases hy
            rw [hx.nilmap_inv]
            exact POut.mk (by simp [builtin, Builtin.len_, hts, run_underlying hu, goInt]) (.lit rfl)
          | some b =>
            simp only at hy
            split at hy
            · rename_i es c hg
              cases hy
              obtain ⟨c', d, sz, hb, rfl⟩ := hx.map_inv
              obtain ⟨es', hw, hrel⟩ := hR.map hb hg
              have hsz : es'.size = es.length := by simpa using hrel.1
              exact POut.mk (by simp [builtin, Builtin.len_, hts, run_underlying hu, run_getObj_map hw, goInt, hsz]) (.lit rfl)
            · cases hy
  · obtain ⟨y, hy, e⟩ := Option.map_eq_some_iff.1 h
    cases e
    obtain ⟨hr, hv⟩ := max_out (w := w) hl hy ts t
    exact POut.mk (by simp only [builtin]; exact val_run hr) (.lit hv)
  · obtain ⟨y, hy, e⟩ := Option.map_eq_some_iff.1 h
    cases e
    obtain ⟨hr, hv⟩ := min_out (w := w) hl hy ts t
    exact POut.mk (by simp only [builtin]; exact val_run hr) (.lit hv)
  · rcases hb with hb | hb | hb <;> cases hb
  · rcases hb with hb | hb | hb <;> cases hb
  · cases h

theorem pure_out {call : CallF} {A : List Value} {a : Act} (hA : ActRel ds P ρ A a) (hG : GlobRel ρ G) (hR : Rel P w0 B ρ H w) {o : Oper} (hok : o.op.operands.toList.all (okX G) = true)
    (hk : opK o.op = 0 ∨ opK o.op = 2) {v : Value} {H' : AH} (h : aOp P call (aEv A) o H = some (v, H')) : POut P ρ w ((execOp a.eval o).run P w) v := by
  obtain ⟨dst, op, type, pos, after, guard⟩ := o
  simp only at hok hk
  have ev : ∀ x, x ∈ op.operands.toList → VRel P ρ (aEv A x) (a.eval x) := fun x hx => ev_rel hA hG (List.all_eq_true.1 hok x hx)
  cases op <;> try (simp [opK] at hk; done)
  all_goals simp only [aOp] at h
  all_goals simp only [execOp]
  case move x => cases h; exact POut.mk rfl (ev x (by simp [Op.operands]))
  case assign x => cases h; exact POut.mk rfl (ev x (by simp [Op.operands]))
  case pick c x y =>
    obtain ⟨z, hz, e⟩ := Option.map_eq_some_iff.1 h
    cases e
    have hc := ev c (by simp [Op.operands])
    cases hcv : aEv A c <;> rw [hcv] at hz <;> simp only [pPick] at hz <;> try (cases hz; done)
    rename_i t
    cases hz
    rw [hcv] at hc
    rw [hc.bool_inv]
    cases t
    · exact POut.mk (by simp [asBool]) (ev y (by simp [Op.operands]))
    · exact POut.mk (by simp [asBool]) (ev x (by simp [Op.operands]))
  case build t parts =>
    have hx : ∀ x ∈ parts.toList.map (·.2), VRel P ρ (aEv A x) (a.eval x) := fun x hx => ev x (by simpa [Op.operands] using hx)
    cases hu : P.underlying t with
    | none => simp [hu] at h
    | some d =>
      cases d <;> simp only [hu] at h <;> try (cases h; done)
      case struct fs =>
        obtain ⟨z, hz, h⟩ := Option.bind_eq_some_iff.1 h
        obtain ⟨ps, hps, h⟩ := Option.bind_eq_some_iff.1 h
        obtain ⟨cs, hcs, e⟩ := Option.map_eq_some_iff.1 h
        cases e
        obtain ⟨v', hr, hv⟩ := build_out (w := w) hx hz hu hps hcs
        exact POut.mk (val_run hr) hv
      case array n el =>
        obtain ⟨z, hz, h⟩ := Option.bind_eq_some_iff.1 h
        obtain ⟨e, he, h⟩ := Option.bind_eq_some_iff.1 h
        obtain ⟨cs, hcs, e⟩ := Option.map_eq_some_iff.1 h
        cases e
        obtain ⟨v', hr, hv⟩ := buildArr_out (w := w) hx hz hu he hcs
        exact POut.mk (val_run hr) hv
  case load t x =>
    have hx := ev x (by simp [Op.operands])
    obtain ⟨g, hg, h⟩ := Option.bind_eq_some_iff.1 h
    cases g with
    | none =>
      obtain ⟨y, hy, e⟩ := Option.map_eq_some_iff.1 h
      cases e
      obtain ⟨a', y', ha, hr, hv⟩ := load1 hR hy hx
      exact POut.mk (val_run (by simp [Instr.loadAt, ha, Instr.sureAddr, loadVar, aggOf_none hg]; simpa using hr)) hv
    | some n =>
      obtain ⟨y, hy, e⟩ := Option.map_eq_some_iff.1 h
      cases e
      obtain ⟨a', ys, ha, hr, hv⟩ := loadN hR hy hx
      obtain ⟨hag, hsz⟩ := aggOf_some hg w
      exact POut.mk (val_run (by simp [Instr.loadAt, ha, Instr.sureAddr, loadVar, hag, szOf_run hsz, hr])) hv
  case nilCheck x =>
    have hx := ev x (by simp [Op.operands])
    obtain ⟨y, hy, e⟩ := Option.map_eq_some_iff.1 h
    cases e
    obtain ⟨rfl, hr⟩ := pNil_run hy hx
    have e2 : (nilSem (a.eval x)).run P w = .ok (.value (a.eval x)) w := by rw [hr]; rfl
    exact POut.mk e2 hx
  case binOp op t x y yt =>
    obtain ⟨z, hz, e⟩ := Option.map_eq_some_iff.1 h
    cases e
    obtain ⟨hr, hl⟩ := pBin_run hz (ev x (by simp [Op.operands])) (ev y (by simp [Op.operands])) x y w
    exact POut.mk (val_run hr) (.lit hl)
  case unOp op t x =>
    obtain ⟨z, hz, e⟩ := Option.map_eq_some_iff.1 h
    cases e
    obtain ⟨hr, hl⟩ := pUn_run hz (ev x (by simp [Op.operands])) w
    exact POut.mk (val_run hr) (.lit hl)
  case convert src dst x =>
    cases hu : P.underlying src with
    | none => simp [hu] at h
    | some d =>
      simp only [hu] at h
      obtain ⟨z, hz, e⟩ := Option.map_eq_some_iff.1 h
      cases e
      have hx := ev x (by simp [Op.operands])
      cases hk : kindOf P dst with
      | none => simp [hk, pConv] at hz
      | some k =>
        cases hxv : aEv A x <;> rw [hk, hxv] at hz <;> simp only [pConv] at hz <;> try (cases hz; done)
        rename_i k0 n
        cases hz
        rw [hxv] at hx
        rw [hx.int_inv]
        have hud := kind_some hk
        have hkd : P.intKind dst = k := by simp [Program.intKind, hud]
        have hr := run_convert_int (P := P) w src dst k0 n (by simp [hu]) (by rw [hkd]; exact hud)
        rw [hkd] at hr
        exact POut.mk (val_run hr) (.lit rfl)
  case makeFunc fn first captured =>
    cases h
    refine POut.mk (val_run (by simp [Instr.makeFunc]; rfl)) ?_
    refine .func (by simp) (fun i x y hx hy => ?_) (by simp) (fun i x y hx hy => ?_)
    · simp only [Array.getElem?_map, Option.map_eq_some_iff] at hx hy
      obtain ⟨p, hp, rfl⟩ := hx
      obtain ⟨q, hq, rfl⟩ := hy
      rw [hp] at hq; cases hq
      exact ev p (by simp only [Op.operands, Array.toList_append, List.mem_append]; exact .inl (by simpa using Array.mem_of_getElem? hp))
    · simp only [Array.getElem?_map, Option.map_eq_some_iff] at hx hy
      obtain ⟨p, hp, rfl⟩ := hx
      obtain ⟨q, hq, rfl⟩ := hy
      rw [hp] at hq; cases hq
      exact ev p (by simp only [Op.operands, Array.toList_append, List.mem_append]; exact .inr (by simpa using Array.mem_of_getElem? hp))
  case slice t x lo hi mx =>
    cases mx with
    | none =>
      simp only at h
      obtain ⟨el, hel, h⟩ := Option.bind_eq_some_iff.1 h
      obtain ⟨e, he, h⟩ := Option.bind_eq_some_iff.1 h
      obtain ⟨z, hz, e2⟩ := Option.map_eq_some_iff.1 h
      cases e2
      have hx := ev x (by simp [Op.operands])
      obtain ⟨v', hr, hv⟩ := slice_run (w := w) (lo' := lo.map a.eval) (hi' := hi.map a.eval) (elem_some hel) he hz hx
        (by cases lo with
            | none => exact .inl ⟨rfl, rfl⟩
            | some l => exact .inr ⟨_, _, rfl, rfl, ev l (by simp [Op.operands])⟩)
        (by cases hi with
            | none => exact .inl ⟨rfl, rfl⟩
            | some l => exact .inr ⟨_, _, rfl, rfl, ev l (by simp [Op.operands])⟩)
      exact POut.mk (val_run hr) hv
    | some mx =>
      cases lo with
      | some lo => cases hi <;> simp at h
      | none =>
        cases hi with
        | none => simp at h
        | some hi =>
          simp only at h
          obtain ⟨el, hel, h⟩ := Option.bind_eq_some_iff.1 h
          obtain ⟨e, he, h⟩ := Option.bind_eq_some_iff.1 h
          obtain ⟨z, hz, e2⟩ := Option.map_eq_some_iff.1 h
          cases e2
          obtain ⟨v', hr, hv⟩ := slice0_run (w := w) (elem_some hel) he hz (ev x (by simp [Op.operands])) (ev hi (by simp [Op.operands])) (ev mx (by simp [Op.operands]))
          exact POut.mk (val_run hr) hv
  case fieldAddr s x f =>
    obtain ⟨fd, hf, h⟩ := Option.bind_eq_some_iff.1 h
    obtain ⟨n, hn, h⟩ := Option.bind_eq_some_iff.1 h
    split at h
    · cases h
    · rename_i h0
      obtain ⟨z, hz, e2⟩ := Option.map_eq_some_iff.1 h
      cases e2
      obtain ⟨fs, hu, hfs⟩ := field_some hf
      obtain ⟨v', hr, hv⟩ := fld_run (w := w) hu hfs hn h0 rfl hz (ev x (by simp [Op.operands]))
      exact POut.mk (val_run hr) hv
  case field s x f =>
    obtain ⟨fd, hf, h⟩ := Option.bind_eq_some_iff.1 h
    obtain ⟨n, hn, h⟩ := Option.bind_eq_some_iff.1 h
    obtain ⟨z, hz, e2⟩ := Option.map_eq_some_iff.1 h
    cases e2
    obtain ⟨fs, hu, hfs⟩ := field_some hf
    have hx := ev x (by simp [Op.operands])
    cases hxv : aEv A x <;> rw [hxv] at hz <;> try (simp [pPart] at hz; done)
    rename_i xs
    rw [hxv] at hx
    obtain ⟨ys, v', hys, hr, hv⟩ := part_run (w := w) hn hz hx
    refine POut.mk (val_run ?_) hv
    simp [Instr.field, run_underlying hu, hfs, hys, asAgg, hr]
  case indexAddr t x i =>
    cases hu : P.underlying t with
    | none => simp [hu] at h
    | some d =>
      cases d <;> simp only [hu] at h <;> try (cases h; done)
      case slice el =>
        obtain ⟨e, he, h⟩ := Option.bind_eq_some_iff.1 h
        obtain ⟨z, hz, e2⟩ := Option.map_eq_some_iff.1 h
        cases e2
        obtain ⟨v', hr, hv⟩ := idx_run (w := w) hu he hz (ev x (by simp [Op.operands])) (ev i (by simp [Op.operands]))
        exact POut.mk (val_run hr) hv
      case array n el =>
        obtain ⟨e, he, h⟩ := Option.bind_eq_some_iff.1 h
        obtain ⟨z, hz, e2⟩ := Option.map_eq_some_iff.1 h
        cases e2
        obtain ⟨v', hr, hv⟩ := idxA_run (w := w) hu he hz (ev x (by simp [Op.operands])) (ev i (by simp [Op.operands]))
        exact POut.mk (val_run hr) hv
  case index t x i =>
    cases hu : P.underlying t with
    | none => simp [hu] at h
    | some d =>
      cases d <;> simp only [hu] at h <;> try (cases h; done)
      case string =>
        obtain ⟨z, hz, e2⟩ := Option.map_eq_some_iff.1 h
        cases e2
        obtain ⟨v', hr, hv⟩ := indexS_run (w := w) hu hz (ev x (by simp [Op.operands])) (ev i (by simp [Op.operands]))
        exact POut.mk (val_run hr) hv
      case array n el =>
        obtain ⟨e, he, h⟩ := Option.bind_eq_some_iff.1 h
        obtain ⟨nn, hnn, h⟩ := Option.bind_eq_some_iff.1 h
        obtain ⟨z, hz, e2⟩ := Option.map_eq_some_iff.1 h
        cases e2
        obtain ⟨v', hr, hv⟩ := indexV_run (w := w) hu he hnn hz (ev x (by simp [Op.operands])) (ev i (by simp [Op.operands]))
        exact POut.mk (val_run hr) hv
  case lookup t m k ok =>
    obtain ⟨⟨kt, et⟩, hkt, h⟩ := Option.bind_eq_some_iff.1 h
    obtain ⟨cl, hcl, h⟩ := Option.bind_eq_some_iff.1 h
    obtain ⟨z, hz, h⟩ := Option.bind_eq_some_iff.1 h
    obtain ⟨y, hy, e2⟩ := Option.map_eq_some_iff.1 h
    cases e2
    obtain ⟨v', hr, hv⟩ := lookup_out hR hkt hcl hz hy (ev m (by simp [Op.operands])) (ev k (by simp [Op.operands]))
    exact POut.mk (val_run hr) hv
  case extract t i =>
    obtain ⟨z, hz, e2⟩ := Option.map_eq_some_iff.1 h
    cases e2
    have hx := ev t (by simp [Op.operands])
    cases hxv : aEv A t <;> rw [hxv] at hz <;> simp only [pExtract] at hz <;> try (cases hz; done)
    rename_i vs
    rw [hxv] at hx
    obtain ⟨ys, hys, hs, he⟩ := hx.tuple_inv
    have hi : i < vs.size := (Array.getElem?_eq_some_iff.1 hz).1
    have hi' : i < ys.size := by omega
    exact POut.mk (val_run (by simp [Instr.extract, hys, hi']; rfl)) (he i _ _ hz (by simp [hi']))
  case call c =>
    obtain ⟨callee, args, ats⟩ := c
    cases callee with
    | value f => simp [opK] at hk
    | invoke r m => simp at h
    | builtin b =>
      simp only at h
      have hl : LRel P ρ (args.toList.map (aEv A)) (args.map a.eval).toList := map_rel (fun x hx => ev x (by simp only [Op.operands, Call.operands, Array.toList_append, List.mem_append]; exact .inr hx))
      simp only [resolve, Sem.run_bind, Sem.run_pure, Result.andThen_ok, invoke]
      refine builtin_pure hR hl ?_ h
      cases b <;> first | (simp [opK] at hk; done) | simp

/-- What an operation comes to: a value (or none), or what the call that it makes comes to. -/
def OpOut (P : Program) (o : Oper) (ev : Operand → Value) (w : World) (R : Value → World → Prop) : Prop :=
  match (execOp ev o).run P w with
  | .ok (.value v) w' => R v w'
  | .ok .skip w' => R undef w'
  | .ok (.enter f args) w' => Calls P f args w' fun e w'' => ∃ v, e = .returned v ∧ R v w''
  | _ => False

theorem OpOut.wp {o : Oper} {a : Act} {R : Value → World → Prop} {next : Act → World → Prop} {Q : Exit → Act → World → Prop} (h : OpOut P o a.eval w R) (hn : ∀ v w', R v w' → next (a.put o.dst v) w') : o.wp P a w next Q := by
  unfold OpOut at h
  unfold Oper.wp
  split at h
  · rename_i v w' hr; rw [hr, Oper.upon_value]; exact hn _ _ h
  · rename_i w' hr; rw [hr, Oper.upon_skip]; exact hn _ _ h
  · rename_i f args w' hr
    rw [hr, Oper.upon_enter]
    refine h.mono ?_
    rintro e w'' ⟨v, rfl, hR⟩
    exact hn _ _ hR
  · exact h.elim

theorem OpOut.mono {o : Oper} {ev : Operand → Value} {R R' : Value → World → Prop} (h : OpOut P o ev w R) (hm : ∀ v w', R v w' → R' v w') : OpOut P o ev w R' := by
  unfold OpOut at h ⊢
  split at h
  · exact hm _ _ h
  · exact hm _ _ h
  · refine Calls.mono h ?_
    rintro e w'' ⟨v, rfl, hR⟩
    exact ⟨v, rfl, hm _ _ hR⟩
  · exact h.elim

theorem OpOut.some {o : Oper} {ev : Operand → Value} {R : Value → World → Prop} (h : OpOut P o ev w R) : ∃ v w', R v w' := by
  unfold OpOut at h
  split at h
  · exact ⟨_, _, h⟩
  · exact ⟨_, _, h⟩
  · obtain ⟨e, w', fr, ⟨v, _, hR⟩, _⟩ := h []
    exact ⟨v, w', hR⟩
  · exact h.elim

theorem OpOut.congr {o : Oper} {ev ev' : Operand → Value} {R : Value → World → Prop} (h : OpOut P o ev w R) (e : execOp ev o = execOp ev' o) : OpOut P o ev' w R := by
  unfold OpOut at h ⊢
  rwa [← e]

theorem op_reach (hcall : CallOK P G call) {A : List Value} {a : Act} (hA : ActRel ds P ρ A a) (hG : GlobRel ρ G) (hR : Rel P w0 B ρ H w) {o : Oper} (hok : o.op.operands.toList.all (okX G) = true)
    {v : Value} {H' : AH} (h : aOp P call (aEv A) o H = some (v, H')) : OpOut P o a.eval w fun v' w' => ∃ ρ', VRel P ρ' v v' ∧ Ext ρ H w ρ' H' w' ∧ Rel P w0 B ρ' H' w' := by
  by_cases hc : ∃ c f, o.op = .call c ∧ c.callee = .value f
  · obtain ⟨c, f, ho, hcf⟩ := hc
    obtain ⟨dst, op, type, pos, after, guard⟩ := o
    simp only at ho
    subst ho
    obtain ⟨callee, args, ats⟩ := c
    simp only at hcf
    subst hcf
    have ev : ∀ x, x ∈ (Op.call { callee := .value f, args := args, argTypes := ats }).operands.toList → VRel P ρ (aEv A x) (a.eval x) := fun x hx => ev_rel hA hG (List.all_eq_true.1 hok x hx)
    simp only [aOp] at h
    obtain ⟨⟨g, xs⟩, hfa, h⟩ := Option.bind_eq_some_iff.1 h
    simp only at h
    have hl : LRel P ρ (args.toList.map (aEv A)) (args.map a.eval).toList := map_rel (fun x hx => ev x (by simp only [Op.operands, Call.operands, Array.toList_append, List.mem_append]; exact .inr hx))
    obtain ⟨first, captured, hf, hx⟩ := callee_rel hfa (ev f (by simp [Op.operands, Call.operands])) hl
    obtain ⟨⟨fn, hfn, hbody, hname⟩, hcalls⟩ := hcall g xs H v H' h
    have hcl := hcalls w0 B ρ w _ hR hG hx
    have hrun : (execOp a.eval { dst := dst, op := .call { callee := .value f, args := args, argTypes := ats }, type := type, pos := pos, after := after, guard := guard }).run P w =
        .ok (.enter g (first ++ args.map a.eval ++ captured)) w := by
      have hbn : ¬ (fn.body = none) := by intro hb; rw [hb] at hbody; cases hbody
      simp [execOp, resolve, hf, Deferred.ofValue, invoke, callFunc, hfn, hname, hbn]
    unfold OpOut
    rw [hrun]
    have e : (first.toList ++ (args.map a.eval).toList ++ captured.toList).toArray = first ++ args.map a.eval ++ captured := by
      apply Array.ext'; simp
    rw [e] at hcl
    refine hcl.mono ?_
    rintro e w' ⟨v', ρ', rfl, hv, hE, hR'⟩
    exact ⟨v', rfl, ρ', hv, hE, hR'⟩
  · obtain ⟨v', w', ρ', hr | ⟨hr, rfl⟩, hv, he, hR'⟩ := op_out hA hG hR hok (fun c f ho hcf => hc ⟨c, f, ho, hcf⟩) h
    · unfold OpOut; rw [hr]; exact ⟨ρ', hv, he, hR'⟩
    · unfold OpOut; rw [hr]; exact ⟨ρ', hv, he, hR'⟩

/-! ### Values whose blocks lie below a number -/
def WF (P : Program) (m : Nat) (v : Value) : Prop := ∃ ρ1 v1, (∀ b x, ρ1 b = some x → b < m) ∧ VRel P ρ1 v v1

theorem WF.under {m : Nat} {v v' : Value} (h : WF P m v) (k : VRel P ρ v v') : VRel P (ρ.below m) v v' := by
  obtain ⟨ρ1, v1, hm, h⟩ := h
  have up : ∀ {b x y}, ρ1 b = some x → ρ b = some y → ρ.below m b = some y := fun h1 h2 => by rw [Ren.below_lt (hm _ _ h1)]; exact h2
  induction h generalizing v' with
  | lit hl =>
    cases k with
    | lit h => exact .lit h
    | agg hs he => simp [litV] at hl
    | tuple hs he => simp [litV] at hl
    | iface h => simp [litV] at hl
    | func _ _ _ _ => simp [litV] at hl
    | ptr _ => simp [litV] at hl
    | slice _ _ _ _ => simp [litV] at hl
    | slice0 _ => simp [litV] at hl
    | empty => simp [litV] at hl
    | map _ => simp [litV] at hl
  | ptr h => cases k with
    | lit h => simp [litV] at h
    | ptr h2 => exact .ptr (up h h2)
  | slice h hk hn he => cases k with
    | lit h => simp [litV] at h
    | slice h2 a b c => exact .slice (up h h2) a b c
    | slice0 h2 => exact .slice0 (up h h2)
    | empty => exact .empty
  | slice0 h => cases k with
    | lit h => simp [litV] at h
    | slice h2 a b c => exact .slice (up h h2) a b c
    | slice0 h2 => exact .slice0 (up h h2)
    | empty => exact .empty
  | empty => cases k with
    | lit h => simp [litV] at h
    | slice h2 a b c => omega
    | slice0 h2 => exact .empty
    | empty => exact .empty
  | map h => cases k with
    | lit h => simp [litV] at h
    | map h2 => exact .map (up h h2)
  | func hf _ hc _ ih1 ih2 => cases k with
    | lit h => simp [litV] at h
    | func hf' h1 hc' h2 =>
      refine .func hf' (fun i x y hx hy => ?_) hc' (fun i x y hx hy => ?_)
      · have hi := (Array.getElem?_eq_some_iff.1 hx).1
        exact ih1 i x _ hx (Array.getElem?_eq_getElem (by omega)) (h1 i x y hx hy)
      · have hi := (Array.getElem?_eq_some_iff.1 hx).1
        exact ih2 i x _ hx (Array.getElem?_eq_getElem (by omega)) (h2 i x y hx hy)
  | iface _ ih => cases k with
    | lit h => simp [litV] at h
    | iface h => exact .iface (ih h)
  | agg hs _ ih => cases k with
    | lit h => simp [litV] at h
    | agg hs' h1 =>
      refine .agg hs' (fun i x y hx hy => ?_)
      have hi := (Array.getElem?_eq_some_iff.1 hx).1
      exact ih i x _ hx (Array.getElem?_eq_getElem (by omega)) (h1 i x y hx hy)
  | tuple hs _ ih => cases k with
    | lit h => simp [litV] at h
    | tuple hs' h1 =>
      refine .tuple hs' (fun i x y hx hy => ?_)
      have hi := (Array.getElem?_eq_some_iff.1 hx).1
      exact ih i x _ hx (Array.getElem?_eq_getElem (by omega)) (h1 i x y hx hy)

/-! ### Slots that are looked at -/
def maskA (S : Nat → Bool) (A : List Value) : List Value := A.mapIdx fun i v => if S i then v else undef

theorem maskA_get (S : Nat → Bool) (A : List Value) (t : Nat) : (maskA S A)[t]? = (A[t]?).map fun v => if S t then v else undef := by
  simp [maskA]

theorem mask_rel {S : Nat → Bool} {A : List Value} {a : Act} {ρ' : Ren} (hA : ActRel ds P ρ A a) (hS : ∀ t x y, S t = true → A[t]? = some x → VRel P ρ x y → VRel P ρ' x y) :
    ActRel [] P ρ' (maskA S A) { tmps := (maskA S a.tmps.toList).toArray, defers := [] } := by
  refine ⟨⟨by simp [maskA, hA.tmps.1], fun t x y hx hy => ?_⟩, rfl⟩
  rw [maskA_get] at hx
  rw [List.toList_toArray, maskA_get] at hy
  obtain ⟨x0, hx0, rfl⟩ := Option.map_eq_some_iff.1 hx
  obtain ⟨y0, hy0, rfl⟩ := Option.map_eq_some_iff.1 hy
  by_cases h : S t = true
  · rw [if_pos h, if_pos h]; exact hS t x0 y0 h hx0 (hA.tmps.2 t x0 y0 hx0 hy0)
  · rw [if_neg h, if_neg h]; exact VRel.undef

def seesT (op : Op) (t : Nat) : Bool := op.operands.toList.any fun x => match x with | .tmp u => u == t | _ => false

theorem seesT_of {op : Op} {t : Nat} (h : Operand.tmp t ∈ op.operands.toList) : seesT op t = true := by
  unfold seesT
  rw [List.any_eq_true]
  exact ⟨_, h, by simp⟩
theorem mem_of_seesT {op : Op} {t : Nat} (h : seesT op t = true) : Operand.tmp t ∈ op.operands.toList := by
  unfold seesT at h
  obtain ⟨x, hx, h⟩ := List.any_eq_true.1 h
  cases x <;> simp at h
  subst h; exact hx

theorem mask_ev {op : Op} {A : List Value} {x : Operand} (hx : x ∈ op.operands.toList) : aEv (maskA (seesT op) A) x = aEv A x := by
  cases x with
  | tmp t =>
    simp only [aEv, maskA_get, seesT_of hx, if_true]
    cases A[t]? <;> rfl
  | _ => rfl
theorem mask_eval {op : Op} {a : Act} {d : List Deferred} {x : Operand} (hx : x ∈ op.operands.toList) : ({ tmps := (maskA (seesT op) a.tmps.toList).toArray, defers := d } : Act).eval x = a.eval x := by
  cases x with
  | tmp t =>
    simp only [Act.eval, Array.getD_eq_getD_getElem?, List.getElem?_toArray, maskA_get, seesT_of hx, if_true, Array.getElem?_toList]
    cases a.tmps[t]? <;> rfl
  | _ => rfl
end
end Go.Proofs.YthagelbepgcolaaGreatDoor.Gst
/- A region whose order is drawn: what holds after any of its operations have come up. -/
namespace Go.Proofs.YthagelbepgcolaaGreatDoor.Gst
open Go Go.RowKit
set_option linter.unusedSimpArgs false
section
variable {ds : List Deferred} {P : Program} {w0 : World} {B : Nat} {ρ : Ren} {H : AH} {w : World} {G : List Nat} {call : CallF} {ops : Array Oper}

/-! ### Heaps -/
theorem Rel.pushU (h : Rel P w0 B ρ H w) (c : AObj) : Rel P w0 B ρ (H.push c) w :=
  h.agree fun b x hx => ⟨by rw [AH.size_push]; have := h.dom b x hx; omega, AH.get_push_old (h.dom b x hx)⟩
theorem Ext.pushU {ρ0 : Ren} {H0 : AH} {wS : World} (h : Ext ρ0 H0 wS ρ H w) (c : AObj) : Ext ρ0 H0 wS ρ (H.push c) w where
  le := h.le
  fresh := fun b x hx hn => by have := h.fresh b x hx hn; rw [AH.size_push]; omega
  hsize := by rw [AH.size_push]; have := h.hsize; omega
  wsize := h.wsize
  keepA := fun b hb hn => by rw [AH.get_push_old (by have := h.hsize; omega)]; exact h.keepA b hb hn
  keepRo := fun b o ho hr => by have := h.keepRo b o ho hr; rw [AH.get_push_old (AH.lt_of_get this)]; exact this
  keepC := h.keepC
  newC := h.newC

theorem upd_cases {b b1 : Nat} {x y : Nat × Nat × Nat} (hx : ρ.upd b y b1 = some x) : (b1 = b ∧ x = y) ∨ (b1 ≠ b ∧ ρ b1 = some x) := by
  by_cases e : b1 = b
  · subst e; rw [Ren.upd_same] at hx; exact .inl ⟨rfl, (Option.some.inj hx).symm⟩
  · rw [Ren.upd_ne e] at hx; exact .inr ⟨e, hx⟩

theorem Rel.none_size (h : Rel P w0 B ρ H w) : ρ H.size = none := by
  cases hn : ρ H.size with
  | none => rfl
  | some x => have := h.dom _ _ hn; omega

theorem Rel.pushM (h : Rel P w0 B ρ H w) {o : AObj} {c sz : Nat} (hrw : o.rw = true) (hB : B ≤ c) (hc : c < w.heap.size) (ho : ORel P ρ 0 sz o w.heap[c]?) (hd : ∀ b d sz1, ρ b = some (c, d, sz1) → False) :
    Rel P w0 B (ρ.upd H.size (c, 0, sz)) (H.push o) w := by
  have hle := Ren.upd_le (x := (c, 0, sz)) h.none_size
  have old : ∀ {b x}, ρ b = some x → (H.push o).get b = H.get b := fun hx => AH.get_push_old (h.dom _ _ hx)
  refine ⟨h.base, h.below, ?_, ?_, ?_, ?_, ?_, ?_⟩
  · intro b x hx
    rw [AH.size_push]
    rcases upd_cases hx with ⟨rfl, _⟩ | ⟨_, hx⟩
    · omega
    · have := h.dom b x hx; omega
  · intro b c1 d sz1 hx
    rcases upd_cases hx with ⟨rfl, e⟩ | ⟨_, hx⟩
    · cases e; exact hc
    · exact h.blk b c1 d sz1 hx
  · intro b c1 d sz1 o1 hx ho1
    rcases upd_cases hx with ⟨rfl, e⟩ | ⟨_, hx⟩
    · cases e; rw [AH.get_push_new] at ho1; cases ho1; exact ho.mono hle
    · rw [old hx] at ho1; exact (h.obj b c1 d sz1 o1 hx ho1).mono hle
  · intro b c1 d sz1 o1 hx ho1 hr1
    rcases upd_cases hx with ⟨rfl, e⟩ | ⟨_, hx⟩
    · cases e; exact hB
    · rw [old hx] at ho1; exact h.own b c1 d sz1 o1 hx ho1 hr1
  · intro b c1 d sz1 cs hx ho1
    rcases upd_cases hx with ⟨rfl, e⟩ | ⟨_, hx⟩
    · rw [AH.get_push_new] at ho1; cases ho1; simp [AObj.rw] at hrw
    · rw [old hx] at ho1; exact h.ro b c1 d sz1 cs hx ho1
  · intro b1 b2 c1 d1 d2 sz1 sz2 o1 o2 hx1 hx2 ho1 ho2 hr1 hr2
    rcases upd_cases hx1 with ⟨e1, e⟩ | ⟨n1, hx1⟩ <;> rcases upd_cases hx2 with ⟨e2, e'⟩ | ⟨n2, hx2⟩
    · rw [e1, e2]
    · cases e; exact (hd _ _ _ hx2).elim
    · cases e'; exact (hd _ _ _ hx1).elim
    · rw [old hx1] at ho1; rw [old hx2] at ho2
      exact h.inj _ _ _ _ _ _ _ _ _ hx1 hx2 ho1 ho2 hr1 hr2

theorem Ext.updN {ρ0 : Ren} {H0 : AH} {wS : World} (h : Ext ρ0 H0 wS ρ H w) {b c d sz : Nat} (hb : ρ b = none) (h0 : H0.size ≤ b) (h1 : b < H.size) (hc : wS.heap.size ≤ c) : Ext ρ0 H0 wS (ρ.upd b (c, d, sz)) H w where
  le := fun b1 x hx => Ren.upd_le hb b1 x (h.le b1 x hx)
  fresh := fun b1 x hx hn => by
    rcases upd_cases hx with ⟨rfl, _⟩ | ⟨_, hx⟩
    · exact ⟨h0, h1⟩
    · exact h.fresh b1 x hx hn
  hsize := h.hsize
  wsize := h.wsize
  keepA := h.keepA
  keepRo := h.keepRo
  keepC := h.keepC
  newC := fun b1 c1 d1 sz1 hx hn => by
    rcases upd_cases hx with ⟨rfl, e⟩ | ⟨_, hx⟩
    · cases e; exact .inl hc
    · exact h.newC b1 c1 d1 sz1 hx hn

theorem Rel.allocW (h : Rel P w0 B ρ H w) (ob : Obj) : Rel P w0 B ρ H (w.alloc ob) where
  base := h.base
  below := h.below.alloc h.size ob
  dom := h.dom
  blk := fun b c d sz hx => by rw [World.size_alloc]; have := h.blk b c d sz hx; omega
  obj := fun b c d sz o hx ho => by rw [Below.heap_alloc w ob c (h.blk b c d sz hx)]; exact h.obj b c d sz o hx ho
  own := h.own
  ro := h.ro
  inj := h.inj
theorem Ext.allocW {ρ0 : Ren} {H0 : AH} {wS : World} (h : Ext ρ0 H0 wS ρ H w) (ob : Obj) : Ext ρ0 H0 wS ρ H (w.alloc ob) :=
  { h with
    wsize := by rw [World.size_alloc]; have := h.wsize; omega
    keepC := fun c hc hf => by rw [Below.heap_alloc w ob c (by have := h.wsize; omega)]; exact h.keepC c hc hf }

theorem below_succ {m : Nat} {x : Nat × Nat × Nat} (h : ρ m = some x) : ρ.below (m + 1) = (ρ.below m).upd m x := by
  funext b
  unfold Ren.below Ren.upd
  by_cases e : b = m
  · subst e; simp [h]
  · by_cases hb : b < m
    · rw [if_pos (by omega), if_neg e]; simp [hb]
    · rw [if_neg (by omega), if_neg e]; simp [hb]
theorem below_succ_none {m : Nat} (h : ρ m = none) : ρ.below (m + 1) = ρ.below m := by
  funext b
  unfold Ren.below
  by_cases e : b = m
  · subst e; simp [h]
  · by_cases hb : b < m
    · rw [if_pos (by omega), if_pos hb]
    · rw [if_neg (by omega), if_neg hb]
theorem below_le {m : Nat} : ∀ b x, ρ.below m b = some x → ρ b = some x := fun _ _ h => (Ren.below_some h).2
theorem below_mono {m m' : Nat} (hm : m ≤ m') : ∀ b x, ρ.below m b = some x → ρ.below m' b = some x := fun b x h => by
  obtain ⟨h1, h2⟩ := Ren.below_some h
  rw [Ren.below_lt (by omega)]; exact h2

def pad (N : Nat) (H : AH) : AH := ⟨(List.range N).map fun b => (H.get b).getD .dead⟩
theorem pad_size (N : Nat) (H : AH) : (pad N H).size = N := by simp [pad, AH.size]
theorem pad_get {N : Nat} {H : AH} {b : Nat} (h : b < N) : (pad N H).get b = some ((H.get b).getD .dead) := by
  unfold pad
  simp [AH.get, h]
theorem pad_old {N : Nat} {H : AH} {b : Nat} (h : b < H.size) (hN : H.size ≤ N) : (pad N H).get b = H.get b := by
  rw [pad_get (by omega)]
  cases hg : H.get b with
  | some o => rfl
  | none =>
    unfold AH.get at hg
    unfold AH.size at h
    rw [List.getElem?_eq_none_iff] at hg
    omega

theorem Rel.pad {N : Nat} (h : Rel P w0 B (ρ.below H.size) H w) (hN : H.size ≤ N) (hfull : ∀ b x, ρ b = some x → b < N) (hblk : ∀ b c d sz, ρ b = some (c, d, sz) → c < w.heap.size) : Rel P w0 B ρ (Gst.pad N H) w := by
  have key : ∀ {b x o}, ρ b = some x → (Gst.pad N H).get b = some o → (b < H.size ∧ ρ.below H.size b = some x ∧ H.get b = some o) ∨ o = .dead := by
    intro b x o hx ho
    by_cases hb : b < H.size
    · rw [pad_old hb hN] at ho
      exact .inl ⟨hb, by rw [Ren.below_lt hb]; exact hx, ho⟩
    · rw [pad_get (hfull b x hx), AH.get_none (by omega)] at ho
      cases ho; exact .inr rfl
  refine ⟨h.base, h.below, fun b x hx => by rw [pad_size]; exact hfull b x hx, hblk, ?_, ?_, ?_, ?_⟩
  · intro b c d sz o hx ho
    rcases key hx ho with ⟨_, h1, h2⟩ | rfl
    · exact (h.obj b c d sz o h1 h2).mono below_le
    · trivial
  · intro b c d sz o hx ho hr
    rcases key hx ho with ⟨_, h1, h2⟩ | rfl
    · exact h.own b c d sz o h1 h2 hr
    · simp [AObj.rw] at hr
  · intro b c d sz cs hx ho
    rcases key hx ho with ⟨_, h1, h2⟩ | e
    · exact h.ro b c d sz cs h1 h2
    · cases e
  · intro b1 b2 c d1 d2 sz1 sz2 o1 o2 hx1 hx2 ho1 ho2 hr1 hr2
    rcases key hx1 ho1 with ⟨_, h1, h2⟩ | rfl
    · rcases key hx2 ho2 with ⟨_, h3, h4⟩ | rfl
      · exact h.inj _ _ _ _ _ _ _ _ _ h1 h3 h2 h4 hr1 hr2
      · simp [AObj.rw] at hr2
    · simp [AObj.rw] at hr1

/-! ### The text's way -/
/-- The text's way can be gone. -/
structure Way (T : Tra P G call ops) (w0 : World) (B : Nat) (ρ0 : Ren) (wS : World) : Prop where
  hcall : CallOK P G call
  mono : CallMono call
  glob : GlobRel ρ0 G
  rel : Rel P w0 B ρ0 (T.s 0).2 wS
  act : ∃ ds a, ActRel ds P ρ0 (T.s 0).1 a

variable {T : Tra P G call ops} {ρ0 : Ren} {wS : World}

theorem ghost (W : Way T w0 B ρ0 wS) : ∀ i, i ≤ ops.size → ∃ ds ρ1 a1 w1, ActRel ds P ρ1 (T.s i).1 a1 ∧ GlobRel ρ1 G ∧ Rel P w0 B ρ1 (T.s i).2 w1 := by
  intro i
  induction i with
  | zero => intro _; obtain ⟨ds, a, ha⟩ := W.act; exact ⟨ds, ρ0, a, wS, ha, W.glob, W.rel⟩
  | succ i ih =>
    intro hi
    obtain ⟨ds, ρ1, a1, w1, hA, hG, hR⟩ := ih (by omega)
    have ho : ops[i]? = some ops[i] := by simp [Nat.lt_of_succ_le hi]
    obtain ⟨hok, hs, h | ⟨_, hv, hH⟩⟩ := T.step i _ ho
    · obtain ⟨v', w', ρ', hv, hE, hR'⟩ := (op_reach W.hcall hA hG hR hok h.2).some
      exact ⟨ds, ρ', _, w', by rw [hs]; exact put_rel (hA.mono hE.le) _ hv, hG.mono hE.le, hR'⟩
    · exact ⟨ds, ρ1, _, w1, by rw [hs, hv]; exact put_rel hA _ VRel.undef, hG, by rw [hH]; exact hR⟩

theorem wf_slot (W : Way T w0 B ρ0 wS) {i t : Nat} {v : Value} (hi : i ≤ ops.size) (h : (T.s i).1[t]? = some v) : WF P (T.s i).2.size v := by
  obtain ⟨ds, ρ1, a1, w1, hA, _, hR⟩ := ghost W i hi
  obtain ⟨y, _, hv⟩ := hA.tmps.get h
  exact ⟨ρ1, y, hR.dom, hv⟩

theorem opK_cases (op : Op) : opK op = 0 ∨ opK op = 1 ∨ opK op = 2 ∨ opK op = 3 := by
  unfold opK
  split <;> first | omega | (split <;> omega)

theorem text_step (W : Way T w0 B ρ0 wS) {i : Nat} {o : Oper} (ho : ops[i]? = some o) (hk : opK o.op ≠ 3) : (T.s (i + 1)).2 = (T.s i).2 ∨ (opK o.op = 1 ∧ ∃ c : AObj, c.rw = true ∧ (T.s (i + 1)).2 = (T.s i).2.push c) := by
  have hi := (Array.getElem?_eq_some_iff.1 ho).1
  obtain ⟨hok, hs, ⟨hw, h⟩ | ⟨_, hv, hH⟩⟩ := T.step i o ho
  · rcases opK_cases o.op with h0 | h1 | h2 | h3
    · exact .inl (aOp_pure h0 h).1
    · obtain ⟨ds, ρ1, a1, w1, hA, hG, hR⟩ := ghost W i (by omega)
      obtain ⟨c, hc, e, _⟩ := alloc_spec hA hG hok h1 h
      exact .inr ⟨h1, c, hc, e⟩
    · rw [aOp_rd h2] at h
      obtain ⟨y, _, e⟩ := Option.map_eq_some_iff.1 h
      exact .inl (Prod.mk.inj e).2.symm
    · exact absurd h3 hk
  · exact .inl hH

theorem size_step (W : Way T w0 B ρ0 wS) {i : Nat} (hi : i < ops.size) : (T.s i).2.size ≤ (T.s (i + 1)).2.size := by
  have ho : ops[i]? = some ops[i] := by simp [hi]
  obtain ⟨hok, hs, ⟨_, h⟩ | ⟨_, _, hH⟩⟩ := T.step i _ ho
  · exact aOp_mono W.mono h
  · rw [hH]; exact Nat.le_refl _
theorem size_mono (W : Way T w0 B ρ0 wS) {i j : Nat} (hij : i ≤ j) (hj : j ≤ ops.size) : (T.s i).2.size ≤ (T.s j).2.size := by
  induction j with
  | zero => rw [show i = 0 from by omega]; exact Nat.le_refl _
  | succ j ih =>
    by_cases e : i = j + 1
    · rw [e]; exact Nat.le_refl _
    · exact Nat.le_trans (ih (by omega) (by omega)) (size_step W (by omega))
theorem size_lt (W : Way T w0 B ρ0 wS) {i j : Nat} (hij : i < j) (hj : j ≤ ops.size) {c : AObj} (hp : (T.s (i + 1)).2 = (T.s i).2.push c) : (T.s i).2.size < (T.s j).2.size := by
  have := size_mono W (Nat.succ_le_of_lt hij) hj
  rw [hp, AH.size_push] at this
  omega

/-- Between two operations that do more than look nothing that was there changes. -/
theorem push_get (W : Way T w0 B ρ0 wS) {k1 k2 : Nat} (h12 : k1 ≤ k2) (hk : k2 ≤ ops.size) (hno : ∀ i o, ops[i]? = some o → k1 ≤ i → i < k2 → opK o.op ≠ 3) {b : Nat} (hb : b < (T.s k1).2.size) : (T.s k2).2.get b = (T.s k1).2.get b := by
  induction k2 with
  | zero => rw [show k1 = 0 from by omega]
  | succ k ih =>
    by_cases e : k1 = k + 1
    · rw [e]
    · have hlt : k < ops.size := by omega
      have ho : ops[k]? = some ops[k] := by simp [hlt]
      have h1 := ih (by omega) (by omega) (fun i o hi h1 h2 => hno i o hi h1 (by omega))
      rcases text_step W ho (hno k _ ho (by omega) (by omega)) with h2 | ⟨_, c, _, h2⟩
      · rw [h2, h1]
      · rw [h2, AH.get_push_old (Nat.lt_of_lt_of_le hb (size_mono W (by omega) (by omega))), h1]

theorem fb_lt (T : Tra P G call ops) {i j : Nat} {o : Oper} (ho : ops[j]? = some o) (h : fb (masksOf ops.toList) i j = true) : i < j := by
  have := fb_closed (L := fun k => decide (k < j)) (fun k ok hk hL e he hb => by
    have := T.back k ok hk e he hb
    simp only [decide_eq_true_eq] at hL ⊢
    omega) j o ho (fun e he hb => by simpa using T.back j o ho e he hb) i h
  simpa using this

/-! ### What holds -/
structure Inv (ds : List Deferred) (T : Tra P G call ops) (w0 : World) (B : Nat) (ρ0 : Ren) (wS : World) (L : Nat → Bool) (a : Act) (w : World) (ρ : Ren) (t : Nat) : Prop where
  closed : ∀ k o, ops[k]? = some o → L k = true → ∀ e ∈ o.after, Region.binds .any e = true → L e.on = true
  act : ActRel ds P ρ (AD T L ops.size) a
  rel : Rel P w0 B (ρ.below (T.s t).2.size) (T.s t).2 w
  ext : Ext ρ0 (T.s 0).2 wS (ρ.below (T.s t).2.size) (T.s t).2 w
  ht : t ≤ ops.size
  ht1 : t = 0 ∨ ∃ o, ops[t - 1]? = some o ∧ opK o.op = 3
  hE : ∀ i o, ops[i]? = some o → opK o.op = 3 → (L i = true ↔ i < t)
  full : ∀ b x, ρ b = some x → b < (T.s ops.size).2.size
  blk : ∀ b c d sz, ρ b = some (c, d, sz) → c < w.heap.size
  pend : ∀ b x, ρ b = some x → (T.s t).2.size ≤ b → ∃ i o c c' sz, ops[i]? = some o ∧ t ≤ i ∧ L i = true ∧ b = (T.s i).2.size ∧ (T.s (i + 1)).2 = (T.s i).2.push c ∧ x = (c', 0, sz) ∧ c.rw = true ∧ wS.heap.size ≤ c' ∧ ORel P (ρ.below b) 0 sz c w.heap[c']?
  alone : ∀ b b' c d sz d' sz', ρ b = some (c, d, sz) → ρ b' = some (c, d', sz') → (T.s t).2.size ≤ b → b = b'
  later : ∀ i o c, ops[i]? = some o → opK o.op = 1 → (T.s (i + 1)).2 = (T.s i).2.push c → L i = false → ρ (T.s i).2.size = none ∧ (i < t → (T.s t).2.get (T.s i).2.size = (T.s (i + 1)).2.get (T.s i).2.size)

variable {L : Nat → Bool} {a : Act} {t : Nat}

theorem Inv.glob (W : Way T w0 B ρ0 wS) (I : Inv ds T w0 B ρ0 wS L a w ρ t) {m : Nat} (hm : (T.s 0).2.size ≤ m) : GlobRel (ρ.below m) G := by
  refine W.glob.mono (fun b x hx => ?_)
  have h1 := below_le _ _ (I.ext.le b x hx)
  have h2 := W.rel.dom b x hx
  rw [Ren.below_lt (by omega)]; exact h1

theorem Inv.derive (W : Way T w0 B ρ0 wS) (I : Inv ds T w0 B ρ0 wS L a w ρ t) : ∀ k, t ≤ k → k ≤ ops.size → (∀ i o, ops[i]? = some o → t ≤ i → i < k → opK o.op ≠ 3) →
    Rel P w0 B (ρ.below (T.s k).2.size) (T.s k).2 w ∧ Ext ρ0 (T.s 0).2 wS (ρ.below (T.s k).2.size) (T.s k).2 w := by
  intro k
  induction k with
  | zero => intro h _ _; have e : t = 0 := by omega
            subst e; exact ⟨I.rel, I.ext⟩
  | succ k ih =>
    intro h1 h2 hno
    by_cases e : t = k + 1
    · subst e; exact ⟨I.rel, I.ext⟩
    · have hlt : k < ops.size := by omega
      have ho : ops[k]? = some ops[k] := by simp [hlt]
      obtain ⟨hR, hX⟩ := ih (by omega) (by omega) (fun i o hi h1 h2 => hno i o hi h1 (by omega))
      rcases text_step W ho (hno k _ ho (by omega) (by omega)) with h3 | ⟨hk1, c, hc, h3⟩
      · rw [h3]; exact ⟨hR, hX⟩
      · rw [h3, AH.size_push]
        cases hρ : ρ (T.s k).2.size with
        | none => rw [below_succ_none hρ]; exact ⟨hR.pushU c, hX.pushU c⟩
        | some x =>
          have htk := size_mono W (show t ≤ k by omega) (by omega)
          obtain ⟨i, o, c2, c', sz, hoi, hti, hLi, hb, hp, rfl, hrw, hw, hO⟩ := I.pend _ _ hρ htk
          have hio := (Array.getElem?_eq_some_iff.1 hoi).1
          have hik : i = k := by
            rcases Nat.lt_trichotomy i k with h | h | h
            · have := size_lt W h (by omega) hp; omega
            · exact h
            · have := size_lt W h (by omega) h3; omega
          subst hik
          rw [h3] at hp
          have hcc : c = c2 := by
            have := AH.get_push_new (T.s i).2 c
            rw [hp, AH.get_push_new] at this
            exact (Option.some.inj this).symm
          subst hcc
          rw [below_succ hρ]
          refine ⟨hR.pushM hrw (Nat.le_trans W.rel.size hw) (I.blk _ _ _ _ hρ) hO (fun b1 d sz1 hx => ?_), ?_⟩
          · obtain ⟨h5, h6⟩ := Ren.below_some hx
            have := I.alone _ _ _ _ _ _ _ hρ h6 htk
            omega
          · exact (hX.pushU c).updN (by unfold Ren.below; rw [if_neg (by omega)]) (size_mono W (Nat.zero_le _) (by omega)) (by rw [AH.size_push]; omega) hw

/-- What an operation that may come up next looks at. -/
structure Next (T : Tra P G call ops) (L : Nat → Bool) (j : Nat) (o : Oper) : Prop where
  ho : ops[j]? = some o
  hj : L j = false
  ready : ∀ e ∈ o.after, Region.binds .any e = true → L e.on = true

theorem Inv.slots (I : Inv ds T w0 B ρ0 wS L a w ρ t) {j : Nat} {o : Oper} (N : Next T L j o) {u : Nat} (hu : u ∈ o.looksAt ops) : (AD T L ops.size)[u]? = (T.s j).1[u]? := by
  have hjn := (Array.getElem?_eq_some_iff.1 N.ho).1
  refine AD_at T (by omega) (fun i oi hi hij hd => ?_) (fun i oi hi hij hd => ?_)
  · rcases T.pair i j oi o hij hi N.ho with h | ⟨h, _⟩
    · exact fb_closed I.closed j o N.ho N.ready i h
    · exact absurd hu ((Oper.apart_spec h).1 u hd)
  · cases hL : L i with
    | false => rfl
    | true =>
      by_cases e : i = j
      · subst e; rw [N.hj] at hL; exact hL.symm
      · rcases T.pair j i o oi (by omega) N.ho hi with h | ⟨h, _⟩
        · have := fb_closed I.closed i oi hi (I.closed i oi hi hL) j h
          rw [N.hj] at this; cases this
        · exact absurd hu ((Oper.apart_spec h).2.2 u hd)

theorem looks_operand {o : Oper} {u : Nat} (h : Operand.tmp u ∈ o.op.operands.toList) : u ∈ o.looksAt ops := by
  unfold Oper.looksAt
  exact List.mem_append_left _ (List.mem_filterMap.2 ⟨_, h, rfl⟩)

theorem Inv.evs (I : Inv ds T w0 B ρ0 wS L a w ρ t) {j : Nat} {o : Oper} (N : Next T L j o) {x : Operand} (hx : x ∈ o.op.operands.toList) : aEv (AD T L ops.size) x = aEv (T.s j).1 x := by
  cases x with
  | tmp u => simp only [aEv]; rw [I.slots N (looks_operand hx)]
  | _ => rfl

theorem Inv.wanted (I : Inv ds T w0 B ρ0 wS L a w ρ t) {j : Nat} {o : Oper} (N : Next T L j o) : Region.wanted o (yielded ops a.tmps) = Region.wanted o (aYield ops (T.s j).1) := by
  rw [wanted_rel I.act]
  unfold Region.wanted
  cases hg : o.guard with
  | none => rfl
  | some gw =>
    obtain ⟨g, want⟩ := gw
    have : aYield ops (AD T L ops.size) g = aYield ops (T.s j).1 g := by
      unfold aYield
      cases hd : (ops[g]?).bind (·.dst) with
      | none => rfl
      | some u =>
        simp only [Option.bind_some]
        rw [I.slots N (u := u) (by unfold Oper.looksAt; simp [hg, hd])]
    simp only [this]

theorem Inv.set (I : Inv ds T w0 B ρ0 wS L a w ρ t) {j : Nat} {o : Oper} (N : Next T L j o) : AD T (fun i => if i = j then true else L i) ops.size = aPut (AD T L ops.size) o.dst (T.val j) := by
  refine AD_set T N.ho N.hj (fun i oi hi hij hL u hd hd' => ?_)
  rcases T.pair j i o oi hij N.ho hi with h | ⟨h, _⟩
  · have := fb_closed I.closed i oi hi (I.closed i oi hi hL) j h
    rw [N.hj] at this; cases this
  · exact (Oper.apart_spec h).2.1 u hd hd'

theorem Inv.closed' (I : Inv ds T w0 B ρ0 wS L a w ρ t) {j : Nat} {o : Oper} (N : Next T L j o) : ∀ k ok, ops[k]? = some ok → (fun i => if i = j then true else L i) k = true → ∀ e ∈ ok.after, Region.binds .any e = true → (fun i => if i = j then true else L i) e.on = true := by
  intro k ok hk hL e he hb
  simp only
  by_cases hej : e.on = j
  · rw [if_pos hej]
  · rw [if_neg hej]
    by_cases hkj : k = j
    · subst hkj
      rw [N.ho] at hk; cases hk
      exact N.ready e he hb
    · simp only [if_neg hkj] at hL
      exact I.closed k ok hk hL e he hb

/-- What it looks at is of old blocks. -/
theorem Inv.masked (W : Way T w0 B ρ0 wS) (I : Inv ds T w0 B ρ0 wS L a w ρ t) {j : Nat} {o : Oper} (N : Next T L j o) :
    ActRel [] P (ρ.below (T.s j).2.size) (maskA (seesT o.op) (AD T L ops.size)) { tmps := (maskA (seesT o.op) a.tmps.toList).toArray, defers := [] } := by
  have hjn := (Array.getElem?_eq_some_iff.1 N.ho).1
  refine mask_rel I.act (fun u x y hu hx hv => ?_)
  rw [I.slots N (looks_operand (mem_of_seesT hu))] at hx
  exact (wf_slot W (by omega) hx).under hv
end
end Go.Proofs.YthagelbepgcolaaGreatDoor.Gst
