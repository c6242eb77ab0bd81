/- Every operation of the run does what the abstract one does. -/
import Derived.Test.YtbjelopcelompaaGreatDoorGj
namespace Go.Proofs.YtbjelopcelompaaGreatDoor.Gst
open Go Go.RowKit
set_option linter.unusedSimpArgs false

/-- The operands that may stand in a text: constants without addresses, some of the package-level variables. -/
def okX (G : List Nat) : Operand → Bool
  | .const v => constV v
  | .global g => G.contains g
  | _ => true
def aEv (A : List Value) : Operand → Value
  | .tmp t => A[t]?.getD undef
  | .const v => v
  | .global g => .pointer (some ⟨g, 0, none⟩)
  | .func f => .func (.func f) #[] #[]
def GlobRel (ρ : Ren) (G : List Nat) : Prop := ∀ g ∈ G, ∃ sz, ρ g = some (g, 0, sz)
theorem GlobRel.mono {ρ ρ' : Ren} {G : List Nat} (hle : ∀ b x, ρ b = some x → ρ' b = some x) (h : GlobRel ρ G) : GlobRel ρ' G :=
  fun g hg => let ⟨sz, hs⟩ := h g hg; ⟨sz, hle _ _ hs⟩

structure ActRel (P : Program) (ρ : Ren) (A : List Value) (a : Act) : Prop where
  tmps : LRel P ρ A a.tmps.toList
  defers : a.defers = []

section
variable {P : Program} {w0 : World} {B : Nat} {ρ : Ren} {H : AH} {w : World} {G : List Nat}

theorem ActRel.mono {ρ' : Ren} {A : List Value} {a : Act} (hle : ∀ b x, ρ b = some x → ρ' b = some x) (h : ActRel P ρ A a) : ActRel P ρ' A a := ⟨h.tmps.mono hle, h.defers⟩

theorem ev_rel {A : List Value} {a : Act} (hA : ActRel P ρ A a) (hG : GlobRel ρ G) {x : Operand} (hx : okX G x = true) : VRel P ρ (aEv A x) (a.eval x) := by
  cases x with
  | tmp t =>
    simp only [aEv, Act.eval]
    cases hA1 : A[t]? with
    | none =>
      have h1 : A.length ≤ t := by rwa [List.getElem?_eq_none_iff] at hA1
      have h2 : a.tmps.size ≤ t := by have := hA.tmps.1; simp at this; omega
      have : a.tmps.getD t undef = undef := by simp [Array.getD, Nat.not_lt.2 h2]
      rw [this]
      exact VRel.undef
    | some v =>
      obtain ⟨y, hy, hv⟩ := hA.tmps.get hA1
      have : a.tmps.getD t undef = y := by
        rw [Array.getElem?_toList] at hy
        rw [Array.getD_eq_getD_getElem?, hy]
        rfl
      rw [this]
      exact hv
  | const v => exact VRel.const hx
  | global g =>
    simp only [okX, List.contains_iff_mem] at hx
    obtain ⟨sz, hs⟩ := hG g hx
    exact .ptr (d := 0) (o := 0) hs
  | func f => exact .func rfl (fun _ _ _ h => by simp at h) rfl (fun _ _ _ h => by simp at h)

theorem ActRel.put {A : List Value} {a : Act} (hA : ActRel P ρ A a) (d : Option Tmp) {v v' : Value} (hv : VRel P ρ v v') :
    ActRel P ρ (match d with | some d => A.set d v | none => A) (a.put d v') := by
  cases d with
  | none => exact hA
  | some d => exact ⟨by simpa [Act.put] using hA.tmps.set d hv, hA.defers⟩

/-- The calls that a text makes do what the abstract ones do. -/
def CallOK (P : Program) (G : List Nat) (call : CallF) : Prop :=
  ∀ f args H v H', call f args H = some (v, H') → (∃ fn, P.funcs[f]? = some fn ∧ fn.body.isSome = true ∧ fn.name ≠ "runtime.NumGoroutine") ∧
    ∀ w0 B ρ w args', Rel P w0 B ρ H w → GlobRel ρ G → LRel P ρ args args' →
      Calls P f args'.toArray w fun e w' => ∃ v' ρ', e = .returned v' ∧ VRel P ρ' v v' ∧ Ext ρ H w ρ' H' w' ∧ Rel P w0 B ρ' H' w'

theorem map_rel {ev ev' : Operand → Value} {xs : Array Operand} (h : ∀ x ∈ xs.toList, VRel P ρ (ev x) (ev' x)) : LRel P ρ (xs.toList.map ev) (xs.map ev').toList := by
  refine ⟨by simp, fun i a b ha hb => ?_⟩
  simp only [List.getElem?_map, Option.map_eq_some_iff, Array.toList_map] at ha hb
  obtain ⟨x, hx, rfl⟩ := ha
  obtain ⟨y, hy, rfl⟩ := hb
  rw [hx] at hy
  cases hy
  exact h x (List.mem_of_getElem? hx)

/-- What the nil check of a value comes to. -/
def nilSem (v : Value) : Sem Next :=
  match v with
  | .pointer none | .nilIface | .nilFunc => runtimePanic .nilDeref
  | .func (.method name) first captured =>
    match (first[0]? : Option Value) with
    | some .nilIface => runtimePanic .nilDeref
    | some (.iface t w) => do
      if (← nilAhead ((← program).types.size + Made.depth) t w name) != some false then
        unsupported (.noEntry "op/nilCheck.the method's receiver behind this interface value is a nil pointer, or cannot be seen to be none, and the arguments act or may panic (ledger 612)")
      pure (.value (.func (.method name) first captured))
    | _ => pure (.value (.func (.method name) first captured))
  | x => pure (.value x)

theorem pNil_run {v v' x : Value} (h : pNil v = some x) (hv : VRel P ρ v v') : x = v ∧ nilSem v' = pure (.value v') := by
  cases hv with
  | lit hl =>
    cases v with
    | pointer a => cases a <;> simp [pNil] at h <;> simp [litV] at hl
    | func fn f c => simp [litV] at hl
    | slice a n k => cases h; exact ⟨rfl, rfl⟩
    | map a => cases h; exact ⟨rfl, rfl⟩
    | chan a => cases h; exact ⟨rfl, rfl⟩
    | _ => first | (simp [pNil] at h; done) | (cases h; exact ⟨rfl, rfl⟩) | (simp [litV] at hl)
  | func hf h1 hc h2 =>
    rename_i fn f f' c c'
    cases fn <;> first | (cases h; exact ⟨rfl, rfl⟩) | (simp [pNil] at h)
  | ptr _ => cases h; exact ⟨rfl, rfl⟩
  | slice _ _ _ _ => cases h; exact ⟨rfl, rfl⟩
  | slice0 _ => cases h; exact ⟨rfl, rfl⟩
  | empty => cases h; exact ⟨rfl, rfl⟩
  | map _ => cases h; exact ⟨rfl, rfl⟩
  | iface _ => cases h; exact ⟨rfl, rfl⟩
  | agg _ _ => cases h; exact ⟨rfl, rfl⟩
  | tuple _ _ => cases h; exact ⟨rfl, rfl⟩

theorem fld_run {n off : Nat} {t : TypeId} {f : Field} {fs : Array Field} {v v' x : Value} {i : Nat} (hu : P.underlying t = some (.struct fs)) (hf : fs[i]? = some f) (hn : szOf P f.type = some n) (h0 : n ≠ 0) (hoff : f.offset = off)
    (h : pFld off v = some x) (hv : VRel P ρ v v') : ∃ x', (Instr.fieldAt t v' i).run P w = .ok x' w ∧ VRel P ρ x x' := by
  obtain ⟨⟨b, o⟩, ha, rfl⟩ := Option.map_eq_some_iff.1 h
  rw [pAt_some ha] at hv
  obtain ⟨c, d, sz, hb, rfl⟩ := hv.ptr_inv
  refine ⟨.pointer (some ⟨c, d + o + off, none⟩), ?_, ?_⟩
  · simp [Instr.fieldAt, run_underlying hu, hf, Instr.sureAddr, fieldPlace, szOf_run hn, h0, hoff, Addr.add_lit]
  · rw [Nat.add_assoc]; exact .ptr hb

theorem part_run {t : TypeId} {n : Option Nat} (hn : aggOf P t = some n) {off : Nat} {xs : Array Value} {v' x : Value} (h : pPart n off (.agg xs) = some x) (hv : VRel P ρ (.agg xs) v') :
    ∃ ys x', v' = .agg ys ∧ (part t ys off).run P w = .ok x' w ∧ VRel P ρ x x' := by
  obtain ⟨ys, rfl, hs, he⟩ := hv.agg_inv
  cases n with
  | none =>
    simp only [pPart] at h
    have hi : off < xs.size := (Array.getElem?_eq_some_iff.1 h).1
    have hi' : off < ys.size := by omega
    exact ⟨ys, ys[off], rfl, by simp [part, aggOf_none hn, hi'], he off x _ h (by simp [hi'])⟩
  | some n =>
    simp only [pPart] at h
    cases h
    obtain ⟨hag, hsz⟩ := aggOf_some hn w
    refine ⟨ys, .agg (ys.extract off (off + n)), rfl, by simp [part, hag, szOf_run hsz], .agg (by simp [hs]) (fun i x y hx hy => ?_)⟩
    rw [Array.getElem?_extract] at hx hy
    rw [← hs] at hy
    split at hx
    · rename_i hi; rw [if_pos hi] at hy; exact he _ x y hx hy
    · cases hx

theorem idx_run {e : Nat} {t el : TypeId} (hu : P.underlying t = some (.slice el)) (he : szOf P el = some e) {v v' i i' x : Value} (h : pIdx e v i = some x) (hv : VRel P ρ v v') (hi : VRel P ρ i i') :
    ∃ x', (Instr.indexAt t v' i').run P w = .ok x' w ∧ VRel P ρ x x' := by
  by_cases hsl : ∃ a n k, v = .slice a n k
  case neg =>
    exfalso
    cases v <;> first | exact hsl ⟨_, _, _, rfl⟩ | (simp [pIdx] at h)
  obtain ⟨a, n, k, rfl⟩ := hsl
  cases a with
  | none => cases i <;> simp [pIdx] at h
  | some ad =>
  obtain ⟨b, o, sp⟩ := ad
  cases sp with
  | some sp => cases i <;> simp [pIdx] at h
  | none =>
  cases i <;> simp only [pIdx] at h <;> try (cases h; done)
  rename_i kk i
  split at h
  · rename_i hc
    cases h
    rw [hi.int_inv]
    have hel : P.elem t = el := by simp [Program.elem, hu]
    cases hv with
    | lit h => simp [litV] at h
    | slice0 h => omega
    | empty => omega
    | slice hb hk hn he0 =>
      rename_i c d sz k'
      refine ⟨.pointer (some ⟨c, d + o + i.toNat * e, none⟩), ?_, by rw [Nat.add_assoc]; exact .ptr hb⟩
      rw [run_indexAt_slice w t ⟨c, d + o, none⟩ n k' kk i (by rw [hel]; exact hu), if_pos hc, hel, szOf_run he]
      simp [Addr.add_lit]
  · cases h

theorem idxA_run {e len : Nat} {t el : TypeId} (hu : P.underlying t = some (.array len el)) (he : szOf P el = some e) {v v' i i' x : Value} (h : pIdxA len e v i = some x) (hv : VRel P ρ v v') (hi : VRel P ρ i i') :
    ∃ x', (Instr.indexAt t v' i').run P w = .ok x' w ∧ VRel P ρ x x' := by
  by_cases hsl : ∃ a, v = .pointer a
  case neg =>
    exfalso
    cases v <;> first | exact hsl ⟨_, rfl⟩ | (simp [pIdxA] at h)
  obtain ⟨a, rfl⟩ := hsl
  cases a with
  | none => cases i <;> simp [pIdxA] at h
  | some ad =>
  obtain ⟨b, o, sp⟩ := ad
  cases sp with
  | some sp => cases i <;> simp [pIdxA] at h
  | none =>
  cases i <;> simp only [pIdxA] at h <;> try (cases h; done)
  rename_i kk i
  split at h
  · rename_i hc
    cases h
    rw [hi.int_inv]
    obtain ⟨c, d, sz, hb, rfl⟩ := hv.ptr_inv
    have hel : P.elem t = el := by simp [Program.elem, hu]
    have hlen : P.arrayLen t = len := by simp [Program.arrayLen, hu]
    refine ⟨.pointer (some ⟨c, d + o + i.toNat * e, none⟩), ?_, by rw [Nat.add_assoc]; exact .ptr hb⟩
    rw [run_indexAt_array w t ⟨c, d + o, none⟩ kk i (by rw [hel, hlen]; exact hu), hlen, if_pos hc, hel, szOf_run he]
    simp [Addr.add_lit]
  · cases h

theorem indexV_run {e len : Nat} {n : Option Nat} {t el : TypeId} (hu : P.underlying t = some (.array len el)) (he : szOf P el = some e) (hn : aggOf P el = some n) {v v' i i' x : Value} (h : pIndexV len n e v i = some x) (hv : VRel P ρ v v') (hi : VRel P ρ i i') :
    ∃ x', (Instr.index t v' i').run P w = .ok x' w ∧ VRel P ρ x x' := by
  cases v <;> simp only [pIndexV] at h <;> try (cases h; done)
  rename_i xs
  cases i <;> simp only at h <;> try (cases h; done)
  rename_i kk i
  split at h
  · rename_i hc
    rw [hi.int_inv]
    have hp : pPart n (i.toNat * e) (.agg xs) = some x := by cases n <;> simpa [pPart] using h
    obtain ⟨ys, x', rfl, hr, hx⟩ := part_run (w := w) hn hp hv
    exact ⟨x', by simp [Instr.index, asIntOf, run_underlying hu, hc, szOf_run he, hr], hx⟩
  · cases h

theorem indexS_run {t : TypeId} (hu : P.underlying t = some .string) {v v' i i' x : Value} (h : pIndexS v i = some x) (hv : VRel P ρ v v') (hi : VRel P ρ i i') :
    ∃ x', (Instr.index t v' i').run P w = .ok x' w ∧ VRel P ρ x x' := by
  cases v <;> simp only [pIndexS] at h <;> try (cases h; done)
  rename_i s
  cases i <;> simp only at h <;> try (cases h; done)
  rename_i kk i
  split at h
  · rename_i hc
    obtain ⟨b, hb, rfl⟩ := Option.map_eq_some_iff.1 h
    rw [hi.int_inv, hv.string_inv]
    exact ⟨_, by simp [Instr.index, asIntOf, run_underlying hu, hc, hb], .lit rfl⟩
  · cases h

theorem slice_run {e : Nat} {t el : TypeId} (hu : P.underlying t = some (.slice el)) (he : szOf P el = some e) {x x' v : Value} {lo hi lo' hi' : Option Value} (h : pSlice e x lo hi = some v) (hx : VRel P ρ x x')
    (hlo : lo = none ∧ lo' = none ∨ ∃ a a', lo = some a ∧ lo' = some a' ∧ VRel P ρ a a') (hhi : hi = none ∧ hi' = none ∨ ∃ a a', hi = some a ∧ hi' = some a' ∧ VRel P ρ a a') :
    ∃ v', (Instr.sliceAt t x' lo' hi' none).run P w = .ok v' w ∧ VRel P ρ v v' := by
  cases x <;> simp only [pSlice] at h <;> try (cases h; done)
  rename_i a n e'
  have h2 := Option.bind_eq_some_iff.1 h
  clear h
  obtain ⟨l, hl, h⟩ := h2
  have h2 := Option.bind_eq_some_iff.1 h
  clear h
  obtain ⟨hh, hhv, h⟩ := h2
  split at h
  · rename_i hc
    have elo : lo = none ∧ lo' = none ∧ l = 0 ∨ ∃ k, lo' = some (.int k l) := by
      rcases hlo with ⟨rfl, rfl⟩ | ⟨b, b', rfl, rfl, hb⟩
      · left; simp at hl; exact ⟨rfl, rfl, hl.symm⟩
      · right; cases b <;> simp [pInt?] at hl; subst hl; exact ⟨_, by rw [hb.int_inv]⟩
    have ehi : hi = none ∧ hi' = none ∧ hh = n ∨ ∃ k, hi' = some (.int k hh) := by
      rcases hhi with ⟨rfl, rfl⟩ | ⟨b, b', rfl, rfl, hb⟩
      · left; simp at hhv; exact ⟨rfl, rfl, hhv.symm⟩
      · right; cases b <;> simp [pInt?] at hhv; subst hhv; exact ⟨_, by rw [hb.int_inv]⟩
    -- what the run comes to
    have run : ∀ (a' : Option Addr) (k' : Nat), n ≤ k' → (Instr.sliceAt t (.slice a' n k') lo' hi' none).run P w = .ok (.slice (if k' = l.toNat then a' else a'.map (·.add (l.toNat * e))) (hh.toNat - l.toNat) (k' - l.toNat)) w := by
      intro a' k' hk
      have c1 : hh ≤ (k' : Int) := by omega
      have c3 : 0 ≤ hh := by omega
      have c2 : l ≤ hh := hc.2.1
      have c5 : max hh 0 = hh := by omega
      rcases elo with ⟨_, rfl, rfl⟩ | ⟨kl, rfl⟩ <;> rcases ehi with ⟨_, rfl, rfl⟩ | ⟨kh, rfl⟩ <;>
        simp [Instr.sliceAt, Instr.slice, run_underlying hu, Instr.sliceBounds, Instr.sliceBound, asIntOf, szOf_run he, hc.1, c1, c2, c3, c5]
    cases a with
    | none =>
      simp only at h
      split at h
      · rename_i hne
        obtain ⟨rfl, rfl⟩ := hne
        cases h
        rw [hx.nilslice_inv]
        have e1 : l.toNat = 0 := by omega
        have e2 : hh.toNat = 0 := by omega
        refine ⟨.slice none 0 0, ?_, .lit rfl⟩
        rw [run none 0 (Nat.le_refl _), e1, e2]
        rfl
      · cases h
    | some ad =>
      obtain ⟨b, o, sp⟩ := ad
      cases sp with
      | some sp => simp at h
      | none =>
        simp only at h
        split at h
        · rename_i hee
          obtain ⟨rfl, he0⟩ := hee
          cases h
          cases hx with
          | lit h => simp [litV] at h
          | slice hb hk hn he1 =>
            rename_i c d sz k'
            refine ⟨_, run _ k' hn, ?_⟩
            by_cases hkl : k' = l.toNat
            · have e1 : hh.toNat - l.toNat = 0 := by omega
              have e2 : k' - l.toNat = 0 := by omega
              rw [if_pos hkl, e1, e2]
              exact .slice0 hb
            · rw [if_neg hkl]
              simp only [Option.map_some, Addr.add_lit]
              rw [Nat.add_assoc]
              refine .slice hb ?_ (by omega) he0
              have h1 : l.toNat * e' + (k' - l.toNat) * e' = k' * e' := by rw [← Nat.add_mul]; congr 1; omega
              omega
          | empty => omega
          | slice0 hb =>
            rename_i c d sz a
            refine ⟨_, run _ 0 (Nat.le_refl _), ?_⟩
            have e1 : l.toNat = 0 := by omega
            have e2 : hh.toNat = 0 := by omega
            rw [e1, e2]
            simpa using VRel.slice0 hb
        · cases h
  · cases h

theorem slice0_run {t el : TypeId} {e : Nat} (hu : P.underlying t = some (.slice el)) (he : szOf P el = some e) {x x' hi hi' mx mx' v : Value} (h : pSlice0 x hi mx = some v) (hx : VRel P ρ x x') (hh : VRel P ρ hi hi') (hm : VRel P ρ mx mx') :
    ∃ v', (Instr.sliceAt t x' none (some hi') (some mx')).run P w = .ok v' w ∧ VRel P ρ v v' := by
  have run : ∀ (a' : Option Addr) (n k' : Nat) (k1 k2 : IntKind), (Instr.sliceAt t (.slice a' n k') none (some (.int k1 0)) (some (.int k2 0))).run P w = .ok (.slice a' 0 0) w := by
    intro a' n k' k1 k2
    simp [Instr.sliceAt, Instr.slice, run_underlying hu, Instr.sliceBounds, Instr.sliceBound, asIntOf, szOf_run he]
  unfold pSlice0 at h
  split at h
  · cases h
    rw [hh.int_inv, hm.int_inv, hx.nilslice_inv]
    exact ⟨_, run _ _ _ _ _, .lit rfl⟩
  · rename_i b o n k k1 k2 _
    cases h
    rw [hh.int_inv, hm.int_inv]
    cases hx with
    | lit h => simp [litV] at h
    | slice hb _ _ _ => exact ⟨_, run _ _ _ _ _, .slice0 hb⟩
    | slice0 hb => exact ⟨_, run _ _ _ _ _, .slice0 hb⟩
    | empty => exact ⟨_, run _ _ _ _ _, .empty⟩
  · cases h
end
end Go.Proofs.YtbjelopcelompaaGreatDoor.Gst
