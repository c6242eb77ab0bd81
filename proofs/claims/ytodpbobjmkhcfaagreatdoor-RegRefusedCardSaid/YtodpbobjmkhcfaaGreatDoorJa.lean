/- Memory, of the program and of the reference. -/
import Derived.Test.YtodpbobjmkhcfaaGreatDoorKy
import Derived.Test.YtodpbobjmkhcfaaGreatDoorId
namespace Go.Proofs.YtodpbobjmkhcfaaGreatDoor.Gst
open Go Go.RowKit
set_option linter.unusedSimpArgs false
set_option linter.unusedVariables false
set_option maxHeartbeats 1000000

structure Mu where
  V : Loc → Nat
  E : List Ev
  N : Nat
abbrev Mu.log (μ : Mu) (who kind : Int) (at' : Loc) : Mu := { μ with E := μ.E ++ [⟨who, kind, at'⟩], N := μ.N + 1 }
abbrev Mu.put (μ : Mu) (at' : Loc) (v : Nat) : Mu := { μ with V := fun l => if l = at' then v else μ.V l }

/-- Numbers by their places, the first one counts. -/
def alGet (al : List (Loc × Nat)) (l : Loc) : Nat := ((al.find? fun p => p.1 == l).map (·.2)).getD 0
def entOf (p : Loc × Nat) (e : MapEntry) : Prop := e.key = encL p.1 ∧ e.val = .agg #[vu p.2]
inductive EntsOf : List (Loc × Nat) → List MapEntry → Prop
  | nil : EntsOf [] []
  | cons {p : Loc × Nat} {l : List (Loc × Nat)} {e : MapEntry} {es : List MapEntry} (h : entOf p e) (k : EntsOf l es) : EntsOf (p :: l) (e :: es)
theorem keyEq_loc (a b : Loc) : keyEq (.flat 3) (encL a) (encL b) = some (a == b) := by
  simp only [keyEq, encL]
  rw [if_pos ⟨rfl, rfl⟩]
  simp only [eqCells, if_true, Option.map_some, Bool.and_true]
  rfl
theorem find_ents {al : List (Loc × Nat)} {es : List MapEntry} (h : EntsOf al es) (l : Loc) : ∀ i, ∃ r, findKey' (.flat 3) (encL l) es i = some r ∧ (match r with
    | some (j, v) => v = .agg #[vu (alGet al l)] ∧ i ≤ j ∧ (∃ p, al[j - i]? = some p ∧ p.1 = l) ∧ ∀ q, q < j - i → ∀ p, al[q]? = some p → p.1 ≠ l
    | none => alGet al l = 0 ∧ ∀ p ∈ al, p.1 ≠ l) := by
  induction h with
  | nil => intro i; exact ⟨none, rfl, rfl, by simp⟩
  | @cons p al e es h k ih =>
    intro i
    simp only [findKey']
    rw [h.1, keyEq_loc]
    simp only [Option.bind_some]
    by_cases hp : p.1 = l
    · have e1 : (l == p.1) = true := by simp [hp]
      rw [if_pos e1]
      refine ⟨_, rfl, ?_, Nat.le_refl _, ⟨p, by simp, hp⟩, fun q hq => by omega⟩
      rw [h.2]
      simp [alGet, hp]
    · have e1 : ¬ ((l == p.1) = true) := by simp; exact fun h => hp h.symm
      rw [if_neg e1]
      obtain ⟨r, h1, h2⟩ := ih (i + 1)
      have hg : alGet (p :: al) l = alGet al l := by simp [alGet, hp]
      refine ⟨r, h1, ?_⟩
      cases r with
      | none =>
        simp only at h2 ⊢
        rw [hg]
        exact ⟨h2.1, fun q hq => by
          rcases List.mem_cons.1 hq with rfl | hq
          · exact hp
          · exact h2.2 q hq⟩
      | some r =>
        obtain ⟨j, v⟩ := r
        simp only at h2 ⊢
        rw [hg]
        obtain ⟨a1, a2, ⟨p', a3, a4⟩, a5⟩ := h2
        refine ⟨a1, by omega, ⟨p', ?_, a4⟩, fun q hq p'' hp'' => ?_⟩
        · rw [show j - i = (j - (i + 1)) + 1 from by omega]; exact a3
        · cases q with
          | zero => simp at hp''; rw [← hp'']; exact hp
          | succ q => exact a5 q (by omega) p'' (by simpa using hp'')

def alSet : List (Loc × Nat) → Loc → Nat → List (Loc × Nat)
  | [], l, v => [(l, v)]
  | p :: al, l, v => if p.1 = l then (l, v) :: al else p :: alSet al l v
theorem alGet_cons (p : Loc × Nat) (al : List (Loc × Nat)) (l : Loc) : alGet (p :: al) l = if p.1 = l then p.2 else alGet al l := by
  unfold alGet
  by_cases h : p.1 = l
  · simp [h]
  · simp [h]
theorem alGet_set (l : Loc) (v : Nat) (x : Loc) : ∀ al, alGet (alSet al l v) x = if x = l then v else alGet al x := by
  intro al
  induction al with
  | nil =>
    simp only [alSet, alGet_cons]
    by_cases h : l = x
    · simp [h]
    · have : ¬ x = l := fun e => h e.symm
      simp [h, this]
  | cons p al ih =>
    simp only [alSet]
    by_cases hp : p.1 = l
    · rw [if_pos hp, alGet_cons, alGet_cons]
      by_cases h : l = x
      · simp [h]
      · have h2 : ¬ x = l := fun e => h e.symm
        simp [h, h2, hp]
    · rw [if_neg hp, alGet_cons, alGet_cons, ih]
      by_cases h : p.1 = x
      · have h2 : ¬ x = l := fun e => hp (h.trans e)
        simp [h, h2]
      · simp [h]
theorem upd_ents {al : List (Loc × Nat)} {es : List MapEntry} (h : EntsOf al es) (l : Loc) (v : Nat) : ∀ i, match findKey' (.flat 3) (encL l) es i with
    | some (some (j, _)) => i ≤ j ∧ EntsOf (alSet al l v) (es.modify (j - i) fun e => { e with key := encL l, val := .agg #[vu v] })
    | some none => ∀ born, EntsOf (alSet al l v) (es ++ [{ key := encL l, val := .agg #[vu v], born := born }])
    | none => False := by
  induction h with
  | nil => intro i born; exact .cons ⟨rfl, rfl⟩ .nil
  | @cons p al e es h k ih =>
    intro i
    simp only [findKey']
    rw [h.1, keyEq_loc]
    simp only [Option.bind_some]
    by_cases hp : p.1 = l
    · have e1 : (l == p.1) = true := by simp [hp]
      rw [if_pos e1]
      simp only [alSet, if_pos hp]
      refine ⟨Nat.le_refl _, ?_⟩
      simp only [Nat.sub_self]
      exact .cons ⟨rfl, rfl⟩ k
    · have e1 : ¬ ((l == p.1) = true) := by simp; exact fun h => hp h.symm
      rw [if_neg e1]
      have hi := ih (i + 1)
      simp only [alSet, if_neg hp]
      cases hf : findKey' (.flat 3) (encL l) es (i + 1) with
      | none => rw [hf] at hi; exact hi
      | some r =>
        rw [hf] at hi
        cases r with
        | none => intro born; exact .cons h (hi born)
        | some r =>
          obtain ⟨j, v'⟩ := r
          simp only at hi ⊢
          refine ⟨by omega, ?_⟩
          rw [show j - i = (j - (i + 1)) + 1 from by omega]
          exact .cons h hi.2

section
variable {P P' R : SP} {H : AH} {c ck : Nat} {es : List MapEntry} {al : List (Loc × Nat)} {Q : Value → AH → Prop}
theorem w_look {k : Value → OV} {at' : Loc} (ha : EntsOf al es) (h : Holds P H) [i : Hs P c (.map es ck)] (hk : wp (k (.agg #[vu (alGet al at')])) Q) : wp ((pLookup (.flat 3) (.agg #[vw 0]) (.map (some c)) (encL at') false H).bind k) Q := by
  have hg := i.get h
  obtain ⟨r, h1, h2⟩ := find_ents ha at' 0
  refine w_bind ?_ hk
  unfold pLookup
  rw [if_pos (show keyOK (.flat 3) (encL at') = true from rfl)]
  simp only [pMapOf, hg, Option.bind_some, h1, Option.map_some]
  cases r with
  | none => simp only at h2 ⊢; rw [h2.1]; rfl
  | some r => simp only at h2 ⊢; rw [h2.1]; rfl
theorem w_upd {k : AH → OV} {at' : Loc} {v : Nat} (ha : EntsOf al es) (h : Holds P H) [i : Hs P c (.map es ck)] (hk : ∀ es' ck' H', EntsOf (alSet al at' v) es' → (∀ P', Up P c (.map es' ck') P' → Holds P' H') → wp (k H') Q) :
    wp ((pUpdate (.flat 3) (.map (some c)) (encL at') (.agg #[vu v]) H).bind k) Q := by
  have hg := i.get h
  have hu := upd_ents ha at' v 0
  unfold pUpdate
  rw [if_pos (show keyOK (.flat 3) (encL at') = true from rfl)]
  simp only [hg]
  cases hf : findKey' (.flat 3) (encL at') es 0 with
  | none => rw [hf] at hu; exact absurd hu id
  | some r =>
    rw [hf] at hu
    cases r with
    | none =>
      simp only [Option.map_some, Option.bind_some]
      exact hk _ _ _ (hu ck) fun P' u => u.set h
    | some r =>
      obtain ⟨j, v'⟩ := r
      simp only [Option.map_some, Option.bind_some]
      exact hk _ _ _ hu.2 fun P' u => u.set h
end

/-- The program's memory. -/
def memP (m : Nat) (μ : Mu) : SP := ex fun g : Nat × Value × List (Loc × Nat) × List MapEntry × Nat =>
  pu (EntsOf g.2.2.1 g.2.2.2.1 ∧ (∀ l, alGet g.2.2.1 l = μ.V l) ∧ μ.E.length ≤ μ.N) * (blk m (.cells false [.map (some g.1), g.2.1]) * (blk g.1 (.map g.2.2.2.1 g.2.2.2.2) * sl 5 g.2.1 μ.E.length (evCells μ.E)))

theorem evCells_len (E : List Ev) : (evCells E).length = E.length * 5 := by
  induction E with
  | nil => rfl
  | cons x E ih => simp only [evCells, List.flatMap_cons, List.length_append] at ih ⊢; rw [ih]; simp [Ev.cells]; omega

theorem mem_note (m : Nat) (μ : Mu) (who kind : Int) (at' : Loc) (hE : μ.N < 1099511627776) : Sp n_mem_Mem_note [vp m, vi who, vi kind, encL at'] (memP m μ) (fun _ : Unit => .tuple #[]) (fun _ => memP m (μ.log who kind at')) := by
  refine sp_of fun R H h => ?_
  obtain ⟨⟨c, l, al, es, ck⟩, h⟩ := Holds.ex.1 h
  rw [sep_assoc, Holds.pu] at h
  obtain ⟨hp, h⟩ := h
  dsimp only at h hp
  refine wp_of (fun r => mem_Mem_note_of _ _ _ _ H) ?_
  refine w_new (cs := [vi at'.1, vi at'.2.1, vi at'.2.2]) h fun b0 H1 h1 => ?_
  refine w_ld h1 end_nf rfl ?_
  refine w_LdN h1 ?_
  refine w_mkS (cs := [vi who, vi kind, vi at'.1, vi at'.2.1, vi at'.2.2]) rfl ?_
  refine w_mkR (cs := [vi who, vi kind, vi at'.1, vi at'.2.1, vi at'.2.2]) h1 rfl fun b1 H2 h2 => ?_
  have hl := hp.2.2
  refine w_app h2 rfl (by omega) (by omega) rfl (by unfold room; omega) fun a' c' H3 h3 => ?_
  refine w_st h3 end_nf rfl rfl fun H4 h4 => ?_
  refine w_ret ⟨(), rfl, ?_⟩
  refine Holds.ex.2 ⟨(c, .slice a' (μ.E.length + 1) c', al, es, ck), ?_⟩
  rw [sep_assoc, Holds.pu]
  refine ⟨⟨hp.1, hp.2.1, by simp; exact hp.2.2⟩, ?_⟩
  have e1 : (μ.log who kind at').E.length = μ.E.length + 1 := by simp [Mu.log]
  have e2 : evCells (μ.log who kind at').E = evCells μ.E ++ [vi who, vi kind, vi at'.1, vi at'.2.1, vi at'.2.2] := by rw [Mu.log, evCells_snoc]; rfl
  rw [e1, e2]
  exact h4.to

theorem mem_peek (m : Nat) (μ : Mu) (at' : Loc) : Sp n_mem_Mem_Peek [vp m, encL at'] (memP m μ) (fun _ : Unit => vu (μ.V at')) (fun _ => memP m μ) := by
  refine sp_of fun R H h => ?_
  have h0 := h
  obtain ⟨⟨c, l, al, es, ck⟩, h⟩ := Holds.ex.1 h
  rw [sep_assoc, Holds.pu] at h
  obtain ⟨hp, h⟩ := h
  dsimp only at h hp
  refine wp_of (fun r => mem_Mem_Peek_of _ _ H) ?_
  refine w_new (cs := [vi at'.1, vi at'.2.1, vi at'.2.2]) h fun b0 H1 h1 => ?_
  refine w_ld h1 end_nf rfl ?_
  refine w_LdN h1 ?_
  refine w_look (at' := at') hp.1 h1 ?_
  refine w_bind (v := vu (alGet al at')) rfl ?_
  refine w_ret ⟨(), by rw [hp.2.1], ?_⟩
  refine Holds.ex.2 ⟨(c, l, al, es, ck), ?_⟩
  rw [sep_assoc, Holds.pu]
  exact ⟨hp, h1.to⟩
theorem memP_put {m : Nat} {μ : Mu} {at' : Loc} {v : Nat} {R P : SP} {H : AH} {c : Nat} {l : Value} {al : List (Loc × Nat)} {es : List MapEntry} {k : AH → OV} {Q : Value → AH → Prop} {ck : Nat}
    (hp : EntsOf al es ∧ (∀ l, alGet al l = μ.V l) ∧ μ.E.length ≤ μ.N) (h : Holds P H) [f : Fr P (blk m (.cells false [.map (some c), l]) * (blk c (.map es ck) * sl 5 l μ.E.length (evCells μ.E))) R] [i : Hs P c (.map es ck)]
    (hk : ∀ H', Holds (memP m (μ.put at' v) * R) H' → wp (k H') Q) : wp ((pUpdate (.flat 3) (.map (some c)) (encL at') (.agg #[vu v]) H).bind k) Q := by
  have h' := Holds.fr (f := f) h
  refine w_upd hp.1 h' fun es' ck' H' he hh => hk H' ?_
  have h2 := hh _ inferInstance
  refine Holds.ex.2 ⟨(c, l, alSet al at' v, es', ck'), ?_⟩
  rw [sep_assoc, Holds.pu]
  refine ⟨⟨he, fun x => ?_, hp.2.2⟩, h2.to⟩
  dsimp only
  rw [alGet_set, hp.2.1]
theorem mem_store (m : Nat) (μ : Mu) (who : Int) (at' : Loc) (v : Nat) (hE : μ.N < 1099511627776) : Sp n_mem_Mem_Store [vp m, vi who, encL at', vu v] (memP m μ) (fun _ : Unit => .tuple #[]) (fun _ => memP m ((μ.log who 2 at').put at' v)) := by
  refine sp_of fun R H h => ?_
  refine wp_of (fun r => mem_Mem_Store_of _ _ _ _ H) ?_
  refine w_new (cs := [vi at'.1, vi at'.2.1, vi at'.2.2]) h fun b0 H1 h1 => ?_
  refine w_LdN h1 ?_
  refine w_call h1 (mem_note m μ who 2 at' hE) fun _ H2 h2 => ?_
  obtain ⟨⟨c, l, al, es, ck⟩, h2⟩ := Holds.ex.1 h2
  rw [sep_assoc, Holds.pu] at h2
  obtain ⟨hp, h2⟩ := h2
  dsimp only at h2 hp
  refine w_ld h2 end_nf rfl ?_
  refine w_LdN h2 ?_
  refine w_mkS (cs := [vu v]) rfl ?_
  refine memP_put (m := m) (l := l) (μ := μ.log who 2 at') (at' := at') (v := v) hp h2 fun H3 h3 => ?_
  exact w_ret ⟨(), rfl, h3.to⟩
theorem mem_turn (m : Nat) (μ : Mu) (who : Int) (at' : Loc) (v : Nat) (hE : μ.N < 1099511627776) : Sp n_mem_Mem_turn [vp m, vi who, encL at', vu v] (memP m μ) (fun _ : Unit => vu (μ.V at')) (fun _ => memP m ((μ.log who 3 at').put at' v)) := by
  refine sp_of fun R H h => ?_
  refine wp_of (fun r => mem_Mem_turn_of _ _ _ _ H) ?_
  refine w_new (cs := [vi at'.1, vi at'.2.1, vi at'.2.2]) h fun b0 H1 h1 => ?_
  refine w_LdN h1 ?_
  refine w_call h1 (mem_peek m μ at') fun _ H2 h2 => ?_
  refine w_LdN h2 ?_
  refine w_call h2 (mem_note m μ who 3 at' hE) fun _ H3 h3 => ?_
  obtain ⟨⟨c, l, al, es, ck⟩, h3⟩ := Holds.ex.1 h3
  rw [sep_assoc, Holds.pu] at h3
  obtain ⟨hp, h3⟩ := h3
  dsimp only at h3 hp
  refine w_ld h3 end_nf rfl ?_
  refine w_LdN h3 ?_
  refine w_mkS (cs := [vu v]) rfl ?_
  refine memP_put (m := m) (l := l) (μ := μ.log who 3 at') (at' := at') (v := v) hp h3 fun H4 h4 => ?_
  exact w_ret ⟨(), rfl, h4.to⟩
theorem mem_load (m : Nat) (μ : Mu) (who : Int) (at' : Loc) (hE : μ.N < 1099511627776) : Sp n_mem_Mem_Load [vp m, vi who, encL at'] (memP m μ) (fun _ : Unit => vu (μ.V at')) (fun _ => memP m (μ.log who 1 at')) := by
  refine sp_of fun R H h => ?_
  refine wp_of (fun r => mem_Mem_Load_of _ _ _ H) ?_
  refine w_new (cs := [vi at'.1, vi at'.2.1, vi at'.2.2]) h fun b0 H1 h1 => ?_
  refine w_LdN h1 ?_
  refine w_call h1 (mem_note m μ who 1 at' hE) fun _ H2 h2 => ?_
  refine w_LdN h2 ?_
  refine w_call h2 (mem_peek m (μ.log who 1 at') at') fun _ H3 h3 => ?_
  exact w_ret ⟨(), rfl, h3.to⟩

abbrev Mu.swap (μ : Mu) (who : Int) (at' : Loc) (was now : Nat) : Mu := if μ.V at' = was then (μ.log who 3 at').put at' now else μ.log who 4 at'
theorem mem_swap (m : Nat) (μ : Mu) (who : Int) (at' : Loc) (was now : Nat) (hE : μ.N < 1099511627776) :
    Sp n_mem_Mem_Swap [vp m, vi who, encL at', vu was, vu now] (memP m μ) (fun _ : Unit => vb (decide (μ.V at' = was))) (fun _ => memP m (μ.swap who at' was now)) := by
  refine sp_of fun R H h => ?_
  refine wp_of (fun r => mem_Mem_Swap_of _ _ _ _ _ H) ?_
  refine w_new (cs := [vi at'.1, vi at'.2.1, vi at'.2.2]) h fun b0 H1 h1 => ?_
  refine w_LdN h1 ?_
  refine w_call h1 (mem_peek m μ at') fun _ H2 h2 => ?_
  refine w_bind neq_u ?_
  unfold Mu.swap
  refine w_cond (fun hc => ?_) (fun hc => ?_)
  · have hc : ¬ μ.V at' = was := by simpa using hc
    rw [if_neg hc, decide_eq_false hc]
    refine w_LdN h2 ?_
    refine w_call h2 (mem_note m μ who 4 at' hE) fun _ H3 h3 => ?_
    exact w_ret ⟨(), rfl, h3.to⟩
  · have hc : μ.V at' = was := by simpa using hc
    rw [if_pos hc, decide_eq_true hc]
    refine w_LdN h2 ?_
    refine w_call h2 (mem_turn m μ who at' now hE) fun _ H3 h3 => ?_
    exact w_ret ⟨(), rfl, h3.to⟩
theorem mem_add (m : Nat) (μ : Mu) (who : Int) (at' : Loc) (n : Nat) (hE : μ.N < 1099511627776) :
    Sp n_mem_Mem_Add [vp m, vi who, encL at', vu n] (memP m μ) (fun _ : Unit => vu (μ.V at')) (fun _ => memP m ((μ.log who 3 at').put at' ((μ.V at' + n) % 18446744073709551616))) := by
  refine sp_of fun R H h => ?_
  refine wp_of (fun r => mem_Mem_Add_of _ _ _ _ H) ?_
  repeat (first
    | refine w_newC (by assumption) fun _ _ _ => ?_
    | refine w_new (by assumption) fun _ _ _ => ?_
    | refine w_map (by assumption) fun _ _ _ => ?_
    | refine w_LdN (by assumption) ?_
    | refine w_ld (by assumption) end_nf rfl ?_
    | refine w_ld (by assumption) end_f0 rfl ?_
    | refine w_ldN (by assumption) end_nf ?_
    | refine w_ldN (by assumption) end_f0 ?_
    | refine w_ad end_nf ?_
    | refine w_ad end_f0 ?_
    | refine w_Ld1 (by assumption) rfl ?_
    | refine w_st (by assumption) end_nf rfl rfl fun _ _ => ?_
    | refine w_st (by assumption) end_f0 rfl rfl fun _ _ => ?_
    | refine w_St (by assumption) rfl rfl fun _ _ => ?_
    | refine w_S ?_
    | refine w_R (by assumption) fun _ _ _ => ?_
    | refine w_eqK_rfl ?_
    | refine w_eq1 (by assumption) (by assumption) rfl ?_
    | refine w_eqN (by assumption) (by assumption) rfl ?_
    | refine w_len ?_)
  refine w_call (by assumption) (mem_peek m μ at') fun _ _ _ => ?_
  repeat (first
    | refine w_newC (by assumption) fun _ _ _ => ?_
    | refine w_new (by assumption) fun _ _ _ => ?_
    | refine w_map (by assumption) fun _ _ _ => ?_
    | refine w_LdN (by assumption) ?_
    | refine w_ld (by assumption) end_nf rfl ?_
    | refine w_ld (by assumption) end_f0 rfl ?_
    | refine w_ldN (by assumption) end_nf ?_
    | refine w_ldN (by assumption) end_f0 ?_
    | refine w_ad end_nf ?_
    | refine w_ad end_f0 ?_
    | refine w_Ld1 (by assumption) rfl ?_
    | refine w_st (by assumption) end_nf rfl rfl fun _ _ => ?_
    | refine w_st (by assumption) end_f0 rfl rfl fun _ _ => ?_
    | refine w_St (by assumption) rfl rfl fun _ _ => ?_
    | refine w_S ?_
    | refine w_R (by assumption) fun _ _ _ => ?_
    | refine w_eqK_rfl ?_
    | refine w_eq1 (by assumption) (by assumption) rfl ?_
    | refine w_eqN (by assumption) (by assumption) rfl ?_
    | refine w_len ?_)
  refine w_bind (add_u) ?_
  refine w_call (by assumption) (mem_turn m μ who at' _ hE) fun _ _ _ => ?_
  exact w_ret ⟨(), rfl, Holds.to (by assumption)⟩
theorem mem_read (m : Nat) (μ : Mu) (who : Int) (at' : Loc) (hE : μ.N < 1099511627776) :
    Sp n_mem_Mem_Read [vp m, vi who, encL at'] (memP m μ) (fun _ : Unit => .tuple #[]) (fun _ => memP m (μ.log who 5 at')) := by
  refine sp_of fun R H h => ?_
  refine wp_of (fun r => mem_Mem_Read_of _ _ _ H) ?_
  repeat (first
    | refine w_newC (by assumption) fun _ _ _ => ?_
    | refine w_new (by assumption) fun _ _ _ => ?_
    | refine w_map (by assumption) fun _ _ _ => ?_
    | refine w_LdN (by assumption) ?_
    | refine w_ld (by assumption) end_nf rfl ?_
    | refine w_ld (by assumption) end_f0 rfl ?_
    | refine w_ldN (by assumption) end_nf ?_
    | refine w_ldN (by assumption) end_f0 ?_
    | refine w_ad end_nf ?_
    | refine w_ad end_f0 ?_
    | refine w_Ld1 (by assumption) rfl ?_
    | refine w_st (by assumption) end_nf rfl rfl fun _ _ => ?_
    | refine w_st (by assumption) end_f0 rfl rfl fun _ _ => ?_
    | refine w_St (by assumption) rfl rfl fun _ _ => ?_
    | refine w_S ?_
    | refine w_R (by assumption) fun _ _ _ => ?_
    | refine w_eqK_rfl ?_
    | refine w_eq1 (by assumption) (by assumption) rfl ?_
    | refine w_eqN (by assumption) (by assumption) rfl ?_
    | refine w_len ?_)
  refine w_call (by assumption) (mem_note m μ who 5 at' hE) fun _ _ _ => ?_
  exact w_ret ⟨(), rfl, Holds.to (by assumption)⟩
theorem mem_write (m : Nat) (μ : Mu) (who : Int) (at' : Loc) (hE : μ.N < 1099511627776) :
    Sp n_mem_Mem_Write [vp m, vi who, encL at'] (memP m μ) (fun _ : Unit => .tuple #[]) (fun _ => memP m (μ.log who 6 at')) := by
  refine sp_of fun R H h => ?_
  refine wp_of (fun r => mem_Mem_Write_of _ _ _ H) ?_
  repeat (first
    | refine w_newC (by assumption) fun _ _ _ => ?_
    | refine w_new (by assumption) fun _ _ _ => ?_
    | refine w_map (by assumption) fun _ _ _ => ?_
    | refine w_LdN (by assumption) ?_
    | refine w_ld (by assumption) end_nf rfl ?_
    | refine w_ld (by assumption) end_f0 rfl ?_
    | refine w_ldN (by assumption) end_nf ?_
    | refine w_ldN (by assumption) end_f0 ?_
    | refine w_ad end_nf ?_
    | refine w_ad end_f0 ?_
    | refine w_Ld1 (by assumption) rfl ?_
    | refine w_st (by assumption) end_nf rfl rfl fun _ _ => ?_
    | refine w_st (by assumption) end_f0 rfl rfl fun _ _ => ?_
    | refine w_St (by assumption) rfl rfl fun _ _ => ?_
    | refine w_S ?_
    | refine w_R (by assumption) fun _ _ _ => ?_
    | refine w_eqK_rfl ?_
    | refine w_eq1 (by assumption) (by assumption) rfl ?_
    | refine w_eqN (by assumption) (by assumption) rfl ?_
    | refine w_len ?_)
  refine w_call (by assumption) (mem_note m μ who 6 at' hE) fun _ _ _ => ?_
  exact w_ret ⟨(), rfl, Holds.to (by assumption)⟩

/-! One bound for both sides: an access counts two. -/
theorem Sp.imp {α : Type} {f : Nat} {args : List Value} {P : SP} {v : α → Value} {Q Q' : α → SP} (s : Sp f args P v Q) (h : ∀ x R H, Holds (Q x * R) H → Holds (Q' x * R) H) : Sp f args P v Q' := by
  intro R H hh
  obtain ⟨x, H', e, hq⟩ := s R H hh
  exact ⟨x, H', e, h x R H' hq⟩
theorem memP_le {m : Nat} {V : Loc → Nat} {E : List Ev} {N N' : Nat} {R : SP} {H : AH} (hN : N ≤ N') (h : Holds (memP m ⟨V, E, N⟩ * R) H) : Holds (memP m ⟨V, E, N'⟩ * R) H := by
  obtain ⟨g, h⟩ := Holds.ex.1 h
  rw [sep_assoc, Holds.pu] at h
  refine Holds.ex.2 ⟨g, ?_⟩
  rw [sep_assoc, Holds.pu]
  exact ⟨⟨h.1.1, h.1.2.1, Nat.le_trans h.1.2.2 hN⟩, h.2⟩
abbrev Mu.acc (μ : Mu) (who kind : Int) (at' : Loc) : Mu := { V := μ.V, E := μ.E ++ [⟨who, kind, at'⟩], N := μ.N + 2 }
abbrev Mu.swp (μ : Mu) (who : Int) (at' : Loc) (was now : Nat) : Mu := { V := (μ.swap who at' was now).V, E := (μ.swap who at' was now).E, N := μ.N + 2 }
theorem p_load (m : Nat) (μ : Mu) (who : Int) (at' : Loc) (hE : μ.N < 1099511627776) : Sp n_mem_Mem_Load [vp m, vi who, encL at'] (memP m μ) (fun _ : Unit => vu (μ.V at')) (fun _ => memP m (μ.acc who 1 at')) :=
  (mem_load m μ who at' hE).imp fun _ R H h => memP_le (by simp) h
theorem p_store (m : Nat) (μ : Mu) (who : Int) (at' : Loc) (v : Nat) (hE : μ.N < 1099511627776) : Sp n_mem_Mem_Store [vp m, vi who, encL at', vu v] (memP m μ) (fun _ : Unit => .tuple #[]) (fun _ => memP m ((μ.acc who 2 at').put at' v)) :=
  (mem_store m μ who at' v hE).imp fun _ R H h => memP_le (by simp) h
theorem p_swap (m : Nat) (μ : Mu) (who : Int) (at' : Loc) (was now : Nat) (hE : μ.N < 1099511627776) :
    Sp n_mem_Mem_Swap [vp m, vi who, encL at', vu was, vu now] (memP m μ) (fun _ : Unit => vb (decide (μ.V at' = was))) (fun _ => memP m (μ.swp who at' was now)) :=
  (mem_swap m μ who at' was now hE).imp fun _ R H h => by
    have : (μ.swap who at' was now).N ≤ μ.N + 2 := by unfold Mu.swap; split <;> simp
    exact memP_le this h
theorem p_add (m : Nat) (μ : Mu) (who : Int) (at' : Loc) (n : Nat) (hE : μ.N < 1099511627776) :
    Sp n_mem_Mem_Add [vp m, vi who, encL at', vu n] (memP m μ) (fun _ : Unit => vu (μ.V at')) (fun _ => memP m ((μ.acc who 3 at').put at' ((μ.V at' + n) % 18446744073709551616))) :=
  (mem_add m μ who at' n hE).imp fun _ R H h => memP_le (by simp) h
/-! ### The reference's memory -/
def encP (p : Loc × Nat) : List Value := [vi p.1.1, vi p.1.2.1, vi p.1.2.2]
def encV (p : Loc × Nat) : List Value := [vu p.2]
instance : Enc encP 3 := ⟨fun _ => rfl, fun _ => rfl, by omega⟩
instance : Enc encV 1 := ⟨fun _ => rfl, fun _ => rfl, by omega⟩
/-- Places, their numbers, what was logged. -/
def memXa (m : Nat) (al : List (Loc × Nat)) (E : List Ev) : SP := ex fun g : Value × Value × Value =>
  blk m (.cells false [g.1, g.2.1, g.2.2]) * (ts 3 encP g.1 al * (ts 1 encV g.2.1 al * ts 5 Ev.cells g.2.2 E))
def memX (m : Nat) (μ : Mu) : SP := ex fun al : List (Loc × Nat) => pu ((∀ l, alGet al l = μ.V l) ∧ al.length + μ.E.length ≤ μ.N) * memXa m al μ.E
def alIdx (al : List (Loc × Nat)) (l : Loc) : Nat := al.findIdx fun p => p.1 == l
/-- The place is there. -/
def alHas (al : List (Loc × Nat)) (l : Loc) : List (Loc × Nat) := if alIdx al l < al.length then al else al ++ [(l, 0)]
theorem alIdx_cons (p : Loc × Nat) (al : List (Loc × Nat)) (l : Loc) : alIdx (p :: al) l = if p.1 = l then 0 else alIdx al l + 1 := by
  unfold alIdx
  rw [List.findIdx_cons]
  by_cases h : p.1 = l
  · simp [h]
  · have : (p.1 == l) = false := by simpa using h
    simp [h, this]
theorem alGet_at (l : Loc) : ∀ (al : List (Loc × Nat)) (h : alIdx al l < al.length), al[alIdx al l] = (l, alGet al l) := by
  intro al
  induction al with
  | nil => intro h; simp at h
  | cons p al ih =>
    intro h
    have e := alIdx_cons p al l
    by_cases hp : p.1 = l
    · rw [if_pos hp] at e
      simp only [e, List.getElem_cons_zero, alGet_cons, hp, if_true]
      exact Prod.ext hp rfl
    · rw [if_neg hp] at e
      rw [e, List.length_cons] at h
      simp only [e, List.getElem_cons_succ, alGet_cons, hp, if_false]
      exact ih (by omega)
theorem alGet_no (l : Loc) : ∀ (al : List (Loc × Nat)), ¬ alIdx al l < al.length → alGet al l = 0 := by
  intro al
  induction al with
  | nil => intro _; rfl
  | cons p al ih =>
    intro h
    have e := alIdx_cons p al l
    by_cases hp : p.1 = l
    · rw [if_pos hp] at e
      simp [e] at h
    · rw [if_neg hp] at e
      rw [alGet_cons, if_neg hp]
      exact ih (by rw [e, List.length_cons] at h; omega)
theorem alGet_snoc (l x : Loc) : ∀ (al : List (Loc × Nat)), ¬ alIdx al l < al.length → alGet (al ++ [(l, 0)]) x = alGet al x := by
  intro al
  induction al with
  | nil =>
    intro _
    show alGet [(l, 0)] x = alGet [] x
    rw [alGet_cons]
    split <;> rfl
  | cons p al ih =>
    intro h
    have e := alIdx_cons p al l
    by_cases hp : p.1 = l
    · rw [if_pos hp] at e
      simp [e] at h
    · rw [if_neg hp] at e
      rw [List.cons_append, alGet_cons, alGet_cons, ih (by rw [e, List.length_cons] at h; omega)]
theorem alIdx_snoc (l : Loc) (al : List (Loc × Nat)) (h : ¬ alIdx al l < al.length) : alIdx (al ++ [(l, 0)]) l = al.length := by
  induction al with
  | nil => simp [alIdx, List.findIdx_cons]
  | cons p al ih =>
    have e := alIdx_cons p al l
    by_cases hp : p.1 = l
    · rw [if_pos hp] at e
      simp [e] at h
    · rw [if_neg hp] at e
      rw [List.cons_append, alIdx_cons, if_neg hp, ih (by rw [e, List.length_cons] at h; omega), List.length_cons]
theorem alHas_get (al : List (Loc × Nat)) (l x : Loc) : alGet (alHas al l) x = alGet al x := by
  unfold alHas
  split
  · rfl
  · exact alGet_snoc l x al (by assumption)
theorem alHas_lt (al : List (Loc × Nat)) (l : Loc) : alIdx (alHas al l) l < (alHas al l).length := by
  unfold alHas
  split
  · assumption
  · rw [alIdx_snoc l al (by assumption)]; simp
theorem alHas_idx (al : List (Loc × Nat)) (l : Loc) : (alHas al l)[alIdx (alHas al l) l]'(alHas_lt al l) = (l, alGet al l) := by
  rw [alGet_at l _ (alHas_lt al l), alHas_get]
theorem alSet_set (l : Loc) (v : Nat) : ∀ (al : List (Loc × Nat)), alIdx al l < al.length → alSet al l v = al.set (alIdx al l) (l, v) := by
  intro al
  induction al with
  | nil => intro h; simp at h
  | cons p al ih =>
    intro h
    have e := alIdx_cons p al l
    by_cases hp : p.1 = l
    · rw [if_pos hp] at e
      simp [alSet, hp, e]
    · rw [if_neg hp] at e
      rw [e, List.length_cons] at h
      simp only [alSet, hp, if_false, e, List.set_cons_succ]
      rw [ih (by omega)]

theorem r16_log (m : Nat) (al : List (Loc × Nat)) (E : List Ev) (who kind : Int) (at' : Loc) (hE : E.length < 1099511627776) : Sp n_r16_Mem_Log [vp m, vi who, vi kind, encL at'] (memXa m al E) (fun _ : Unit => .tuple #[]) (fun _ => memXa m al (E ++ [⟨who, kind, at'⟩])) := by
  refine sp_of fun R H h => ?_
  refine wp_of (fun r => r16_Mem_Log_of _ _ _ _ H) ?_
  obtain ⟨⟨a, v, e⟩, h⟩ := Holds.ex.1 h
  dsimp only at h
  repeat (first
    | refine w_newC (by assumption) fun _ _ _ => ?_
    | refine w_new (by assumption) fun _ _ _ => ?_
    | refine w_map (by assumption) fun _ _ _ => ?_
    | refine w_LdN (by assumption) ?_
    | refine w_ld (by assumption) end_nf rfl ?_
    | refine w_ld (by assumption) end_f0 rfl ?_
    | refine w_ldN (by assumption) end_nf ?_
    | refine w_ldN (by assumption) end_f0 ?_
    | refine w_ad end_nf ?_
    | refine w_ad end_f0 ?_
    | refine w_Ld1 (by assumption) rfl ?_
    | refine w_st (by assumption) end_nf rfl rfl fun _ _ => ?_
    | refine w_st (by assumption) end_f0 rfl rfl fun _ _ => ?_
    | refine w_St (by assumption) rfl rfl fun _ _ => ?_
    | refine w_S ?_
    | refine w_R (by assumption) fun _ _ _ => ?_
    | refine w_eqK_rfl ?_
    | refine w_eq1 (by assumption) (by assumption) rfl ?_
    | refine w_eqN (by assumption) (by assumption) rfl ?_
    | refine w_len ?_)
  refine w_tapp ((⟨who, kind, at'⟩ : Ev)) (by assumption) rfl ?_ (by omega) fun a' c' _ _ => ?_
  · unfold room; omega
  repeat (first
    | refine w_newC (by assumption) fun _ _ _ => ?_
    | refine w_new (by assumption) fun _ _ _ => ?_
    | refine w_map (by assumption) fun _ _ _ => ?_
    | refine w_LdN (by assumption) ?_
    | refine w_ld (by assumption) end_nf rfl ?_
    | refine w_ld (by assumption) end_f0 rfl ?_
    | refine w_ldN (by assumption) end_nf ?_
    | refine w_ldN (by assumption) end_f0 ?_
    | refine w_ad end_nf ?_
    | refine w_ad end_f0 ?_
    | refine w_Ld1 (by assumption) rfl ?_
    | refine w_st (by assumption) end_nf rfl rfl fun _ _ => ?_
    | refine w_st (by assumption) end_f0 rfl rfl fun _ _ => ?_
    | refine w_St (by assumption) rfl rfl fun _ _ => ?_
    | refine w_S ?_
    | refine w_R (by assumption) fun _ _ _ => ?_
    | refine w_eqK_rfl ?_
    | refine w_eq1 (by assumption) (by assumption) rfl ?_
    | refine w_eqN (by assumption) (by assumption) rfl ?_
    | refine w_len ?_)
  exact w_ret ⟨(), rfl, Holds.ex.2 ⟨(a, v, .slice a' (E.length + 1) c'), Holds.to (by assumption)⟩⟩

theorem alIdx_first (l : Loc) : ∀ (al : List (Loc × Nat)) (k : Nat) (hk : k < al.length), al[k].1 = l → (∀ j, j < k → ∀ p, al[j]? = some p → p.1 ≠ l) → alIdx al l = k := by
  intro al
  induction al with
  | nil => intro k hk; simp at hk
  | cons p al ih =>
    intro k hk h hno
    rw [alIdx_cons]
    cases k with
    | zero => rw [if_pos (by simpa using h)]
    | succ k =>
      rw [if_neg (hno 0 (by omega) p rfl), ih k (by simpa using hk) (by simpa using h) fun j hj q hq => hno (j + 1) (by omega) q (by simpa using hq)]
theorem place_loop {m b0 : Nat} {al : List (Loc × Nat)} {E : List Ev} {at' : Loc} {R : SP} (hal : al.length < 1099511627776) {a v e : Value} (x4 : Value) {H : AH}
    (h : Holds (blk b0 (.cells false [vi at'.1, vi at'.2.1, vi at'.2.2]) * (blk m (.cells false [a, v, e]) * (ts 3 encP a al * (ts 1 encV v al * ts 5 Ev.cells e E)) * R)) H) :
    ∀ (n k : Nat), k + n = al.length → (∀ j, j < k → ∀ p, al[j]? = some p → p.1 ≠ at') →
      wp (r16_Mem_place_k19 (vp m) (vp b0) x4 (vi k) H) fun v' H' => v' = vi (alIdx (alHas al at') at') ∧ Holds (memXa m (alHas al at') E * R) H' := by
  intro n
  induction n with
  | zero =>
    intro k hk hno
    have hidx : ¬ alIdx al at' < al.length := by
      intro hlt
      have := alGet_at at' al hlt
      exact hno _ (by omega) _ (List.getElem?_eq_getElem hlt) (by rw [this])
    refine wp_eq (r16_Mem_place_k19_eq _ _ _ _ H) ?_
    refine w_ld h end_nf rfl ?_
    refine w_tlen (s := a) h ?_
    refine w_bind bin_lss ?_
    refine w_cond (fun hc => ?_) (fun hc => ?_)
    · simp at hc; omega
    refine wp_eq (r16_Mem_place_e18_0_eq _ _ _ H) ?_
    refine wp_eq (r16_Mem_place_k1_eq _ _ _ H) ?_
    have e1 : alHas al at' = al ++ [(at', 0)] := if_neg hidx
    have e2 : alIdx (alHas al at') at' = al.length := by rw [e1, alIdx_snoc at' al hidx]
    rw [e1, ← e1, e2, e1]
    repeat (first
      | refine w_newC (by assumption) fun _ _ _ => ?_
      | refine w_new (by assumption) fun _ _ _ => ?_
      | refine w_map (by assumption) fun _ _ _ => ?_
      | refine w_LdN (by assumption) ?_
      | refine w_ld (by assumption) end_nf rfl ?_
      | refine w_ld (by assumption) end_f0 rfl ?_
      | refine w_ldN (by assumption) end_nf ?_
      | refine w_ldN (by assumption) end_f0 ?_
      | refine w_ad end_nf ?_
      | refine w_ad end_f0 ?_
      | refine w_Ld1 (by assumption) rfl ?_
      | refine w_st (by assumption) end_nf rfl rfl fun _ _ => ?_
      | refine w_st (by assumption) end_f0 rfl rfl fun _ _ => ?_
      | refine w_St (by assumption) rfl rfl fun _ _ => ?_
      | refine w_S ?_
      | refine w_R (by assumption) fun _ _ _ => ?_
      | refine w_eqK_rfl ?_
      | refine w_eq1 (by assumption) (by assumption) rfl ?_
      | refine w_eqN (by assumption) (by assumption) rfl ?_
      | refine w_len ?_)
    refine w_tapp (((at', 0) : Loc × Nat)) (by assumption) rfl ?_ (by omega) fun a1 c1 H1 h1 => ?_
    · unfold room; omega
    repeat (first
      | refine w_newC (by assumption) fun _ _ _ => ?_
      | refine w_new (by assumption) fun _ _ _ => ?_
      | refine w_map (by assumption) fun _ _ _ => ?_
      | refine w_LdN (by assumption) ?_
      | refine w_ld (by assumption) end_nf rfl ?_
      | refine w_ld (by assumption) end_f0 rfl ?_
      | refine w_ldN (by assumption) end_nf ?_
      | refine w_ldN (by assumption) end_f0 ?_
      | refine w_ad end_nf ?_
      | refine w_ad end_f0 ?_
      | refine w_Ld1 (by assumption) rfl ?_
      | refine w_st (by assumption) end_nf rfl rfl fun _ _ => ?_
      | refine w_st (by assumption) end_f0 rfl rfl fun _ _ => ?_
      | refine w_St (by assumption) rfl rfl fun _ _ => ?_
      | refine w_S ?_
      | refine w_R (by assumption) fun _ _ _ => ?_
      | refine w_eqK_rfl ?_
      | refine w_eq1 (by assumption) (by assumption) rfl ?_
      | refine w_eqN (by assumption) (by assumption) rfl ?_
      | refine w_len ?_)
    refine w_tapp (((at', 0) : Loc × Nat)) (by assumption) rfl ?_ (by omega) fun a2 c2 H2 h2 => ?_
    · unfold room; omega
    repeat (first
      | refine w_newC (by assumption) fun _ _ _ => ?_
      | refine w_new (by assumption) fun _ _ _ => ?_
      | refine w_map (by assumption) fun _ _ _ => ?_
      | refine w_LdN (by assumption) ?_
      | refine w_ld (by assumption) end_nf rfl ?_
      | refine w_ld (by assumption) end_f0 rfl ?_
      | refine w_ldN (by assumption) end_nf ?_
      | refine w_ldN (by assumption) end_f0 ?_
      | refine w_ad end_nf ?_
      | refine w_ad end_f0 ?_
      | refine w_Ld1 (by assumption) rfl ?_
      | refine w_st (by assumption) end_nf rfl rfl fun _ _ => ?_
      | refine w_st (by assumption) end_f0 rfl rfl fun _ _ => ?_
      | refine w_St (by assumption) rfl rfl fun _ _ => ?_
      | refine w_S ?_
      | refine w_R (by assumption) fun _ _ _ => ?_
      | refine w_eqK_rfl ?_
      | refine w_eq1 (by assumption) (by assumption) rfl ?_
      | refine w_eqN (by assumption) (by assumption) rfl ?_
      | refine w_len ?_)
    refine w_bind (bin_sub_i (by omega) (by omega)) ?_
    refine w_ret ⟨by congr 1; omega, ?_⟩
    exact Holds.ex.2 ⟨(.slice a1 (al.length + 1) c1, .slice a2 (al.length + 1) c2, e), Holds.to (by assumption)⟩
  | succ n ih =>
    intro k hk hno
    have hkl : k < al.length := by omega
    refine wp_eq (r16_Mem_place_k19_eq _ _ _ _ H) ?_
    refine w_ld h end_nf rfl ?_
    refine w_tlen (s := a) h ?_
    refine w_bind bin_lss ?_
    refine w_cond (fun hc => ?_) (fun hc => ?_)
    · refine wp_eq (r16_Mem_place_k20_eq _ _ _ _ H) ?_
      refine w_ld h end_nf rfl ?_
      refine w_tldN (s := a) h hkl ?_
      refine w_LdN h ?_
      refine w_bind (eqCells3 al[k].1 at') ?_
      refine w_cond (fun hc => ?_) (fun hc => ?_)
      · have hc : al[k].1 = at' := by simpa using hc
        have hidx := alIdx_first at' al k hkl hc hno
        have e1 : alHas al at' = al := by unfold alHas; rw [if_pos (by omega)]
        refine w_ret ⟨by rw [e1, hidx], ?_⟩
        rw [e1]
        exact Holds.ex.2 ⟨(a, v, e), Holds.to h⟩
      · have hc : al[k].1 ≠ at' := by simpa using hc
        refine wp_eq (r16_Mem_place_k21_eq _ _ _ _ H) ?_
        refine w_bind (bin_add_i (by omega) (by omega)) ?_
        refine ih (k + 1) (by omega) fun j hj p hp => ?_
        by_cases hjk : j = k
        · subst hjk
          rw [List.getElem?_eq_getElem hkl] at hp
          cases hp
          exact hc
        · exact hno j (by omega) p hp
    · simp at hc; omega

theorem r16_place (m : Nat) (al : List (Loc × Nat)) (E : List Ev) (at' : Loc) (hal : al.length < 1099511627776) : Sp n_r16_Mem_place [vp m, encL at'] (memXa m al E) (fun _ : Unit => vi (alIdx (alHas al at') at')) (fun _ => memXa m (alHas al at') E) := by
  refine sp_of fun R H h => ?_
  refine wp_of (fun r => r16_Mem_place_of _ _ H) ?_
  obtain ⟨⟨a, v, e⟩, h⟩ := Holds.ex.1 h
  dsimp only at h
  refine w_newC h fun b0 H1 h1 => ?_
  refine wp_eq (r16_Mem_place_k0_eq _ _ _ H1) ?_
  refine wp_eq (r16_Mem_place_k17_eq _ _ _ _ H1) ?_
  refine (place_loop hal (vi 0) h1 al.length 0 (by omega) (fun j hj => by omega)).mono fun v' H' h' => ⟨(), h'.1, h'.2⟩

theorem ts_keys (a : Value) (al : List (Loc × Nat)) (i : Nat) (hi : i < al.length) (v : Nat) : ts 3 encP a (al.set i (al[i].1, v)) = ts 3 encP a al := by
  unfold ts
  rw [List.length_set, flat_set al i hi, flat_split al i hi]
  rfl
theorem memX_close {m : Nat} {μ : Mu} {al : List (Loc × Nat)} {a v e : Value} {P R : SP} {H : AH} (hp : (∀ l, alGet al l = μ.V l) ∧ al.length + μ.E.length ≤ μ.N) (h : Holds P H)
    {Z : SP} [f : Fr P ((blk m (.cells false [a, v, e]) * (ts 3 encP a al * (ts 1 encV v al * ts 5 Ev.cells e μ.E))) * R) Z] : Holds (memX m μ * R) H := by
  refine Holds.ex.2 ⟨al, ?_⟩
  rw [sep_assoc, Holds.pu]
  exact ⟨hp, Holds.ex.2 ⟨(a, v, e), h.to⟩⟩
theorem memXa_close {m : Nat} {μ : Mu} {al : List (Loc × Nat)} {P R : SP} {H : AH} (hp : (∀ l, alGet al l = μ.V l) ∧ al.length + μ.E.length ≤ μ.N) (h : Holds P H) {Z : SP} [f : Fr P (memXa m al μ.E * R) Z] : Holds (memX m μ * R) H := by
  refine Holds.ex.2 ⟨al, ?_⟩
  rw [sep_assoc, Holds.pu]
  exact ⟨hp, h.to⟩
theorem alHas_len (al : List (Loc × Nat)) (l : Loc) : (alHas al l).length ≤ al.length + 1 := by unfold alHas; split <;> simp
/-- The place is there, and stands so far behind the first one. -/
def memXi (m : Nat) (μ : Mu) (at' : Loc) (i : Nat) : SP := ex fun g : List (Loc × Nat) × Value × Value × Value =>
  pu ((∀ l, alGet g.1 l = μ.V l) ∧ g.1.length + μ.E.length ≤ μ.N ∧ alIdx g.1 at' = i ∧ i < g.1.length) * (blk m (.cells false [g.2.1, g.2.2.1, g.2.2.2]) * (ts 3 encP g.2.1 g.1 * (ts 1 encV g.2.2.1 g.1 * ts 5 Ev.cells g.2.2.2 μ.E)))
theorem xplace (m : Nat) (μ : Mu) (at' : Loc) (hE : μ.N < 1099511627776) : Sp n_r16_Mem_place [vp m, encL at'] (memX m μ) (fun i : Nat => vi (i : Int)) (fun i => memXi m { μ with N := μ.N + 1 } at' i) := by
  intro R H h
  obtain ⟨al, h⟩ := Holds.ex.1 h
  rw [sep_assoc, Holds.pu] at h
  obtain ⟨hp, h⟩ := h
  obtain ⟨_, H', e, h'⟩ := r16_place m al μ.E at' (by omega) R H h
  refine ⟨alIdx (alHas al at') at', H', e, ?_⟩
  obtain ⟨⟨a, v, ev⟩, h'⟩ := Holds.ex.1 h'
  refine Holds.ex.2 ⟨(alHas al at', a, v, ev), ?_⟩
  rw [sep_assoc, Holds.pu]
  have := alHas_len al at'
  exact ⟨⟨fun l => by rw [alHas_get, hp.1], by dsimp only; omega, rfl, alHas_lt al at'⟩, h'⟩
theorem xlog (m : Nat) (μ : Mu) (who kind : Int) (at' : Loc) (hE : μ.N < 1099511627776) : Sp n_r16_Mem_Log [vp m, vi who, vi kind, encL at'] (memX m μ) (fun _ : Unit => .tuple #[]) (fun _ => memX m (μ.log who kind at')) := by
  intro R H h
  obtain ⟨al, h⟩ := Holds.ex.1 h
  rw [sep_assoc, Holds.pu] at h
  obtain ⟨hp, h⟩ := h
  obtain ⟨_, H', e, h'⟩ := r16_log m al μ.E who kind at' (by omega) R H h
  refine ⟨(), H', e, ?_⟩
  refine Holds.ex.2 ⟨al, ?_⟩
  rw [sep_assoc, Holds.pu]
  exact ⟨⟨hp.1, by simp; omega⟩, h'⟩
theorem ilog (m : Nat) (μ : Mu) (at2 : Loc) (i : Nat) (who kind : Int) (at' : Loc) (hE : μ.N < 1099511627776) : Sp n_r16_Mem_Log [vp m, vi who, vi kind, encL at'] (memXi m μ at2 i) (fun _ : Unit => .tuple #[]) (fun _ => memXi m (μ.log who kind at') at2 i) := by
  intro R H h
  obtain ⟨⟨al, a, v, e⟩, h⟩ := Holds.ex.1 h
  rw [sep_assoc, Holds.pu] at h
  obtain ⟨hp, h⟩ := h
  dsimp only at hp h
  obtain ⟨_, H', e', h'⟩ := r16_log m al μ.E who kind at' (by omega) R H (Holds.ex.2 ⟨(a, v, e), h⟩)
  refine ⟨(), H', e', ?_⟩
  obtain ⟨⟨a2, v2, e2⟩, h'⟩ := Holds.ex.1 h'
  refine Holds.ex.2 ⟨(al, a2, v2, e2), ?_⟩
  rw [sep_assoc, Holds.pu]
  exact ⟨⟨hp.1, by simp; omega, hp.2.2⟩, h'⟩
class Xi (P : SP) (m i : Nat) (μ : outParam Mu) (at' : outParam Loc) (R : outParam SP) : Prop where
  eq : P = memXi m μ at' i * R
instance (priority := high) Xi.refl (m i : Nat) (μ : Mu) (at' : Loc) : Xi (memXi m μ at' i) m i μ at' emp := ⟨(sep_emp _).symm⟩
instance Xi.left (P Q R : SP) (m i : Nat) (μ : Mu) (at' : Loc) [h : Xi P m i μ at' R] : Xi (P * Q) m i μ at' (R * Q) := ⟨by rw [h.eq, sep_assoc]⟩
instance Xi.right (P Q R : SP) (m i : Nat) (μ : Mu) (at' : Loc) [h : Xi Q m i μ at' R] : Xi (P * Q) m i μ at' (P * R) := ⟨by rw [h.eq, sep_left_comm]⟩
section
variable {m i : Nat} {μ : Mu} {at' : Loc} {P R : SP} {H : AH} {Q : Value → AH → Prop}
theorem xi_ld {k : Value → OV} (h : Holds P H) [f : Xi P m i μ at' R] (hk : wp (k (vu (μ.V at'))) Q) : wp (ld [.n, .f 1] (vp m) H fun v => ld [.i 1 (vi i)] v H k) Q := by
  have h' : Holds (memXi m μ at' i * R) H := by rw [← f.eq]; exact h
  obtain ⟨⟨al, a, v, e⟩, h'⟩ := Holds.ex.1 h'
  rw [sep_assoc, Holds.pu] at h'
  obtain ⟨hp, h'⟩ := h'
  dsimp only at hp h'
  refine w_ld h' end_nf rfl ?_
  obtain ⟨p1, _, p4, p5⟩ := hp
  refine w_tld1 (s := v) h' p5 (v := vu (μ.V at')) ?_ hk
  subst p4
  rw [alGet_at at' al p5]
  simp [encV, p1]
theorem xi_st {k : AH → OV} {v : Nat} (h : Holds P H) [f : Xi P m i μ at' R] (hk : ∀ H', Holds (memX m (μ.put at' v) * R) H' → wp (k H') Q) : wp (ld [.n, .f 1] (vp m) H fun s => st 1 [.i 1 (vi i)] s (vu v) H k) Q := by
  have h0 : Holds (memXi m μ at' i * R) H := by rw [← f.eq]; exact h
  obtain ⟨⟨al, a, s, e⟩, h1⟩ := Holds.ex.1 h0
  rw [sep_assoc, Holds.pu] at h1
  obtain ⟨hp, h'⟩ := h1
  clear h0
  dsimp only at hp h'
  refine w_ld h' end_nf rfl ?_
  obtain ⟨p1, p2, p4, p5⟩ := hp
  subst p4
  refine w_tst (s := s) (g := 0) ((at', v) : Loc × Nat) h' p5 (.inl ⟨rfl, rfl⟩) rfl (by omega) rfl rfl fun H' h2 => hk H' ?_
  have hat := alGet_at at' al p5
  have hk2 := ts_keys a al (alIdx al at') p5 v
  rw [hat] at hk2
  rw [← alSet_set at' v al p5] at h2 hk2
  rw [← hk2] at h2
  refine memX_close (al := alSet al at' v) (a := a) (v := s) (e := e) ⟨fun l => ?_, ?_⟩ h2
  · rw [alGet_set, p1]
  · rw [alSet_set at' v al p5, List.length_set]; exact p2
theorem xi_ldst {x y : Value} {op : BinOp} {cl : TCls} {k : AH → OV} {v : Nat} (h : Holds P H) [f : Xi P m i μ at' R] (hb : pBin cl op x y = some (vu v)) (hk : ∀ H', Holds (memX m (μ.put at' v) * R) H' → wp (k H') Q) :
    wp (ld [.n, .f 1] (vp m) H fun s => (pBin cl op x y).bind fun z => st 1 [.i 1 (vi i)] s z H k) Q := by
  rw [hb]
  exact xi_st h hk
theorem xi_x (h : Holds P H) [f : Xi P m i μ at' R] : Holds (memX m μ * R) H := by
  have h' : Holds (memXi m μ at' i * R) H := by rw [← f.eq]; exact h
  obtain ⟨⟨al, a, s, e⟩, h'⟩ := Holds.ex.1 h'
  rw [sep_assoc, Holds.pu] at h'
  obtain ⟨hp, h'⟩ := h'
  exact memX_close (al := al) (a := a) (v := s) (e := e) ⟨hp.1, hp.2.1⟩ h'
end

theorem r16_load (m : Nat) (μ : Mu) (who : Int) (at' : Loc) (hE : μ.N < 1099511627000) : Sp n_r16_Mem_Load [vp m, vi who, encL at'] (memX m μ) (fun _ : Unit => vu (μ.V at')) (fun _ => memX m (μ.acc who 1 at')) := by
  refine sp_of fun R H h => ?_
  refine wp_of (fun r => r16_Mem_Load_of _ _ _ H) ?_
  repeat (first
    | refine w_newC (by assumption) fun _ _ _ => ?_
    | refine w_new (by assumption) fun _ _ _ => ?_
    | refine w_map (by assumption) fun _ _ _ => ?_
    | refine w_LdN (by assumption) ?_
    | refine w_ld (by assumption) end_nf rfl ?_
    | refine w_ld (by assumption) end_f0 rfl ?_
    | refine w_ldN (by assumption) end_nf ?_
    | refine w_ldN (by assumption) end_f0 ?_
    | refine w_ad end_nf ?_
    | refine w_ad end_f0 ?_
    | refine w_Ld1 (by assumption) rfl ?_
    | refine w_st (by assumption) end_nf rfl rfl fun _ _ => ?_
    | refine w_st (by assumption) end_f0 rfl rfl fun _ _ => ?_
    | refine w_St (by assumption) rfl rfl fun _ _ => ?_
    | refine w_S ?_
    | refine w_R (by assumption) fun _ _ _ => ?_
    | refine w_eqK_rfl ?_
    | refine w_eq1 (by assumption) (by assumption) rfl ?_
    | refine w_eqN (by assumption) (by assumption) rfl ?_
    | refine w_len ?_)
  refine w_call (by assumption) (xlog m μ who 1 at' (by omega)) fun _ _ _ => ?_
  repeat (first
    | refine w_newC (by assumption) fun _ _ _ => ?_
    | refine w_new (by assumption) fun _ _ _ => ?_
    | refine w_map (by assumption) fun _ _ _ => ?_
    | refine w_LdN (by assumption) ?_
    | refine w_ld (by assumption) end_nf rfl ?_
    | refine w_ld (by assumption) end_f0 rfl ?_
    | refine w_ldN (by assumption) end_nf ?_
    | refine w_ldN (by assumption) end_f0 ?_
    | refine w_ad end_nf ?_
    | refine w_ad end_f0 ?_
    | refine w_Ld1 (by assumption) rfl ?_
    | refine w_st (by assumption) end_nf rfl rfl fun _ _ => ?_
    | refine w_st (by assumption) end_f0 rfl rfl fun _ _ => ?_
    | refine w_St (by assumption) rfl rfl fun _ _ => ?_
    | refine w_S ?_
    | refine w_R (by assumption) fun _ _ _ => ?_
    | refine w_eqK_rfl ?_
    | refine w_eq1 (by assumption) (by assumption) rfl ?_
    | refine w_eqN (by assumption) (by assumption) rfl ?_
    | refine w_len ?_)
  refine w_call (by assumption) (xplace m (μ.log who 1 at') at' (by simp; omega)) fun i H3 h3 => ?_
  refine xi_ld h3 ?_
  exact w_ret ⟨(), rfl, Holds.to (xi_x (m := m) (i := i) h3)⟩
theorem r16_store (m : Nat) (μ : Mu) (who : Int) (at' : Loc) (v : Nat) (hE : μ.N < 1099511627000) : Sp n_r16_Mem_Store [vp m, vi who, encL at', vu v] (memX m μ) (fun _ : Unit => .tuple #[]) (fun _ => memX m ((μ.acc who 2 at').put at' v)) := by
  refine sp_of fun R H h => ?_
  refine wp_of (fun r => r16_Mem_Store_of _ _ _ _ H) ?_
  repeat (first
    | refine w_newC (by assumption) fun _ _ _ => ?_
    | refine w_new (by assumption) fun _ _ _ => ?_
    | refine w_map (by assumption) fun _ _ _ => ?_
    | refine w_LdN (by assumption) ?_
    | refine w_ld (by assumption) end_nf rfl ?_
    | refine w_ld (by assumption) end_f0 rfl ?_
    | refine w_ldN (by assumption) end_nf ?_
    | refine w_ldN (by assumption) end_f0 ?_
    | refine w_ad end_nf ?_
    | refine w_ad end_f0 ?_
    | refine w_Ld1 (by assumption) rfl ?_
    | refine w_st (by assumption) end_nf rfl rfl fun _ _ => ?_
    | refine w_st (by assumption) end_f0 rfl rfl fun _ _ => ?_
    | refine w_St (by assumption) rfl rfl fun _ _ => ?_
    | refine w_S ?_
    | refine w_R (by assumption) fun _ _ _ => ?_
    | refine w_eqK_rfl ?_
    | refine w_eq1 (by assumption) (by assumption) rfl ?_
    | refine w_eqN (by assumption) (by assumption) rfl ?_
    | refine w_len ?_)
  refine w_call (by assumption) (xlog m μ who 2 at' (by omega)) fun _ _ _ => ?_
  repeat (first
    | refine w_newC (by assumption) fun _ _ _ => ?_
    | refine w_new (by assumption) fun _ _ _ => ?_
    | refine w_map (by assumption) fun _ _ _ => ?_
    | refine w_LdN (by assumption) ?_
    | refine w_ld (by assumption) end_nf rfl ?_
    | refine w_ld (by assumption) end_f0 rfl ?_
    | refine w_ldN (by assumption) end_nf ?_
    | refine w_ldN (by assumption) end_f0 ?_
    | refine w_ad end_nf ?_
    | refine w_ad end_f0 ?_
    | refine w_Ld1 (by assumption) rfl ?_
    | refine w_st (by assumption) end_nf rfl rfl fun _ _ => ?_
    | refine w_st (by assumption) end_f0 rfl rfl fun _ _ => ?_
    | refine w_St (by assumption) rfl rfl fun _ _ => ?_
    | refine w_S ?_
    | refine w_R (by assumption) fun _ _ _ => ?_
    | refine w_eqK_rfl ?_
    | refine w_eq1 (by assumption) (by assumption) rfl ?_
    | refine w_eqN (by assumption) (by assumption) rfl ?_
    | refine w_len ?_)
  refine w_call (by assumption) (xplace m (μ.log who 2 at') at' (by simp; omega)) fun i H3 h3 => ?_
  refine xi_st (at' := at') h3 fun H4 h4 => ?_
  exact w_ret ⟨(), rfl, h4.to⟩
theorem r16_peek (m : Nat) (μ : Mu) (at' : Loc) (hE : μ.N < 1099511627000) : Sp n_r16_Mem_Peek [vp m, encL at'] (memX m μ) (fun _ : Unit => vu (μ.V at')) (fun _ => memX m { μ with N := μ.N + 1 }) := by
  refine sp_of fun R H h => ?_
  refine wp_of (fun r => r16_Mem_Peek_of _ _ H) ?_
  repeat (first
    | refine w_newC (by assumption) fun _ _ _ => ?_
    | refine w_new (by assumption) fun _ _ _ => ?_
    | refine w_map (by assumption) fun _ _ _ => ?_
    | refine w_LdN (by assumption) ?_
    | refine w_ld (by assumption) end_nf rfl ?_
    | refine w_ld (by assumption) end_f0 rfl ?_
    | refine w_ldN (by assumption) end_nf ?_
    | refine w_ldN (by assumption) end_f0 ?_
    | refine w_ad end_nf ?_
    | refine w_ad end_f0 ?_
    | refine w_Ld1 (by assumption) rfl ?_
    | refine w_st (by assumption) end_nf rfl rfl fun _ _ => ?_
    | refine w_st (by assumption) end_f0 rfl rfl fun _ _ => ?_
    | refine w_St (by assumption) rfl rfl fun _ _ => ?_
    | refine w_S ?_
    | refine w_R (by assumption) fun _ _ _ => ?_
    | refine w_eqK_rfl ?_
    | refine w_eq1 (by assumption) (by assumption) rfl ?_
    | refine w_eqN (by assumption) (by assumption) rfl ?_
    | refine w_len ?_)
  refine w_call (by assumption) (xplace m μ at' (by omega)) fun i H3 h3 => ?_
  refine xi_ld h3 ?_
  exact w_ret ⟨(), rfl, Holds.to (xi_x (m := m) (i := i) h3)⟩
theorem r16_swap (m : Nat) (μ : Mu) (who : Int) (at' : Loc) (was now : Nat) (hE : μ.N < 1099511627000) :
    Sp n_r16_Mem_Swap [vp m, vi who, encL at', vu was, vu now] (memX m μ) (fun _ : Unit => vb (decide (μ.V at' = was))) (fun _ => memX m (μ.swp who at' was now)) := by
  refine sp_of fun R H h => ?_
  refine wp_of (fun r => r16_Mem_Swap_of _ _ _ _ _ H) ?_
  repeat (first
    | refine w_newC (by assumption) fun _ _ _ => ?_
    | refine w_new (by assumption) fun _ _ _ => ?_
    | refine w_map (by assumption) fun _ _ _ => ?_
    | refine w_LdN (by assumption) ?_
    | refine w_ld (by assumption) end_nf rfl ?_
    | refine w_ld (by assumption) end_f0 rfl ?_
    | refine w_ldN (by assumption) end_nf ?_
    | refine w_ldN (by assumption) end_f0 ?_
    | refine w_ad end_nf ?_
    | refine w_ad end_f0 ?_
    | refine w_Ld1 (by assumption) rfl ?_
    | refine w_st (by assumption) end_nf rfl rfl fun _ _ => ?_
    | refine w_st (by assumption) end_f0 rfl rfl fun _ _ => ?_
    | refine w_St (by assumption) rfl rfl fun _ _ => ?_
    | refine w_S ?_
    | refine w_R (by assumption) fun _ _ _ => ?_
    | refine w_eqK_rfl ?_
    | refine w_eq1 (by assumption) (by assumption) rfl ?_
    | refine w_eqN (by assumption) (by assumption) rfl ?_
    | refine w_len ?_)
  refine w_call (by assumption) (xplace m μ at' (by omega)) fun i H3 h3 => ?_
  refine xi_ld h3 ?_
  refine w_bind (neq_u) ?_
  unfold Mu.swp Mu.swap
  refine w_cond (fun hc => ?_) (fun hc => ?_)
  · have hc : ¬ μ.V at' = was := by simpa using hc
    rw [if_neg hc, decide_eq_false hc]
    repeat (first
      | refine w_newC (by assumption) fun _ _ _ => ?_
      | refine w_new (by assumption) fun _ _ _ => ?_
      | refine w_map (by assumption) fun _ _ _ => ?_
      | refine w_LdN (by assumption) ?_
      | refine w_ld (by assumption) end_nf rfl ?_
      | refine w_ld (by assumption) end_f0 rfl ?_
      | refine w_ldN (by assumption) end_nf ?_
      | refine w_ldN (by assumption) end_f0 ?_
      | refine w_ad end_nf ?_
      | refine w_ad end_f0 ?_
      | refine w_Ld1 (by assumption) rfl ?_
      | refine w_st (by assumption) end_nf rfl rfl fun _ _ => ?_
      | refine w_st (by assumption) end_f0 rfl rfl fun _ _ => ?_
      | refine w_St (by assumption) rfl rfl fun _ _ => ?_
      | refine w_S ?_
      | refine w_R (by assumption) fun _ _ _ => ?_
      | refine w_eqK_rfl ?_
      | refine w_eq1 (by assumption) (by assumption) rfl ?_
      | refine w_eqN (by assumption) (by assumption) rfl ?_
      | refine w_len ?_)
    refine w_call (by assumption) (ilog m { μ with N := μ.N + 1 } at' i who 4 at' (by simp; omega)) fun _ H4 h4 => ?_
    exact w_ret ⟨(), rfl, Holds.to (xi_x (m := m) (i := i) h4)⟩
  · have hc : μ.V at' = was := by simpa using hc
    rw [if_pos hc, decide_eq_true hc]
    repeat (first
      | refine w_newC (by assumption) fun _ _ _ => ?_
      | refine w_new (by assumption) fun _ _ _ => ?_
      | refine w_map (by assumption) fun _ _ _ => ?_
      | refine w_LdN (by assumption) ?_
      | refine w_ld (by assumption) end_nf rfl ?_
      | refine w_ld (by assumption) end_f0 rfl ?_
      | refine w_ldN (by assumption) end_nf ?_
      | refine w_ldN (by assumption) end_f0 ?_
      | refine w_ad end_nf ?_
      | refine w_ad end_f0 ?_
      | refine w_Ld1 (by assumption) rfl ?_
      | refine w_st (by assumption) end_nf rfl rfl fun _ _ => ?_
      | refine w_st (by assumption) end_f0 rfl rfl fun _ _ => ?_
      | refine w_St (by assumption) rfl rfl fun _ _ => ?_
      | refine w_S ?_
      | refine w_R (by assumption) fun _ _ _ => ?_
      | refine w_eqK_rfl ?_
      | refine w_eq1 (by assumption) (by assumption) rfl ?_
      | refine w_eqN (by assumption) (by assumption) rfl ?_
      | refine w_len ?_)
    refine w_call (by assumption) (ilog m { μ with N := μ.N + 1 } at' i who 3 at' (by simp; omega)) fun _ H4 h4 => ?_
    refine xi_st (at' := at') h4 fun H5 h5 => ?_
    exact w_ret ⟨(), rfl, h5.to⟩
theorem r16_add (m : Nat) (μ : Mu) (who : Int) (at' : Loc) (n : Nat) (hE : μ.N < 1099511627000) :
    Sp n_r16_Mem_Add [vp m, vi who, encL at', vu n] (memX m μ) (fun _ : Unit => vu (μ.V at')) (fun _ => memX m ((μ.acc who 3 at').put at' ((μ.V at' + n) % 18446744073709551616))) := by
  refine sp_of fun R H h => ?_
  refine wp_of (fun r => r16_Mem_Add_of _ _ _ _ H) ?_
  repeat (first
    | refine w_newC (by assumption) fun _ _ _ => ?_
    | refine w_new (by assumption) fun _ _ _ => ?_
    | refine w_map (by assumption) fun _ _ _ => ?_
    | refine w_LdN (by assumption) ?_
    | refine w_ld (by assumption) end_nf rfl ?_
    | refine w_ld (by assumption) end_f0 rfl ?_
    | refine w_ldN (by assumption) end_nf ?_
    | refine w_ldN (by assumption) end_f0 ?_
    | refine w_ad end_nf ?_
    | refine w_ad end_f0 ?_
    | refine w_Ld1 (by assumption) rfl ?_
    | refine w_st (by assumption) end_nf rfl rfl fun _ _ => ?_
    | refine w_st (by assumption) end_f0 rfl rfl fun _ _ => ?_
    | refine w_St (by assumption) rfl rfl fun _ _ => ?_
    | refine w_S ?_
    | refine w_R (by assumption) fun _ _ _ => ?_
    | refine w_eqK_rfl ?_
    | refine w_eq1 (by assumption) (by assumption) rfl ?_
    | refine w_eqN (by assumption) (by assumption) rfl ?_
    | refine w_len ?_)
  refine w_call (by assumption) (xplace m μ at' (by omega)) fun i H3 h3 => ?_
  repeat (first
    | refine w_newC (by assumption) fun _ _ _ => ?_
    | refine w_new (by assumption) fun _ _ _ => ?_
    | refine w_map (by assumption) fun _ _ _ => ?_
    | refine w_LdN (by assumption) ?_
    | refine w_ld (by assumption) end_nf rfl ?_
    | refine w_ld (by assumption) end_f0 rfl ?_
    | refine w_ldN (by assumption) end_nf ?_
    | refine w_ldN (by assumption) end_f0 ?_
    | refine w_ad end_nf ?_
    | refine w_ad end_f0 ?_
    | refine w_Ld1 (by assumption) rfl ?_
    | refine w_st (by assumption) end_nf rfl rfl fun _ _ => ?_
    | refine w_st (by assumption) end_f0 rfl rfl fun _ _ => ?_
    | refine w_St (by assumption) rfl rfl fun _ _ => ?_
    | refine w_S ?_
    | refine w_R (by assumption) fun _ _ _ => ?_
    | refine w_eqK_rfl ?_
    | refine w_eq1 (by assumption) (by assumption) rfl ?_
    | refine w_eqN (by assumption) (by assumption) rfl ?_
    | refine w_len ?_)
  refine w_call (by assumption) (ilog m { μ with N := μ.N + 1 } at' i who 3 at' (by simp; omega)) fun _ H4 h4 => ?_
  refine xi_ld h4 ?_
  refine xi_ldst (at' := at') h4 add_u fun H5 h5 => ?_
  exact w_ret ⟨(), rfl, h5.to⟩
end Go.Proofs.YtodpbobjmkhcfaaGreatDoor.Gst
