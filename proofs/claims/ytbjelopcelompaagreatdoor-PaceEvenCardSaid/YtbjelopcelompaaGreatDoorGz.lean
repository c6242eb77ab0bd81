/- From the abstract run of a law to what its statement asks. -/
import Derived.Test.YtbjelopcelompaaGreatDoorGy
import Derived.ProofKit
namespace Go.Proofs.YtbjelopcelompaaGreatDoor.Gst
open Go Go.RowKit Go.ChangeShapes
set_option linter.unusedSimpArgs false

def valOf : Ty → List Value → Value
  | .pair _ _, cs => .agg cs.toArray
  | .unit, cs => .agg cs.toArray
  | _, cs => cs.headD undef
abbrev Args : List Ty → Type
  | [] => Unit
  | t :: ts => t.I × Args ts
def AbsArgs (H : AH) : (ts : List Ty) → Args ts → List Value → Prop
  | [], _, vs => vs = []
  | t :: ts, x, vs => ∃ cs rest, vs = valOf t cs :: rest ∧ Abs H t x.1 cs ∧ AbsArgs H ts x.2 rest
theorem AbsArgs.keep {H H' : AH} (k : Keeps H H') : ∀ (ts : List Ty) (x : Args ts) (vs : List Value), AbsArgs H ts x vs → AbsArgs H' ts x vs := by
  intro ts
  induction ts with
  | nil => intro x vs h; exact h
  | cons t ts ih =>
    intro x vs h
    obtain ⟨cs, rest, e, h1, h2⟩ := h
    exact ⟨cs, rest, e, Abs.keep k t _ _ h1, ih _ _ h2⟩
def chkArgs (P : Program) : List Ty → List TypeId → Bool
  | [], [] => true
  | ty :: tys, t :: ts => (chkT P ty).1 t && P.readableRec t && decide (t < P.types.size) && chkArgs P tys ts
  | _, _ => false

section
variable {Hd : Type} {enc : TypeId × Value → Hd} {P : Program} {w : World} {held : Bool}

theorem arg_abs {ty : Ty} {t : TypeId} (ht : (chkT P ty).1 t = true) {v : Value} {d : DataW Hd} {ps : List MemPlace} {r : Reach} {b0 : Nat} (hval : Value.okWide P w r b0 t v) (h : DataW.Trod enc P w 0 (fun _ => true) held t v d ps)
    {ρ : Ren} {H : AH} (hR : Rel P w w.heap.size ρ H w) : ∃ ρ' H' x avs, Rel P w w.heap.size ρ' H' w ∧ (∀ b y, ρ b = some y → ρ' b = some y) ∧ Keeps H H' ∧ VRel P ρ' (valOf ty avs) v ∧ Abs H' ty x avs := by
  obtain ⟨fuel, h⟩ := h
  obtain ⟨ρ', H', x, avs, h1, h2, h3, h4, h5⟩ := (trod_abs (enc := enc) (P := P) (w := w) (held := held) ty).1 t ht fuel _ _ ρ H hR h
  refine ⟨ρ', H', x, avs, h1, h2, h3, ?_, h5⟩
  have hlen := Abs.length ty x avs h5
  have one : ∀ (hw : ty.w = 1) (hva : ∀ cs, v ≠ .agg cs), VRel P ρ' (avs.headD undef) v := by
    intro hw hva
    have hc : v.cells.toList = [v] := by
      cases v <;> first | rfl | exact absurd rfl (hva _)
    rw [hc] at h4
    match avs, hlen with
    | [a], _ => exact h4.2 0 a v rfl rfl
    | [], hl => rw [hw] at hl; cases hl
    | a :: b :: l, hl => rw [hw] at hl; simp at hl
  cases ty with
  | int k =>
    refine one rfl (fun cs e => ?_)
    subst e
    simp only [chkT] at ht
    split at ht
    · rename_i hu
      unfold Value.okWide at hval
      rw [hu] at hval
      unfold Cell.okWide at hval
      rw [hu] at hval
      unfold Cell.ok at hval
      rw [hu] at hval
      exact hval
    · cases ht
  | bool =>
    refine one rfl (fun cs e => ?_)
    subst e
    simp only [chkT] at ht
    split at ht
    · rename_i hu
      unfold Value.okWide at hval
      rw [hu] at hval
      unfold Cell.okWide at hval
      rw [hu] at hval
      unfold Cell.ok at hval
      rw [hu] at hval
      exact hval
    · cases ht
  | slice e =>
    refine one rfl (fun cs e => ?_)
    subst e
    simp only [chkT] at ht
    split at ht
    · rename_i hu
      unfold Value.okWide at hval
      rw [hu] at hval
      unfold Cell.okWide at hval
      rw [hu] at hval
      unfold Cell.ok at hval
      rw [hu] at hval
      exact hval
    · cases ht
  | unit => simp only [chkT] at ht; cases ht
  | pair a b =>
    simp only [chkT] at ht
    split at ht
    · rename_i fs hu
      unfold Value.okWide at hval
      rw [hu] at hval
      obtain ⟨cs, rfl, _⟩ := hval
      have h4 : LRel P ρ' avs cs.toList := h4
      exact .agg (by simpa using h4.1) (fun i x y hx hy => h4.2 i x y (by simpa using hx) (by simpa using hy))
    · cases ht

theorem args_abs : ∀ (tys : List Ty) (ts : List TypeId) (vs : List Value) (ds : List (DataW Hd)) (ps : List MemPlace), chkArgs P tys ts = true → (∀ (j : Nat) t v, ts[j]? = some t → vs[j]? = some v → ∃ r b0, Value.okWide P w r b0 t v) →
    DataW.TrodAll enc P w 0 (fun _ => true) held ts vs ds ps → ∀ (ρ : Ren) (H : AH), Rel P w w.heap.size ρ H w →
    ∃ ρ' H' x avs, Rel P w w.heap.size ρ' H' w ∧ (∀ b y, ρ b = some y → ρ' b = some y) ∧ Keeps H H' ∧ LRel P ρ' avs vs ∧ AbsArgs H' tys x avs := by
  intro tys
  induction tys with
  | nil =>
    intro ts vs ds ps hc hval h ρ H hR
    cases ts with
    | cons t ts => cases hc
    | nil =>
      obtain ⟨rfl, _, _⟩ := trodAll_nil h
      exact ⟨ρ, H, (), [], hR, fun _ _ h => h, Keeps.refl H, LRel.nil, rfl⟩
  | cons ty tys ih =>
    intro ts vs ds ps hc hval h ρ H hR
    cases ts with
    | nil => cases hc
    | cons t ts =>
      simp only [chkArgs, Bool.and_eq_true] at hc
      obtain ⟨⟨⟨hc1, _⟩, _⟩, hc2⟩ := hc
      obtain ⟨v, vs', d, ds', p, q, rfl, rfl, rfl, hd, hrest⟩ := trodAll_cons h
      obtain ⟨r, b0, hv0⟩ := hval 0 t v rfl rfl
      obtain ⟨ρ1, H1, x1, a1, hR1, hle1, hk1, hv1, ha1⟩ := arg_abs hc1 hv0 hd hR
      obtain ⟨ρ2, H2, x2, a2, hR2, hle2, hk2, hl2, ha2⟩ := ih ts vs' ds' q hc2 (fun j t v h1 h2 => hval (j + 1) t v (by simpa using h1) (by simpa using h2)) hrest ρ1 H1 hR1
      exact ⟨ρ2, H2, (x1, x2), valOf ty a1 :: a2, hR2, fun b y h => hle2 b y (hle1 b y h), hk1.trans hk2, LRel.cons (hv1.mono hle2) hl2, a1, a2, rfl, Abs.keep hk2 ty x1 a1 ha1, ha2⟩

theorem args_stay (hl : laidOutB P = true) {W' : World} (hb : Below w.heap.size w W') : ∀ (tys : List Ty) (ts : List TypeId) (vs : List Value) (ds : List (DataW Hd)) (ps : List MemPlace), chkArgs P tys ts = true → (∀ x ∈ ps, x.block < w.heap.size) →
    DataW.TrodAll enc P w 0 (fun _ => true) true ts vs ds ps → DataW.TrodAll enc P W' 0 (fun b => decide (b < w.heap.size)) true ts vs ds ps := by
  intro tys
  induction tys with
  | nil =>
    intro ts vs ds ps hc hlt h
    cases ts with
    | cons t ts => cases hc
    | nil =>
      obtain ⟨rfl, rfl, rfl⟩ := trodAll_nil h
      exact trodAll_mk0
  | cons ty tys ih =>
    intro ts vs ds ps hc hlt h
    cases ts with
    | nil => cases hc
    | cons t ts =>
      simp only [chkArgs, Bool.and_eq_true, decide_eq_true_eq] at hc
      obtain ⟨⟨⟨_, hc1⟩, hc3⟩, hc2⟩ := hc
      obtain ⟨v, vs', d, ds', p, q, rfl, rfl, rfl, hd, hrest⟩ := trodAll_cons h
      exact ⟨p, q, Below.trod hl hc1 hc3 hd hb (fun x hx => hlt x (by simp [hx])), ih ts vs' ds' q hc2 (fun x hx => hlt x (by simp [hx])) hrest, rfl⟩

/-- What a law's statement asks, by its abstract run. -/
theorem law_post (hm : P.follows .mixedOrders = true) (hl : laidOutB P = true) {G : List Nat} {f : Nat} {fn : Func} {s : ChangeSpec} {tys : List Ty} (hc : chkArgs P tys fn.params.toList = true)
    {tb : TypeId} (hres : fn.resultTypes = #[tb]) (hb : P.underlying tb = some .bool) (hvars : s.vars = [])
    {args : Array Value} {ds gs : List (DataW Hd)} {before : List MemPlace} (hval : ∀ (j : Nat) t v, fn.params[j]? = some t → args[j]? = some v → ∃ r b0, Value.okWide P w r b0 t v)
    (hW : DataW.Whole enc P fn.params.toList s.vars false w args.toList ds gs before) (hspec : s.fn Hd (ds ++ gs) = { results := [.lit (.bool true)], args := ds })
    {ρ0 : Ren} {H0 : AH} (hR : Rel P w w.heap.size ρ0 H0 w) (hG : GlobRel ρ0 G)
    (run : ∀ (x : Args tys) (avs : List Value) (H : AH), Keeps H0 H → AbsArgs H tys x avs → ∃ H', aF P G f avs H = some (.bool true, H')) :
    Calls P f args w fun e w' => ∃ v, e = .returned v ∧ s.post enc P fn false true false false w args v w' := by
  have hW' := hW
  obtain ⟨p, q, hA, hV, rfl, hfz, hnd⟩ := hW
  rw [hvars] at hV
  obtain ⟨rfl, rfl⟩ := trodVars_none hV
  obtain ⟨ρ1, H1, x, avs, hR1, hle1, hk1, hl1, ha1⟩ := args_abs tys fn.params.toList args.toList ds p hc (fun j t v h1 h2 => hval j t v (by simpa using h1) (by simpa using h2)) hA ρ0 H0 hR
  obtain ⟨H', hrun⟩ := run x avs H1 hk1 ha1
  have hG1 : GlobRel ρ1 G := fun g hg => let ⟨sz, h⟩ := hG g hg; ⟨sz, hle1 _ _ h⟩
  have hcall := ((aF_ok (P := P) (G := G) hm).1 f avs H1 _ H' hrun).2 w w.heap.size ρ1 w args.toList hR1 hG1 hl1
  rw [show args.toList.toArray = args from by simp] at hcall
  refine hcall.mono fun e w' ⟨v', ρ', he, hv, hext, hR'⟩ => ?_
  have hv : v' = .bool true := by
    cases hv with
    | lit h => rfl
  subst hv
  subst he
  have hlt : ∀ y ∈ p, y.block < w.heap.size := fun y hy => by
    have := hW'.lt y (by simp [hy])
    simpa using this
  refine ⟨_, rfl, ds, [], p ++ [], [], p, [], hW', ?_, ?_, ?_, ?_, fun h => by cases h⟩
  · rw [hspec, hres]
    exact ⟨[], [], shut_bool hb true, trodAll_mk0, rfl⟩
  · rw [hspec]
    exact args_stay hl hR'.below tys _ _ _ _ hc hlt hA
  · rw [hvars, hspec]
    rfl
  · exact hR'.below.frame _
end

/-- Where nothing stands: no variable is asked. -/
theorem rel_none (P : Program) (w : World) : Rel P w w.heap.size (fun _ => none) ⟨[]⟩ w where
  base := Nat.le_refl _
  below := Below.refl _ _
  dom := fun b x h => by cases h
  blk := fun b c d sz h => by cases h
  obj := fun b c d sz o h => by cases h
  own := fun b c d sz o h => by cases h
  ro := fun b c d sz cs h => by cases h
  inj := fun b b' c d d' sz sz' o o' h => by cases h
theorem glob_none (ρ : Ren) : GlobRel ρ [] := fun g h => by cases h
end Go.Proofs.YtbjelopcelompaaGreatDoor.Gst
