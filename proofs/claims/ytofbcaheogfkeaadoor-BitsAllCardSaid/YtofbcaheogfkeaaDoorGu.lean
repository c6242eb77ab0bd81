/- Calls: the limit of the abstract run over all depths; it is sound, and what a body comes to, its call comes to. -/
import Derived.Test.YtofbcaheogfkeaaDoorGt
namespace Go.Proofs.YtofbcaheogfkeaaDoor.Gst
open Go Go.RowKit
set_option linter.unusedSimpArgs false

/-- A result. -/
def aResult (P : Program) (A : List Value) (H : AH) : ResultVar → Option Value
  | .tmp t => some (A[t]?.getD undef)
  | .cell a t => (aggOf P t).bind fun g => match g with
    | some n => pLdN n (A[a]?.getD undef) H
    | none => pLd1 (A[a]?.getD undef) H
def aMany (P : Program) (A : List Value) (H : AH) : List ResultVar → Option (List Value)
  | [] => some []
  | r :: rs => (aResult P A H r).bind fun v => (aMany P A H rs).bind fun vs => some (v :: vs)
def aResults (P : Program) (A : List Value) (H : AH) (rs : List ResultVar) : Option Value := (aMany P A H rs).map fun vs => match vs with
  | [v] => v
  | vs => .tuple vs.toArray

def aFin (P : Program) (rs : List ResultVar) (r : AR) : Option (Value × AH) :=
  match r.1 with
  | .exit _ => none
  | _ => (aResults P r.2.1 r.2.2 rs).map (·, r.2.2)

/-- The body of a function, entered with these values. -/
noncomputable def aBody (P : Program) (G : List Nat) (call : CallF) (n : Nat) (rs : List ResultVar) (c : Code) (args : List Value) (H : AH) : Option (Value × AH) :=
  (aCode P G call c (args ++ List.replicate (n - args.length) undef) H).bind (aFin P rs)

noncomputable def aCall (P : Program) (G : List Nat) : Nat → CallF
  | 0 => fun _ _ _ => none
  | d + 1 => fun f args H => match P.funcs[f]? with
    | some fn => if fn.name = "runtime.NumGoroutine" then none else match fn.body with
      | some c => aBody P G (aCall P G d) fn.ntmps fn.results.toList c args H
      | none => none
    | none => none

section
variable {P : Program} {w0 : World} {B : Nat} {ρ : Ren} {H : AH} {w : World} {G : List Nat} {call : CallF}

theorem result_run {A : List Value} {a : Act} (hA : ActRel P ρ A a) (hR : Rel P w0 B ρ H w) {r : ResultVar} {v : Value} (h : aResult P A H r = some v) :
    ∃ v', (match r with | .tmp t => pure (a.tmps.getD t undef) | .cell x t => do loadVar t (← asAddr (a.tmps.getD x undef)) : Sem Value).run P w = .ok v' w ∧ VRel P ρ v v' := by
  have slot : ∀ t, VRel P ρ (A[t]?.getD undef) (a.tmps.getD t undef) := fun t => ev_rel (G := []) hA (fun g hg => by simp at hg) (x := .tmp t) rfl
  cases r with
  | tmp t => simp only [aResult] at h; cases h; exact ⟨_, rfl, slot t⟩
  | cell x t =>
    simp only [aResult] at h
    obtain ⟨g, hg, h⟩ := Option.bind_eq_some_iff.1 h
    cases g with
    | none =>
      obtain ⟨a', y', ha, hr, hv⟩ := load1 hR h (slot x)
      refine ⟨y', ?_, hv⟩
      simp only [ha]
      simp [asAddr, loadVar, aggOf_none hg]
      simpa using hr
    | some n =>
      obtain ⟨a', ys, ha, hr, hv⟩ := loadN hR h (slot x)
      obtain ⟨hag, hsz⟩ := aggOf_some hg w
      refine ⟨.agg ys, ?_, hv⟩
      simp only [ha]
      simp [asAddr, loadVar, hag, szOf_run hsz, hr]

theorem many_run {A : List Value} {a : Act} (hA : ActRel P ρ A a) (hR : Rel P w0 B ρ H w) : ∀ {rs : List ResultVar} {vs : List Value}, aMany P A H rs = some vs →
    ∃ vs', (rs.mapM (fun r => (match r with | .tmp t => pure (a.tmps.getD t undef) | .cell x t => do loadVar t (← asAddr (a.tmps.getD x undef)) : Sem Value))).run P w = .ok vs' w ∧ LRel P ρ vs vs' := by
  intro rs
  induction rs with
  | nil => intro vs h; simp only [aMany] at h; cases h; exact ⟨[], rfl, LRel.nil⟩
  | cons r rs ih =>
    intro vs h
    simp only [aMany] at h
    obtain ⟨v, hv, h⟩ := Option.bind_eq_some_iff.1 h
    obtain ⟨vs0, hvs, h⟩ := Option.bind_eq_some_iff.1 h
    cases h
    obtain ⟨v', hr, hv'⟩ := result_run hA hR hv
    obtain ⟨vs', hrs, hvs'⟩ := ih hvs
    refine ⟨v' :: vs', ?_, hvs'.cons hv'⟩
    rw [List.mapM_cons]
    simp only [Sem.run_bind, hr, Result.andThen_ok, hrs, Sem.run_pure]

theorem results_run {A : List Value} {a : Act} (hA : ActRel P ρ A a) (hR : Rel P w0 B ρ H w) {fn : Func} {v : Value} (h : aResults P A H fn.results.toList = some v) :
    ∃ v', (results fn a.tmps).run P w = .ok v' w ∧ VRel P ρ v v' := by
  unfold aResults at h
  obtain ⟨vs, hvs, e⟩ := Option.map_eq_some_iff.1 h
  obtain ⟨vs', hrun, hl⟩ := many_run hA hR hvs
  have hm : ∀ g : ResultVar → Sem Value, (fn.results.mapM g).run P w = ((fn.results.toList.mapM g >>= fun l => pure l.toArray : Sem (Array Value))).run P w := by
    intro g
    rw [Array.mapM_eq_mapM_toList]
    rfl
  have h2 : (results fn a.tmps).run P w = .ok (if h : vs'.toArray.size = 1 then vs'.toArray[0] else .tuple vs'.toArray) w := by
    unfold results
    rw [Sem.run_bind, hm, Sem.run_bind]
    erw [hrun]
    rfl
  refine ⟨_, h2, ?_⟩
  have hlen := hl.1
  split at e
  · rename_i x
    subst e
    match vs', hlen, hl with
    | [y], _, hl => simpa using hl.2 0 _ _ rfl rfl
  · rename_i hne
    subst e
    have : ¬ vs'.toArray.size = 1 := by
      intro h1
      match vs, hlen, hne with
      | [x], _, hne => exact hne x rfl
      | [], hlen, _ => simp at hlen h1; omega
      | x :: y :: zs, hlen, _ => simp at hlen h1; omega
    rw [dif_neg this]
    exact .tuple (by simp [hlen]) (fun i x y hx hy => hl.2 i x y (by simpa using hx) (by simpa using hy))

theorem call_sound (hm : P.follows .mixedOrders = true) : ∀ d, CallOK P G (aCall P G d) ∧ CallMono (aCall P G d) := by
  intro d
  induction d with
  | zero => exact ⟨fun f args H v H' h => (by cases h), fun f args H v H' h => (by cases h)⟩
  | succ d ih =>
    constructor
    · intro f args H v H' h
      simp only [aCall] at h
      cases hf : P.funcs[f]? with
      | none => rw [hf] at h; cases h
      | some fn =>
        rw [hf] at h
        simp only at h
        split at h
        · cases h
        · rename_i hname
          cases hb : fn.body with
          | none => rw [hb] at h; cases h
          | some c =>
            rw [hb] at h
            simp only [aBody] at h
            obtain ⟨⟨e, A', H2⟩, hc, h⟩ := Option.bind_eq_some_iff.1 h
            refine ⟨⟨fn, rfl, by rw [hb]; rfl, hname⟩, fun w0 B ρ w args' hR hG hargs => ?_⟩
            refine calls_of_wp hf hb ?_
            have hA : ActRel P ρ (args ++ List.replicate (fn.ntmps - args.length) undef) { tmps := args'.toArray ++ Array.replicate (fn.ntmps - args'.toArray.size) undef, defers := [] } := by
              refine ⟨?_, rfl⟩
              simp only [Array.toList_append, Array.toList_replicate, List.size_toArray]
              rw [hargs.1]
              refine hargs.append ⟨rfl, fun i x y hx hy => ?_⟩
              rw [hx] at hy
              cases hy
              rw [List.getElem?_replicate] at hx
              split at hx
              · cases hx; exact VRel.undef
              · cases hx
            refine code_sound ih.1 ih.2 hm c hc hA hG hR (fun a' w' hp => ?_)
            obtain ⟨ρ', hA', hG', hE, hR'⟩ := hp
            have fin : ∀ {x : Value} {H3 : AH}, (aResults P A' H2 fn.results.toList).map (·, H2) = some (x, H3) → a'.defers = [] ∧ ∃ v', (results fn a'.tmps).run P w' = .ok v' w' ∧ ∃ v'' ρ'', Ending.returned v' = .returned v'' ∧ VRel P ρ'' x v'' ∧ Ext ρ H w ρ'' H3 w' ∧ Rel P w0 B ρ'' H3 w' := by
              intro x H3 hx
              obtain ⟨y, hy, e⟩ := Option.map_eq_some_iff.1 hx
              cases e
              obtain ⟨v', hr, hv⟩ := results_run hA' hR' hy
              exact ⟨hA'.defers, v', hr, v', ρ', rfl, hv, hE, hR'⟩
            cases e with
            | normal => exact fin h
            | ret => exact fin h
            | exit i => cases h
    · intro f args H v H' h
      simp only [aCall] at h
      cases hf : P.funcs[f]? with
      | none => rw [hf] at h; cases h
      | some fn =>
        rw [hf] at h
        simp only at h
        split at h
        · cases h
        · cases hb : fn.body with
          | none => rw [hb] at h; cases h
          | some c =>
            rw [hb] at h
            simp only [aBody] at h
            obtain ⟨⟨e, A', H2⟩, hc, h⟩ := Option.bind_eq_some_iff.1 h
            have h1 := aCode_mono ih.2 c hc
            unfold aFin at h
            split at h
            · cases h
            · obtain ⟨y, hy, e⟩ := Option.map_eq_some_iff.1 h
              cases e; exact h1
end

/-! ### More depth tells no other thing -/
def CLe (c1 c2 : CallF) : Prop := ∀ f args H r, c1 f args H = some r → c2 f args H = some r

section
variable {P : Program} {G : List Nat} {c1 c2 : CallF}

theorem aOp_le (h : CLe c1 c2) {ev : Operand → Value} {o : Oper} {H : AH} {r : Value × AH} (hr : aOp P c1 ev o H = some r) : aOp P c2 ev o H = some r := by
  obtain ⟨dst, op, type, pos, after, guard⟩ := o
  cases op with
  | call c =>
    obtain ⟨callee, args, ats⟩ := c
    cases callee with
    | value f =>
      simp only [aOp] at hr ⊢
      obtain ⟨x, hx, hr⟩ := Option.bind_eq_some_iff.1 hr
      rw [hx]
      exact h _ _ _ _ hr
    | invoke r m => exact hr
    | builtin b => exact hr
  | makeMap t r => cases r <;> exact hr
  | slice t x lo hi mx => cases lo <;> cases hi <;> cases mx <;> exact hr
  | _ => exact hr

theorem aStep_le (h : CLe c1 c2) {ops : Array Oper} {o : Oper} {A : List Value} {H : AH} {r : List Value × AH} (hr : aStep P G c1 ops o A H = some r) : aStep P G c2 ops o A H = some r := by
  unfold aStep at hr ⊢
  split at hr
  · rename_i hok
    rw [if_pos hok]
    split at hr
    · rename_i hw
      rw [if_pos hw]
      obtain ⟨x, hx, e⟩ := Option.map_eq_some_iff.1 hr
      rw [aOp_le h hx]
      exact congrArg some e
    · rename_i hw
      rw [if_neg hw]
      exact hr
  · cases hr

theorem aOps_le (h : CLe c1 c2) {ops : Array Oper} : ∀ (l : List Oper) {A : List Value} {H : AH} {r : List Value × AH}, aOps P G c1 ops l A H = some r → aOps P G c2 ops l A H = some r := by
  intro l
  induction l with
  | nil => intro A H r hr; exact hr
  | cons o l ih =>
    intro A H r hr
    simp only [aOps] at hr ⊢
    obtain ⟨s, hs, hr⟩ := Option.bind_eq_some_iff.1 hr
    rw [aStep_le h hs]
    exact ih hr

theorem stA_le (h : CLe c1 c2) {ops : Array Oper} {A : List Value} {H : AH} {r : List Value × AH} (hr : aOps P G c1 ops ops.toList A H = some r) : stA P G c2 ops A H = stA P G c1 ops A H := by
  funext i
  have h1 := aOps_le h _ (stA_take hr i)
  unfold stA at h1 ⊢
  rw [h1]; rfl

theorem aDraw_le (h : CLe c1 c2) {ops : Array Oper} {A : List Value} {H : AH} {r : List Value × AH} (hr : aDraw P G c1 ops A H = some r) : aDraw P G c2 ops A H = some r := by
  obtain ⟨h1, h2, h3⟩ := aDraw_some hr
  unfold aDraw
  rw [h1]
  simp only
  cases h4 : lookPairs ops.toList with
  | nil => exact aOps_le h _ h3
  | cons p ps =>
    simp only
    rw [chk_true ?_]
    · exact aOps_le h _ h3
    · rw [stA_le h h3, ← h4]; exact h2

theorem aCode_le (h : CLe c1 c2) : ∀ (c : Code) {A : List Value} {H : AH} {r : AR}, aCode P G c1 c A H = some r → aCode P G c2 c A H = some r := by
  intro c
  induction c with
  | region id ops draw =>
    intro A H r hr
    simp only [aCode] at hr ⊢
    obtain ⟨s, hs, e1⟩ := Option.map_eq_some_iff.1 hr
    have : aRegion P G c2 ops draw A H = some s := by
      cases draw with
      | true => exact aDraw_le h hs
      | false => exact aOps_le h _ hs
    rw [this]; exact congrArg some e1
  | seq x y ihx ihy =>
    intro A H r hr
    simp only [aCode] at hr ⊢
    obtain ⟨s, hx, hr⟩ := Option.bind_eq_some_iff.1 hr
    rw [ihx hx]
    simp only [Option.bind_some]
    split at hr
    · exact ihy hr
    · exact hr
  | cond c x y ihx ihy =>
    intro A H r hr
    simp only [aCode] at hr ⊢
    split at hr
    · exact ihx hr
    · exact ihy hr
    · cases hr
  | block id x ih =>
    intro A H r hr
    simp only [aCode] at hr ⊢
    obtain ⟨s, hx, e2⟩ := Option.map_eq_some_iff.1 hr
    rw [ih hx]; exact congrArg some e2
  | loop x ih =>
    intro A H r hr
    simp only [aCode] at hr ⊢
    obtain ⟨n, hn⟩ := aLoop_iff.1 hr
    refine aLoop_iff.2 ⟨n, ?_⟩
    clear hr
    induction n generalizing A H with
    | zero => cases hn
    | succ n ihn =>
      simp only [aIter] at hn ⊢
      obtain ⟨s, hx, hr⟩ := Option.bind_eq_some_iff.1 hn
      rw [ih hx]
      simp only [Option.bind_some]
      split at hr
      · exact ihn hr
      · exact hr
  | _ => intro A H r hr; exact hr

theorem aBody_le (h : CLe c1 c2) {n : Nat} {rs : List ResultVar} {c : Code} {args : List Value} {H : AH} {r : Value × AH} (hr : aBody P G c1 n rs c args H = some r) : aBody P G c2 n rs c args H = some r := by
  unfold aBody at hr ⊢
  obtain ⟨s, hs, hr⟩ := Option.bind_eq_some_iff.1 hr
  rw [aCode_le h _ hs]
  exact hr

theorem aCall_succ : ∀ d, CLe (aCall P G d) (aCall P G (d + 1)) := by
  intro d
  induction d with
  | zero => intro f args H r h; cases h
  | succ d ih =>
    intro f args H r h
    rw [aCall] at h ⊢
    simp only [] at h ⊢
    cases hf : P.funcs[f]? with
    | none => rw [hf] at h; cases h
    | some fn =>
      rw [hf] at h
      simp only at h ⊢
      split at h
      · cases h
      · rename_i hn
        rw [if_neg hn]
        cases hb : fn.body with
        | none => rw [hb] at h; cases h
        | some c => rw [hb] at h; exact aBody_le ih h

theorem aCall_le {d e : Nat} (h : d ≤ e) : CLe (aCall P G d) (aCall P G e) := by
  induction e with
  | zero => rw [show d = 0 from by omega]; exact fun _ _ _ _ h => h
  | succ e ih =>
    by_cases hd : d = e + 1
    · rw [hd]; exact fun _ _ _ _ h => h
    · exact fun f args H r hr => aCall_succ e f args H r (ih (by omega) f args H r hr)

open Classical in
/-- **What a call comes to**, at whatever depth. -/
noncomputable def aF (P : Program) (G : List Nat) : CallF := fun f args H => if h : ∃ d r, aCall P G d f args H = some r then some h.choose_spec.choose else none

theorem aF_iff {f : Nat} {args : List Value} {H : AH} {r : Value × AH} : aF P G f args H = some r ↔ ∃ d, aCall P G d f args H = some r := by
  unfold aF
  constructor
  · intro h
    split at h
    · rename_i hx
      cases h
      exact ⟨_, hx.choose_spec.choose_spec⟩
    · cases h
  · rintro ⟨n, hn⟩
    have hx : ∃ d r, aCall P G d f args H = some r := ⟨n, r, hn⟩
    rw [dif_pos hx]
    have h1 := aCall_le (Nat.le_max_right n hx.choose) _ _ _ _ hx.choose_spec.choose_spec
    have h2 := aCall_le (Nat.le_max_left n hx.choose) _ _ _ _ hn
    rw [h2] at h1
    exact h1.symm

theorem aF_ok (hm : P.follows .mixedOrders = true) : CallOK P G (aF P G) ∧ CallMono (aF P G) := by
  constructor
  · intro f args H v H' h
    obtain ⟨d, hd⟩ := aF_iff.1 h
    exact (call_sound hm d).1 f args H v H' hd
  · intro f args H v H' h
    obtain ⟨d, hd⟩ := aF_iff.1 h
    exact (call_sound hm d).2 f args H v H' hd

/-! ### A run that ends has gone to some depth -/
theorem aOp_fin {ev : Operand → Value} {o : Oper} {H : AH} {r : Value × AH} (h : aOp P (aF P G) ev o H = some r) : ∃ d, aOp P (aCall P G d) ev o H = some r := by
  obtain ⟨dst, op, type, pos, after, guard⟩ := o
  cases op with
  | call c =>
    obtain ⟨callee, args, ats⟩ := c
    cases callee with
    | value f =>
      simp only [aOp] at h ⊢
      obtain ⟨x, hx, h⟩ := Option.bind_eq_some_iff.1 h
      obtain ⟨d, hd⟩ := aF_iff.1 h
      exact ⟨d, by rw [hx]; exact hd⟩
    | invoke r m => exact ⟨0, h⟩
    | builtin b => exact ⟨0, h⟩
  | makeMap t r => cases r <;> exact ⟨0, h⟩
  | slice t x lo hi mx => cases lo <;> cases hi <;> cases mx <;> exact ⟨0, h⟩
  | _ => exact ⟨0, h⟩

theorem aOps_fin {ops : Array Oper} : ∀ (l : List Oper) {A : List Value} {H : AH} {r : List Value × AH}, aOps P G (aF P G) ops l A H = some r → ∃ d, aOps P G (aCall P G d) ops l A H = some r := by
  intro l
  induction l with
  | nil => intro A H r hr; exact ⟨0, hr⟩
  | cons o l ih =>
    intro A H r hr
    simp only [aOps] at hr ⊢
    obtain ⟨s, hs, hr⟩ := Option.bind_eq_some_iff.1 hr
    obtain ⟨d2, h2⟩ := ih hr
    have h1 : ∃ d, aStep P G (aCall P G d) ops o A H = some s := by
      unfold aStep at hs ⊢
      split at hs
      · rename_i hok
        split at hs
        · rename_i hw
          obtain ⟨x, hx, e⟩ := Option.map_eq_some_iff.1 hs
          obtain ⟨d, hd⟩ := aOp_fin hx
          exact ⟨d, by rw [if_pos hok, if_pos hw, hd]; exact congrArg some e⟩
        · rename_i hw
          exact ⟨0, by rw [if_pos hok, if_neg hw]; exact hs⟩
      · cases hs
    obtain ⟨d1, h1⟩ := h1
    refine ⟨max d1 d2, ?_⟩
    rw [aStep_le (aCall_le (Nat.le_max_left ..)) h1]
    exact aOps_le (aCall_le (Nat.le_max_right ..)) _ h2

theorem aCall_F (d : Nat) : CLe (aCall P G d) (aF P G) := fun _ _ _ _ h => aF_iff.2 ⟨d, h⟩

theorem aRegion_fin {ops : Array Oper} {draw : Bool} {A : List Value} {H : AH} {r : List Value × AH} (h : aRegion P G (aF P G) ops draw A H = some r) : ∃ d, aRegion P G (aCall P G d) ops draw A H = some r := by
  cases draw with
  | false => exact aOps_fin _ h
  | true =>
    simp only [aRegion] at h ⊢
    obtain ⟨h1, h2, h3⟩ := aDraw_some h
    obtain ⟨d, hd⟩ := aOps_fin _ h3
    refine ⟨d, ?_⟩
    unfold aDraw
    rw [h1]
    simp only
    cases h4 : lookPairs ops.toList with
    | nil => exact hd
    | cons p ps =>
      simp only
      rw [chk_true ?_]
      · exact hd
      · rw [← stA_le (aCall_F d) hd, ← h4]; exact h2

theorem aCode_fin : ∀ (c : Code) {A : List Value} {H : AH} {r : AR}, aCode P G (aF P G) c A H = some r → ∃ d, aCode P G (aCall P G d) c A H = some r := by
  intro c
  induction c with
  | region id ops draw =>
    intro A H r hr
    simp only [aCode] at hr ⊢
    obtain ⟨s, hs, e1⟩ := Option.map_eq_some_iff.1 hr
    obtain ⟨d, hd⟩ := aRegion_fin hs
    exact ⟨d, by rw [hd]; exact congrArg some e1⟩
  | seq x y ihx ihy =>
    intro A H r hr
    simp only [aCode] at hr ⊢
    obtain ⟨s, hx, hr⟩ := Option.bind_eq_some_iff.1 hr
    obtain ⟨d1, h1⟩ := ihx hx
    split at hr
    · rename_i e
      obtain ⟨d2, h2⟩ := ihy hr
      refine ⟨max d1 d2, ?_⟩
      rw [aCode_le (aCall_le (Nat.le_max_left ..)) _ h1]
      simp only [Option.bind_some, e]
      exact aCode_le (aCall_le (Nat.le_max_right ..)) _ h2
    · refine ⟨d1, ?_⟩
      rw [h1]
      simp only [Option.bind_some]
      exact hr
  | cond c x y ihx ihy =>
    intro A H r hr
    simp only [aCode] at hr ⊢
    split at hr
    · exact ihx hr
    · exact ihy hr
    · cases hr
  | block id x ih =>
    intro A H r hr
    simp only [aCode] at hr ⊢
    obtain ⟨s, hx, e2⟩ := Option.map_eq_some_iff.1 hr
    obtain ⟨d, hd⟩ := ih hx
    exact ⟨d, by rw [hd]; exact congrArg some e2⟩
  | loop x ih =>
    intro A H r hr
    simp only [aCode] at hr ⊢
    obtain ⟨n, hn⟩ := aLoop_iff.1 hr
    have key : ∃ d, aIter (aCode P G (aCall P G d) x) n A H = some r := by
      clear hr
      induction n generalizing A H with
      | zero => cases hn
      | succ n ihn =>
        simp only [aIter] at hn ⊢
        obtain ⟨s, hx, hr⟩ := Option.bind_eq_some_iff.1 hn
        obtain ⟨d1, h1⟩ := ih hx
        split at hr
        · rename_i e
          obtain ⟨d2, h2⟩ := ihn hr
          refine ⟨max d1 d2, ?_⟩
          rw [aCode_le (aCall_le (Nat.le_max_left ..)) _ h1]
          simp only [Option.bind_some, e]
          have key2 : ∀ (n : Nat) {A : List Value} {H : AH} {r : AR}, aIter (aCode P G (aCall P G d2) x) n A H = some r → aIter (aCode P G (aCall P G (max d1 d2)) x) n A H = some r := by
            intro n
            induction n with
            | zero => intro A H r h; cases h
            | succ n ih2 =>
              intro A H r h
              simp only [aIter] at h ⊢
              obtain ⟨s, hx, hr⟩ := Option.bind_eq_some_iff.1 h
              rw [aCode_le (aCall_le (Nat.le_max_right d1 d2)) _ hx]
              simp only [Option.bind_some]
              split at hr
              · exact ih2 hr
              · exact hr
          exact key2 n h2
        · refine ⟨d1, ?_⟩
          rw [h1]
          simp only [Option.bind_some]
          exact hr
    obtain ⟨d, hd⟩ := key
    exact ⟨d, aLoop_iff.2 ⟨n, hd⟩⟩
  | _ => intro A H r hr; exact ⟨0, hr⟩

/-- **What the body comes to, the call comes to.** -/
theorem aF_of {f : Nat} {fn : Func} {c : Code} (hf : P.funcs[f]? = some fn) (hb : fn.body = some c) (hn : fn.name ≠ "runtime.NumGoroutine") {args : List Value} {H : AH} {r : Value × AH}
    (h : aBody P G (aF P G) fn.ntmps fn.results.toList c args H = some r) : aF P G f args H = some r := by
  unfold aBody at h
  obtain ⟨s, hs, h⟩ := Option.bind_eq_some_iff.1 h
  obtain ⟨d, hd⟩ := aCode_fin _ hs
  refine aF_iff.2 ⟨d + 1, ?_⟩
  simp only [aCall, hf, hb, if_neg hn, aBody, hd, Option.bind_some]
  exact h
end
end Go.Proofs.YtofbcaheogfkeaaDoor.Gst
