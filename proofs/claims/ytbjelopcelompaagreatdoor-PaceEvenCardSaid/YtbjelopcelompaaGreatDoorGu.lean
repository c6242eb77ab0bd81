/- Calls: the limit of the abstract run over all depths; it is sound, and what a body comes to, its call comes to. -/
import Derived.Test.YtbjelopcelompaaGreatDoorGt
import Derived.Defers
namespace Go.Proofs.YtbjelopcelompaaGreatDoor.Gst
open Go Go.RowKit
set_option linter.unusedSimpArgs false

/-- A result. -/
def aResult (P : Program) (A : List Value) (H : AH) : ResultVar → Option Value
  | .tmp t => some (A[t]?.getD undef)
  | .cell a t => (aggOf P t).bind fun g => match g with
    | some n => pLdN n (A[a]?.getD undef) H
    | none => pLd1 (A[a]?.getD undef) H
def aMany (P : Program) (A : List Value) (H : AH) : List ResultVar → Option (List Value)
  | [] => some []
  | r :: rs => (aResult P A H r).bind fun v => (aMany P A H rs).bind fun vs => some (v :: vs)
def aResults (P : Program) (A : List Value) (H : AH) (rs : List ResultVar) : Option Value := (aMany P A H rs).map fun vs => match vs with
  | [v] => v
  | vs => .tuple vs.toArray

def aFin (P : Program) (rs : List ResultVar) (r : AR) : Option (Value × AH) :=
  match r.1 with
  | .exit _ => none
  | _ => (aResults P r.2.1 r.2.2 rs).map (·, r.2.2)

/-- The body of a function, entered with these values. -/
noncomputable def aBody (P : Program) (G : List Nat) (call : CallF) (n : Nat) (rs : List ResultVar) (c : Code) (args : List Value) (H : AH) : Option (Value × AH) :=
  (aCode P G call c (args ++ List.replicate (n - args.length) undef) H).bind (aFin P rs)

/-! ### A function that defers one closure, which does nothing where nothing panics -/
structure DSh where
  c1 : Code
  id2 : Nat
  ops2 : Array Oper
  om : Oper
  df : Oper
  t : Nat
  k : Nat
  id3 : Nat
  ops3 : Array Oper
def dshape : Code → Option DSh
  | .seq c1 (.seq (.region id2 ops2 false) (.seq (.region id3 ops3 false) .ret)) => match ops2.toList with
    | [mk, df] => match mk.dst, mk.op, mk.guard, df.dst, df.op, df.guard with
      | some t, .makeFunc (.func k) first _, none, none, .defer ⟨.value (.tmp t'), args, _⟩, none => if t = t' ∧ first = #[] ∧ args = #[] then some ⟨c1, id2, ops2, mk, df, t, k, id3, ops3⟩ else none
      | _, _, _, _, _, _ => none
    | _ => none
  | _ => none
theorem dshape_some {c : Code} {s : DSh} (h : dshape c = some s) : c = .seq s.c1 (.seq (.region s.id2 s.ops2 false) (.seq (.region s.id3 s.ops3 false) .ret)) ∧ s.ops2.toList = [s.om, s.df] ∧ s.om.dst = some s.t ∧
    (∃ cap, s.om.op = .makeFunc (.func s.k) #[] cap) ∧ s.om.guard = none ∧ s.df.dst = none ∧ (∃ ats, s.df.op = .defer ⟨.value (.tmp s.t), #[], ats⟩) ∧ s.df.guard = none := by
  unfold dshape at h
  split at h
  · split at h
    · rename_i hl
      split at h
      · rename_i h1 h2 h3 h4 h5 h6
        split at h
        · rename_i hc
          obtain ⟨rfl, rfl, rfl⟩ := hc
          cases h
          exact ⟨rfl, hl, h1, ⟨_, h2⟩, h3, h4, ⟨_, h5⟩, h6⟩
        · cases h
      · cases h
    · cases h
  · cases h
/-- Called when the one that deferred it returns, it returns, and nothing has changed. -/
def Harmless (P : Program) (k : Nat) : Prop :=
  (∃ fn, P.funcs[k]? = some fn ∧ fn.body.isSome = true ∧ fn.name ≠ "runtime.NumGoroutine") ∧
  ∀ (args : Array Value) (w : World), CallsD P k args .returning w fun e u' w' => (∃ v, e = .returned v) ∧ u' = .returning ∧ w' = w
noncomputable def aDefer (P : Program) (G : List Nat) (call : CallF) (n : Nat) (rs : List ResultVar) (s : DSh) (args : List Value) (H : AH) : Option (Value × AH) :=
  (aCode P G call s.c1 (args ++ List.replicate (n - args.length) undef) H).bind fun r => match r.1 with
    | .normal => if r.2.1.length ≤ s.t then none else (aStep P G call s.ops2 s.om r.2.1 r.2.2).bind fun q => (aOps P G call s.ops3 s.ops3.toList q.1 q.2).bind fun z => (aResults P z.1 z.2 rs).map (·, z.2)
    | _ => none

noncomputable def aCall (P : Program) (G : List Nat) : Nat → CallF
  | 0 => fun _ _ _ => none
  | d + 1 => fun f args H => match P.funcs[f]? with
    | some fn => if fn.name = "runtime.NumGoroutine" then none else match fn.body with
      | some c => match dshape c with
        | none => aBody P G (aCall P G d) fn.ntmps fn.results.toList c args H
        | some s => chk (Harmless P s.k) (aDefer P G (aCall P G d) fn.ntmps fn.results.toList s args H)
      | none => none
    | none => none

section
variable {P : Program} {w0 : World} {B : Nat} {ρ : Ren} {H : AH} {w : World} {G : List Nat} {call : CallF}

theorem result_run {A : List Value} {a : Act} (hA : ActRel P ρ A a) (hR : Rel P w0 B ρ H w) {r : ResultVar} {v : Value} (h : aResult P A H r = some v) :
    ∃ v', (match r with | .tmp t => pure (a.tmps.getD t undef) | .cell x t => do loadVar t (← asAddr (a.tmps.getD x undef)) : Sem Value).run P w = .ok v' w ∧ VRel P ρ v v' := by
  have slot : ∀ t, VRel P ρ (A[t]?.getD undef) (a.tmps.getD t undef) := fun t => ev_rel (G := []) hA (fun g hg => by simp at hg) (x := .tmp t) rfl
  cases r with
  | tmp t => simp only [aResult] at h; cases h; exact ⟨_, rfl, slot t⟩
  | cell x t =>
    simp only [aResult] at h
    obtain ⟨g, hg, h⟩ := Option.bind_eq_some_iff.1 h
    cases g with
    | none =>
      obtain ⟨a', y', ha, hr, hv⟩ := load1 hR h (slot x)
      refine ⟨y', ?_, hv⟩
      simp only [ha]
      simp [asAddr, loadVar, aggOf_none hg]
      simpa using hr
    | some n =>
      obtain ⟨a', ys, ha, hr, hv⟩ := loadN hR h (slot x)
      obtain ⟨hag, hsz⟩ := aggOf_some hg w
      refine ⟨.agg ys, ?_, hv⟩
      simp only [ha]
      simp [asAddr, loadVar, hag, szOf_run hsz, hr]

theorem many_run {A : List Value} {a : Act} (hA : ActRel P ρ A a) (hR : Rel P w0 B ρ H w) : ∀ {rs : List ResultVar} {vs : List Value}, aMany P A H rs = some vs →
    ∃ vs', (rs.mapM (fun r => (match r with | .tmp t => pure (a.tmps.getD t undef) | .cell x t => do loadVar t (← asAddr (a.tmps.getD x undef)) : Sem Value))).run P w = .ok vs' w ∧ LRel P ρ vs vs' := by
  intro rs
  induction rs with
  | nil => intro vs h; simp only [aMany] at h; cases h; exact ⟨[], rfl, LRel.nil⟩
  | cons r rs ih =>
    intro vs h
    simp only [aMany] at h
    obtain ⟨v, hv, h⟩ := Option.bind_eq_some_iff.1 h
    obtain ⟨vs0, hvs, h⟩ := Option.bind_eq_some_iff.1 h
    cases h
    obtain ⟨v', hr, hv'⟩ := result_run hA hR hv
    obtain ⟨vs', hrs, hvs'⟩ := ih hvs
    refine ⟨v' :: vs', ?_, hvs'.cons hv'⟩
    rw [List.mapM_cons]
    simp only [Sem.run_bind, hr, Result.andThen_ok, hrs, Sem.run_pure]

theorem results_run {A : List Value} {a : Act} (hA : ActRel P ρ A a) (hR : Rel P w0 B ρ H w) {fn : Func} {v : Value} (h : aResults P A H fn.results.toList = some v) :
    ∃ v', (results fn a.tmps).run P w = .ok v' w ∧ VRel P ρ v v' := by
  unfold aResults at h
  obtain ⟨vs, hvs, e⟩ := Option.map_eq_some_iff.1 h
  obtain ⟨vs', hrun, hl⟩ := many_run hA hR hvs
  have hm : ∀ g : ResultVar → Sem Value, (fn.results.mapM g).run P w = ((fn.results.toList.mapM g >>= fun l => pure l.toArray : Sem (Array Value))).run P w := by
    intro g
    rw [Array.mapM_eq_mapM_toList]
    rfl
  have h2 : (results fn a.tmps).run P w = .ok (if h : vs'.toArray.size = 1 then vs'.toArray[0] else .tuple vs'.toArray) w := by
    unfold results
    rw [Sem.run_bind, hm, Sem.run_bind]
    erw [hrun]
    rfl
  refine ⟨_, h2, ?_⟩
  have hlen := hl.1
  split at e
  · rename_i x
    subst e
    match vs', hlen, hl with
    | [y], _, hl => simpa using hl.2 0 _ _ rfl rfl
  · rename_i hne
    subst e
    have : ¬ vs'.toArray.size = 1 := by
      intro h1
      match vs, hlen, hne with
      | [x], _, hne => exact hne x rfl
      | [], hlen, _ => simp at hlen h1; omega
      | x :: y :: zs, hlen, _ => simp at hlen h1; omega
    rw [dif_neg this]
    exact .tuple (by simp [hlen]) (fun i x y hx hy => hl.2 i x y (by simpa using hx) (by simpa using hy))

/-- A region whose order is the text's, while something stands deferred. -/
theorem ops_soundD (hcall : CallOK P G call) {ops : Array Oper} (ds : List Deferred) {Q : Exit → Act → World → Prop} : ∀ (l : List Oper) {ρ : Ren} {A : List Value} {H : AH} {a : Act} {w : World} {A' : List Value} {H' : AH}, aOps P G call ops l A H = some (A', H') →
    ActRel P ρ A a → GlobRel ρ G → Rel P w0 B ρ H w → (∀ a' w', Post P w0 B G ρ H w A' H' a' w' → Q .normal { a' with defers := ds } w') → wpList P ops Q l { a with defers := ds } w := by
  intro l
  induction l with
  | nil =>
    intro ρ A H a w A' H' h hA hG hR hQ
    simp only [aOps] at h
    cases h
    exact hQ a w ⟨ρ, hA, hG, Ext.refl _ _ _, hR⟩
  | cons o rest ih =>
    intro ρ A H a w A' H' h hA hG hR hQ
    simp only [aOps] at h
    obtain ⟨⟨A1, H1⟩, hs, h⟩ := Option.bind_eq_some_iff.1 h
    simp only at h
    unfold aStep at hs
    split at hs
    · rename_i hok
      unfold wpList
      have hwr := wanted_rel hA ops o
      rw [show Region.wanted o (yielded ops ({ a with defers := ds } : Act).tmps) = Region.wanted o (aYield ops A) from hwr]
      split at hs
      · rename_i hw
        rw [if_pos hw]
        obtain ⟨⟨v, H2⟩, ho, e⟩ := Option.map_eq_some_iff.1 hs
        cases e
        have hr := op_reach hcall hA hG hR hok ho
        refine .inl (OpOut.wp (a := { a with defers := ds }) (OpOut.congr hr rfl) (fun v' w' hv => ?_))
        obtain ⟨ρ', hv, hE, hR'⟩ := hv
        have := ih (a := a.put o.dst v') h (put_rel (hA.mono hE.le) o.dst hv) (hG.mono hE.le) hR' (fun a' w'' hp => hQ a' w'' (hp.trans hR hE))
        have e : ({ a.put o.dst v' with defers := ds } : Act) = ({ a with defers := ds } : Act).put o.dst v' := by cases o.dst <;> rfl
        rw [e] at this
        exact this
      · rename_i hw
        rw [if_neg hw]
        cases hs
        have := ih (a := a.put o.dst undef) h (put_rel hA o.dst VRel.undef) hG hR hQ
        have e : ({ a.put o.dst undef with defers := ds } : Act) = ({ a with defers := ds } : Act).put o.dst undef := by cases o.dst <;> rfl
        rw [e] at this
        exact this
    · cases hs

theorem defer_sound (hcall : CallOK P G call) (hmono : CallMono call) (hm : P.follows .mixedOrders = true) {f : Nat} {fn : Func} {c : Code} {s : DSh} (hf : P.funcs[f]? = some fn) (hb : fn.body = some c) (hd : dshape c = some s)
    {args : List Value} {args' : Array Value} {v : Value} {H' : AH} (h : chk (Harmless P s.k) (aDefer P G call fn.ntmps fn.results.toList s args H) = some (v, H'))
    (hA : ActRel P ρ (args ++ List.replicate (fn.ntmps - args.length) undef) { tmps := args' ++ Array.replicate (fn.ntmps - args'.size) undef, defers := [] }) (hG : GlobRel ρ G) (hR : Rel P w0 B ρ H w) :
    Calls P f args' w fun e w' => ∃ v' ρ', e = .returned v' ∧ VRel P ρ' v v' ∧ Ext ρ H w ρ' H' w' ∧ Rel P w0 B ρ' H' w' := by
  obtain ⟨⟨⟨fk, hfk, hbk, hnk⟩, hcd⟩, h⟩ := chk_some h
  obtain ⟨hc, hl2, hdst, ⟨cap, hop⟩, hg, hdd, ⟨ats, hdo⟩, hdg⟩ := dshape_some hd
  unfold aDefer at h
  obtain ⟨⟨e1, A1, H1⟩, h1, h⟩ := Option.bind_eq_some_iff.1 h
  cases e1 with
  | exit i => cases h
  | ret => cases h
  | normal =>
    simp only at h
    split at h
    · cases h
    rename_i hlt
    obtain ⟨⟨A2, H2⟩, h2, h⟩ := Option.bind_eq_some_iff.1 h
    obtain ⟨⟨A3, H3⟩, h3, h⟩ := Option.bind_eq_some_iff.1 h
    obtain ⟨x, hx, e⟩ := Option.map_eq_some_iff.1 h
    cases e
    refine calls_of_wp_defers hf hb ?_
    rw [hc]
    refine wp_seq (code_sound hcall hmono hm s.c1 h1 hA hG hR (fun a1 w1 hp => ?_))
    obtain ⟨ρ1, hA1, hG1, hE1, hR1⟩ := hp
    refine wp_seq (wp_region_list ?_)
    rw [hl2]
    have hd1 : a1.defers = [] := hA1.defers
    unfold aStep at h2
    split at h2
    · rename_i hok
      have hwt : Region.wanted s.om (aYield s.ops2 A1) = true := by simp [Region.wanted, hg]
      rw [if_pos hwt] at h2
      obtain ⟨⟨y, H2'⟩, ho, e⟩ := Option.map_eq_some_iff.1 h2
      cases e
      refine wpList_plain hg (fun K hK => OpOut.wp (op_reach hcall hA1 hG1 hR1 hok ho) (fun v' w2 hv => hK _ _ ?_))
      obtain ⟨ρ2, hv, hE2, hR2⟩ := hv
      have hy : y = .func (.func s.k) #[] (cap.map (aEv A1)) := by
        unfold aOp at ho
        rw [hop] at ho
        simp at ho
        exact ho.1.symm
      rw [hy] at hv
      obtain ⟨f', c', rfl, hf', _⟩ := hv.func_inv
      have hf0 : f' = #[] := by
        have := hf'.1
        simp at this
        exact Array.eq_empty_of_size_eq_zero (by simpa using this.symm)
      subst hf0
      refine wpList_plain hdg (fun K' hK' => ?_)
      have ht : (a1.put s.om.dst (.func (.func s.k) #[] c')).eval (.tmp s.t) = .func (.func s.k) #[] c' := by
        have hsz : s.t < a1.tmps.size := by have := hA1.tmps.1; simp at this; omega
        rw [hdst]
        simp [Act.put, Act.eval, hsz, Array.getD]
      have hrun : (execOp (a1.put s.om.dst (.func (.func s.k) #[] c')).eval s.df).run P w2 = .ok (.defer { target := .fn (.func s.k) c', args := #[] }) w2 := by
        simp [execOp, hdo, resolve, ht, Deferred.ofValue]
      unfold Oper.wp
      rw [hrun, Oper.upon_defer]
      refine hK' _ _ (wpList_nil ?_)
      rw [hdd]
      have hA2 := put_rel (hA1.mono hE2.le) s.om.dst hv
      have hpd : ∀ (a : Act) (d : Option Tmp) (x : Value), (a.put d x).defers = a.defers := by intro a d x; cases d <;> rfl
      have e : ({ a1.put s.om.dst (.func (.func s.k) #[] c') with defers := { target := .fn (.func s.k) c', args := #[] } :: (a1.put s.om.dst (.func (.func s.k) #[] c')).defers } : Act).put none undef
          = { a1.put s.om.dst (.func (.func s.k) #[] c') with defers := [{ target := .fn (.func s.k) c', args := #[] }] } := by
        rw [hpd, hd1]; rfl
      rw [e]
      show (Code.seq (.region s.id3 s.ops3 false) .ret).wp P _ _ _
      rw [hy] at h3
      refine wp_seq (wp_region_list (ops_soundD hcall _ _ h3 hA2 (hG1.mono hE2.le) hR2 (fun a3 w3 hp => ?_)))
      obtain ⟨ρ3, hA3, hG3, hE3, hR3⟩ := hp
      refine wp_ret ?_
      obtain ⟨v3, hr3, hv3⟩ := results_run hA3 hR3 hx
      have hbn : ¬ (fk.body = none) := by intro hb; rw [hb] at hbk; cases hbk
      refine leaves_cons (f := s.k) (args := c') (by simp) (by simp [invoke, callFunc, hfk, hnk, hbn]) (CallsD.mono (hcd _ _) ?_)
      rintro e' u' w' ⟨⟨v0, rfl⟩, rfl, rfl⟩
      exact ⟨v3, hr3, v3, ρ3, rfl, hv3, hE1.trans hR (hE2.trans hR1 hE3), hR3⟩
    · cases h2

theorem aDefer_mono (hm : CallMono call) {n : Nat} {rs : List ResultVar} {s : DSh} {args : List Value} {v : Value} {H' : AH} (h : aDefer P G call n rs s args H = some (v, H')) : H.size ≤ H'.size := by
  unfold aDefer at h
  obtain ⟨⟨e1, A1, H1⟩, h1, h⟩ := Option.bind_eq_some_iff.1 h
  cases e1 with
  | exit i => cases h
  | ret => cases h
  | normal =>
    simp only at h
    split at h
    · cases h
    obtain ⟨⟨A2, H2⟩, h2, h⟩ := Option.bind_eq_some_iff.1 h
    obtain ⟨⟨A3, H3⟩, h3, h⟩ := Option.bind_eq_some_iff.1 h
    obtain ⟨x, hx, e⟩ := Option.map_eq_some_iff.1 h
    cases e
    have g1 := aCode_mono hm _ h1
    have g2 : H1.size ≤ H2.size := aOps_mono (P := P) (G := G) (call := call) hm [s.om] (ops := s.ops2) (A := A1) (H := H1) (r := (A2, H2)) (by simp [aOps, h2])
    have g3 := aOps_mono hm _ h3
    simp only at g1 g3
    exact Nat.le_trans g1 (Nat.le_trans g2 g3)

theorem call_sound (hm : P.follows .mixedOrders = true) : ∀ d, CallOK P G (aCall P G d) ∧ CallMono (aCall P G d) := by
  intro d
  induction d with
  | zero => exact ⟨fun f args H v H' h => (by cases h), fun f args H v H' h => (by cases h)⟩
  | succ d ih =>
    constructor
    · intro f args H v H' h
      simp only [aCall] at h
      cases hf : P.funcs[f]? with
      | none => rw [hf] at h; cases h
      | some fn =>
        rw [hf] at h
        simp only at h
        split at h
        · cases h
        · rename_i hname
          cases hb : fn.body with
          | none => rw [hb] at h; cases h
          | some c =>
            rw [hb] at h
            simp only at h
            refine ⟨⟨fn, rfl, by rw [hb]; rfl, hname⟩, fun w0 B ρ w args' hR hG hargs => ?_⟩
            have hA : ActRel P ρ (args ++ List.replicate (fn.ntmps - args.length) undef) { tmps := args'.toArray ++ Array.replicate (fn.ntmps - args'.toArray.size) undef, defers := [] } := by
              refine ⟨?_, rfl⟩
              simp only [Array.toList_append, Array.toList_replicate, List.size_toArray]
              rw [hargs.1]
              refine hargs.append ⟨rfl, fun i x y hx hy => ?_⟩
              rw [hx] at hy
              cases hy
              rw [List.getElem?_replicate] at hx
              split at hx
              · cases hx; exact VRel.undef
              · cases hx
            cases hd : dshape c with
            | some s => rw [hd] at h; exact defer_sound ih.1 ih.2 hm hf hb hd h hA hG hR
            | none =>
            rw [hd] at h
            simp only [aBody] at h
            obtain ⟨⟨e, A', H2⟩, hc, h⟩ := Option.bind_eq_some_iff.1 h
            refine calls_of_wp hf hb ?_
            refine code_sound ih.1 ih.2 hm c hc hA hG hR (fun a' w' hp => ?_)
            obtain ⟨ρ', hA', hG', hE, hR'⟩ := hp
            have fin : ∀ {x : Value} {H3 : AH}, (aResults P A' H2 fn.results.toList).map (·, H2) = some (x, H3) → a'.defers = [] ∧ ∃ v', (results fn a'.tmps).run P w' = .ok v' w' ∧ ∃ v'' ρ'', Ending.returned v' = .returned v'' ∧ VRel P ρ'' x v'' ∧ Ext ρ H w ρ'' H3 w' ∧ Rel P w0 B ρ'' H3 w' := by
              intro x H3 hx
              obtain ⟨y, hy, e⟩ := Option.map_eq_some_iff.1 hx
              cases e
              obtain ⟨v', hr, hv⟩ := results_run hA' hR' hy
              exact ⟨hA'.defers, v', hr, v', ρ', rfl, hv, hE, hR'⟩
            cases e with
            | normal => exact fin h
            | ret => exact fin h
            | exit i => cases h
    · intro f args H v H' h
      simp only [aCall] at h
      cases hf : P.funcs[f]? with
      | none => rw [hf] at h; cases h
      | some fn =>
        rw [hf] at h
        simp only at h
        split at h
        · cases h
        · cases hb : fn.body with
          | none => rw [hb] at h; cases h
          | some c =>
            rw [hb] at h
            simp only [aBody] at h
            cases hd : dshape c with
            | some s =>
              rw [hd] at h
              obtain ⟨_, h⟩ := chk_some h
              exact aDefer_mono ih.2 h
            | none =>
            rw [hd] at h
            simp only at h
            obtain ⟨⟨e, A', H2⟩, hc, h⟩ := Option.bind_eq_some_iff.1 h
            have h1 := aCode_mono ih.2 c hc
            unfold aFin at h
            split at h
            · cases h
            · obtain ⟨y, hy, e⟩ := Option.map_eq_some_iff.1 h
              cases e; exact h1
end

/-! ### More depth tells no other thing -/
def CLe (c1 c2 : CallF) : Prop := ∀ f args H r, c1 f args H = some r → c2 f args H = some r

section
variable {P : Program} {G : List Nat} {c1 c2 : CallF}

theorem aOp_le (h : CLe c1 c2) {ev : Operand → Value} {o : Oper} {H : AH} {r : Value × AH} (hr : aOp P c1 ev o H = some r) : aOp P c2 ev o H = some r := by
  obtain ⟨dst, op, type, pos, after, guard⟩ := o
  cases op with
  | call c =>
    obtain ⟨callee, args, ats⟩ := c
    cases callee with
    | value f =>
      simp only [aOp] at hr ⊢
      obtain ⟨x, hx, hr⟩ := Option.bind_eq_some_iff.1 hr
      rw [hx]
      exact h _ _ _ _ hr
    | invoke r m => exact hr
    | builtin b => exact hr
  | makeMap t r => cases r <;> exact hr
  | slice t x lo hi mx => cases lo <;> cases hi <;> cases mx <;> exact hr
  | _ => exact hr

theorem aStep_le (h : CLe c1 c2) {ops : Array Oper} {o : Oper} {A : List Value} {H : AH} {r : List Value × AH} (hr : aStep P G c1 ops o A H = some r) : aStep P G c2 ops o A H = some r := by
  unfold aStep at hr ⊢
  split at hr
  · rename_i hok
    rw [if_pos hok]
    split at hr
    · rename_i hw
      rw [if_pos hw]
      obtain ⟨x, hx, e⟩ := Option.map_eq_some_iff.1 hr
      rw [aOp_le h hx]
      exact congrArg some e
    · rename_i hw
      rw [if_neg hw]
      exact hr
  · cases hr

theorem aOps_le (h : CLe c1 c2) {ops : Array Oper} : ∀ (l : List Oper) {A : List Value} {H : AH} {r : List Value × AH}, aOps P G c1 ops l A H = some r → aOps P G c2 ops l A H = some r := by
  intro l
  induction l with
  | nil => intro A H r hr; exact hr
  | cons o l ih =>
    intro A H r hr
    simp only [aOps] at hr ⊢
    obtain ⟨s, hs, hr⟩ := Option.bind_eq_some_iff.1 hr
    rw [aStep_le h hs]
    exact ih hr

theorem stA_le (h : CLe c1 c2) {ops : Array Oper} {A : List Value} {H : AH} {r : List Value × AH} (hr : aOps P G c1 ops ops.toList A H = some r) : stA P G c2 ops A H = stA P G c1 ops A H := by
  funext i
  have h1 := aOps_le h _ (stA_take hr i)
  unfold stA at h1 ⊢
  rw [h1]; rfl

theorem aDraw_le (h : CLe c1 c2) {ops : Array Oper} {A : List Value} {H : AH} {r : List Value × AH} (hr : aDraw P G c1 ops A H = some r) : aDraw P G c2 ops A H = some r := by
  obtain ⟨h1, h2, h3⟩ := aDraw_some hr
  unfold aDraw
  rw [h1]
  simp only
  cases h4 : lookPairs ops.toList with
  | nil => exact aOps_le h _ h3
  | cons p ps =>
    simp only
    rw [chk_true ?_]
    · exact aOps_le h _ h3
    · rw [stA_le h h3, ← h4]; exact h2

theorem aCode_le (h : CLe c1 c2) : ∀ (c : Code) {A : List Value} {H : AH} {r : AR}, aCode P G c1 c A H = some r → aCode P G c2 c A H = some r := by
  intro c
  induction c with
  | region id ops draw =>
    intro A H r hr
    simp only [aCode] at hr ⊢
    obtain ⟨s, hs, e1⟩ := Option.map_eq_some_iff.1 hr
    have : aRegion P G c2 ops draw A H = some s := by
      cases draw with
      | true => exact aDraw_le h hs
      | false => exact aOps_le h _ hs
    rw [this]; exact congrArg some e1
  | seq x y ihx ihy =>
    intro A H r hr
    simp only [aCode] at hr ⊢
    obtain ⟨s, hx, hr⟩ := Option.bind_eq_some_iff.1 hr
    rw [ihx hx]
    simp only [Option.bind_some]
    split at hr
    · exact ihy hr
    · exact hr
  | cond c x y ihx ihy =>
    intro A H r hr
    simp only [aCode] at hr ⊢
    split at hr
    · exact ihx hr
    · exact ihy hr
    · cases hr
  | block id x ih =>
    intro A H r hr
    simp only [aCode] at hr ⊢
    obtain ⟨s, hx, e2⟩ := Option.map_eq_some_iff.1 hr
    rw [ih hx]; exact congrArg some e2
  | loop x ih =>
    intro A H r hr
    simp only [aCode] at hr ⊢
    obtain ⟨n, hn⟩ := aLoop_iff.1 hr
    refine aLoop_iff.2 ⟨n, ?_⟩
    clear hr
    induction n generalizing A H with
    | zero => cases hn
    | succ n ihn =>
      simp only [aIter] at hn ⊢
      obtain ⟨s, hx, hr⟩ := Option.bind_eq_some_iff.1 hn
      rw [ih hx]
      simp only [Option.bind_some]
      split at hr
      · exact ihn hr
      · exact hr
  | _ => intro A H r hr; exact hr

theorem aBody_le (h : CLe c1 c2) {n : Nat} {rs : List ResultVar} {c : Code} {args : List Value} {H : AH} {r : Value × AH} (hr : aBody P G c1 n rs c args H = some r) : aBody P G c2 n rs c args H = some r := by
  unfold aBody at hr ⊢
  obtain ⟨s, hs, hr⟩ := Option.bind_eq_some_iff.1 hr
  rw [aCode_le h _ hs]
  exact hr

theorem aDefer_le (h : CLe c1 c2) {n : Nat} {rs : List ResultVar} {s : DSh} {args : List Value} {H : AH} {r : Value × AH} (hr : aDefer P G c1 n rs s args H = some r) : aDefer P G c2 n rs s args H = some r := by
  unfold aDefer at hr ⊢
  obtain ⟨⟨e1, A1, H1⟩, h1, hr⟩ := Option.bind_eq_some_iff.1 hr
  rw [aCode_le h _ h1]
  simp only [Option.bind_some]
  cases e1 with
  | exit i => exact hr
  | ret => exact hr
  | normal =>
    simp only at hr ⊢
    split at hr
    · cases hr
    rename_i hlt
    rw [if_neg hlt]
    obtain ⟨q, h2, hr⟩ := Option.bind_eq_some_iff.1 hr
    obtain ⟨z, h3, hr⟩ := Option.bind_eq_some_iff.1 hr
    rw [aStep_le h h2]
    simp only [Option.bind_some]
    rw [aOps_le h _ h3]
    exact hr
theorem aCall_succ : ∀ d, CLe (aCall P G d) (aCall P G (d + 1)) := by
  intro d
  induction d with
  | zero => intro f args H r h; cases h
  | succ d ih =>
    intro f args H r h
    rw [aCall] at h ⊢
    simp only [] at h ⊢
    cases hf : P.funcs[f]? with
    | none => rw [hf] at h; cases h
    | some fn =>
      rw [hf] at h
      simp only at h ⊢
      split at h
      · cases h
      · rename_i hn
        rw [if_neg hn]
        cases hb : fn.body with
        | none => rw [hb] at h; cases h
        | some c =>
          rw [hb] at h
          simp only at h ⊢
          cases hd : dshape c with
          | none => rw [hd] at h; exact aBody_le ih h
          | some s =>
            rw [hd] at h
            obtain ⟨h1, h2⟩ := chk_some h
            simp only
            rw [chk_true h1]
            exact aDefer_le ih h2

theorem aCall_le {d e : Nat} (h : d ≤ e) : CLe (aCall P G d) (aCall P G e) := by
  induction e with
  | zero => rw [show d = 0 from by omega]; exact fun _ _ _ _ h => h
  | succ e ih =>
    by_cases hd : d = e + 1
    · rw [hd]; exact fun _ _ _ _ h => h
    · exact fun f args H r hr => aCall_succ e f args H r (ih (by omega) f args H r hr)

open Classical in
/-- **What a call comes to**, at whatever depth. -/
noncomputable def aF (P : Program) (G : List Nat) : CallF := fun f args H => if h : ∃ d r, aCall P G d f args H = some r then some h.choose_spec.choose else none

theorem aF_iff {f : Nat} {args : List Value} {H : AH} {r : Value × AH} : aF P G f args H = some r ↔ ∃ d, aCall P G d f args H = some r := by
  unfold aF
  constructor
  · intro h
    split at h
    · rename_i hx
      cases h
      exact ⟨_, hx.choose_spec.choose_spec⟩
    · cases h
  · rintro ⟨n, hn⟩
    have hx : ∃ d r, aCall P G d f args H = some r := ⟨n, r, hn⟩
    rw [dif_pos hx]
    have h1 := aCall_le (Nat.le_max_right n hx.choose) _ _ _ _ hx.choose_spec.choose_spec
    have h2 := aCall_le (Nat.le_max_left n hx.choose) _ _ _ _ hn
    rw [h2] at h1
    exact h1.symm

theorem aF_ok (hm : P.follows .mixedOrders = true) : CallOK P G (aF P G) ∧ CallMono (aF P G) := by
  constructor
  · intro f args H v H' h
    obtain ⟨d, hd⟩ := aF_iff.1 h
    exact (call_sound hm d).1 f args H v H' hd
  · intro f args H v H' h
    obtain ⟨d, hd⟩ := aF_iff.1 h
    exact (call_sound hm d).2 f args H v H' hd

/-! ### A run that ends has gone to some depth -/
theorem aOp_fin {ev : Operand → Value} {o : Oper} {H : AH} {r : Value × AH} (h : aOp P (aF P G) ev o H = some r) : ∃ d, aOp P (aCall P G d) ev o H = some r := by
  obtain ⟨dst, op, type, pos, after, guard⟩ := o
  cases op with
  | call c =>
    obtain ⟨callee, args, ats⟩ := c
    cases callee with
    | value f =>
      simp only [aOp] at h ⊢
      obtain ⟨x, hx, h⟩ := Option.bind_eq_some_iff.1 h
      obtain ⟨d, hd⟩ := aF_iff.1 h
      exact ⟨d, by rw [hx]; exact hd⟩
    | invoke r m => exact ⟨0, h⟩
    | builtin b => exact ⟨0, h⟩
  | makeMap t r => cases r <;> exact ⟨0, h⟩
  | slice t x lo hi mx => cases lo <;> cases hi <;> cases mx <;> exact ⟨0, h⟩
  | _ => exact ⟨0, h⟩

theorem aOps_fin {ops : Array Oper} : ∀ (l : List Oper) {A : List Value} {H : AH} {r : List Value × AH}, aOps P G (aF P G) ops l A H = some r → ∃ d, aOps P G (aCall P G d) ops l A H = some r := by
  intro l
  induction l with
  | nil => intro A H r hr; exact ⟨0, hr⟩
  | cons o l ih =>
    intro A H r hr
    simp only [aOps] at hr ⊢
    obtain ⟨s, hs, hr⟩ := Option.bind_eq_some_iff.1 hr
    obtain ⟨d2, h2⟩ := ih hr
    have h1 : ∃ d, aStep P G (aCall P G d) ops o A H = some s := by
      unfold aStep at hs ⊢
      split at hs
      · rename_i hok
        split at hs
        · rename_i hw
          obtain ⟨x, hx, e⟩ := Option.map_eq_some_iff.1 hs
          obtain ⟨d, hd⟩ := aOp_fin hx
          exact ⟨d, by rw [if_pos hok, if_pos hw, hd]; exact congrArg some e⟩
        · rename_i hw
          exact ⟨0, by rw [if_pos hok, if_neg hw]; exact hs⟩
      · cases hs
    obtain ⟨d1, h1⟩ := h1
    refine ⟨max d1 d2, ?_⟩
    rw [aStep_le (aCall_le (Nat.le_max_left ..)) h1]
    exact aOps_le (aCall_le (Nat.le_max_right ..)) _ h2

theorem aCall_F (d : Nat) : CLe (aCall P G d) (aF P G) := fun _ _ _ _ h => aF_iff.2 ⟨d, h⟩

theorem aRegion_fin {ops : Array Oper} {draw : Bool} {A : List Value} {H : AH} {r : List Value × AH} (h : aRegion P G (aF P G) ops draw A H = some r) : ∃ d, aRegion P G (aCall P G d) ops draw A H = some r := by
  cases draw with
  | false => exact aOps_fin _ h
  | true =>
    simp only [aRegion] at h ⊢
    obtain ⟨h1, h2, h3⟩ := aDraw_some h
    obtain ⟨d, hd⟩ := aOps_fin _ h3
    refine ⟨d, ?_⟩
    unfold aDraw
    rw [h1]
    simp only
    cases h4 : lookPairs ops.toList with
    | nil => exact hd
    | cons p ps =>
      simp only
      rw [chk_true ?_]
      · exact hd
      · rw [← stA_le (aCall_F d) hd, ← h4]; exact h2

theorem aCode_fin : ∀ (c : Code) {A : List Value} {H : AH} {r : AR}, aCode P G (aF P G) c A H = some r → ∃ d, aCode P G (aCall P G d) c A H = some r := by
  intro c
  induction c with
  | region id ops draw =>
    intro A H r hr
    simp only [aCode] at hr ⊢
    obtain ⟨s, hs, e1⟩ := Option.map_eq_some_iff.1 hr
    obtain ⟨d, hd⟩ := aRegion_fin hs
    exact ⟨d, by rw [hd]; exact congrArg some e1⟩
  | seq x y ihx ihy =>
    intro A H r hr
    simp only [aCode] at hr ⊢
    obtain ⟨s, hx, hr⟩ := Option.bind_eq_some_iff.1 hr
    obtain ⟨d1, h1⟩ := ihx hx
    split at hr
    · rename_i e
      obtain ⟨d2, h2⟩ := ihy hr
      refine ⟨max d1 d2, ?_⟩
      rw [aCode_le (aCall_le (Nat.le_max_left ..)) _ h1]
      simp only [Option.bind_some, e]
      exact aCode_le (aCall_le (Nat.le_max_right ..)) _ h2
    · refine ⟨d1, ?_⟩
      rw [h1]
      simp only [Option.bind_some]
      exact hr
  | cond c x y ihx ihy =>
    intro A H r hr
    simp only [aCode] at hr ⊢
    split at hr
    · exact ihx hr
    · exact ihy hr
    · cases hr
  | block id x ih =>
    intro A H r hr
    simp only [aCode] at hr ⊢
    obtain ⟨s, hx, e2⟩ := Option.map_eq_some_iff.1 hr
    obtain ⟨d, hd⟩ := ih hx
    exact ⟨d, by rw [hd]; exact congrArg some e2⟩
  | loop x ih =>
    intro A H r hr
    simp only [aCode] at hr ⊢
    obtain ⟨n, hn⟩ := aLoop_iff.1 hr
    have key : ∃ d, aIter (aCode P G (aCall P G d) x) n A H = some r := by
      clear hr
      induction n generalizing A H with
      | zero => cases hn
      | succ n ihn =>
        simp only [aIter] at hn ⊢
        obtain ⟨s, hx, hr⟩ := Option.bind_eq_some_iff.1 hn
        obtain ⟨d1, h1⟩ := ih hx
        split at hr
        · rename_i e
          obtain ⟨d2, h2⟩ := ihn hr
          refine ⟨max d1 d2, ?_⟩
          rw [aCode_le (aCall_le (Nat.le_max_left ..)) _ h1]
          simp only [Option.bind_some, e]
          have key2 : ∀ (n : Nat) {A : List Value} {H : AH} {r : AR}, aIter (aCode P G (aCall P G d2) x) n A H = some r → aIter (aCode P G (aCall P G (max d1 d2)) x) n A H = some r := by
            intro n
            induction n with
            | zero => intro A H r h; cases h
            | succ n ih2 =>
              intro A H r h
              simp only [aIter] at h ⊢
              obtain ⟨s, hx, hr⟩ := Option.bind_eq_some_iff.1 h
              rw [aCode_le (aCall_le (Nat.le_max_right d1 d2)) _ hx]
              simp only [Option.bind_some]
              split at hr
              · exact ih2 hr
              · exact hr
          exact key2 n h2
        · refine ⟨d1, ?_⟩
          rw [h1]
          simp only [Option.bind_some]
          exact hr
    obtain ⟨d, hd⟩ := key
    exact ⟨d, aLoop_iff.2 ⟨n, hd⟩⟩
  | _ => intro A H r hr; exact ⟨0, hr⟩

/-- **What the body comes to, the call comes to.** -/
theorem aF_of {f : Nat} {fn : Func} {c : Code} (hf : P.funcs[f]? = some fn) (hb : fn.body = some c) (hn : fn.name ≠ "runtime.NumGoroutine") (hds : dshape c = none) {args : List Value} {H : AH} {r : Value × AH}
    (h : aBody P G (aF P G) fn.ntmps fn.results.toList c args H = some r) : aF P G f args H = some r := by
  unfold aBody at h
  obtain ⟨s, hs, h⟩ := Option.bind_eq_some_iff.1 h
  obtain ⟨d, hd⟩ := aCode_fin _ hs
  refine aF_iff.2 ⟨d + 1, ?_⟩
  simp only [aCall, hf, hb, if_neg hn, hds, aBody, hd, Option.bind_some]
  exact h
end
end Go.Proofs.YtbjelopcelompaaGreatDoor.Gst
