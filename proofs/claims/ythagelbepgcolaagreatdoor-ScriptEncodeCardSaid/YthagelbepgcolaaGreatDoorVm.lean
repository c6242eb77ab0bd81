/- A closed call by the tree, where some calls are told by others, and closures that recover are deferred. -/
import Derived.Test.YthagelbepgcolaaGreatDoorMf
namespace Go.Proofs.YthagelbepgcolaaGreatDoor.Gst
open Go Go.RowKit
set_option linter.unusedSimpArgs false
set_option linter.unusedVariables false

def tDeferR (P : Program) (G : List Nat) (call : TF) (N n : Nat) (rs : List ResultVar) (s : RSh) (T : Tr Value) (E : EH) : Option (Value × EH) :=
  (tCode P G call N n s.c1 T E).bind fun r => match r.1 with
    | .normal => match Nat.blt s.t n with
      | true => (tStep P G call s.ops2 n s.om r.2.1 r.2.2).bind fun q => (tCode P G call N n s.c3 q.1 q.2).bind (tFin P rs)
      | false => none
    | _ => none
/-- O: calls that are told otherwise. D: closures that do nothing where nothing panics. -/
def tCallO (P : Program) (G D : List Nat) (O : TF) (N : Nat) : Nat → TF
  | 0 => fun _ _ _ => none
  | k + 1 => fun f args E => match O f args E with
    | some r => some r
    | none => match P.funcs[f]? with
      | some fn => if fn.name = "runtime.NumGoroutine" ∨ libName fn.name = true then none else match fn.body with
        | some c => match Nat.ble args.length fn.ntmps with
          | true => (tInit args 0 .lf).bind fun T => match rshape c with
            | none => (tCode P G (tCallO P G D O N k) N fn.ntmps c T E).bind (tFin P fn.results.toList)
            | some s => match D.contains s.k with
              | true => tDeferR P G (tCallO P G D O N k) N fn.ntmps fn.results.toList s T E
              | false => none
          | false => none
        | none => none
      | none => none

theorem bDefer_normal {P : Program} {G : List Nat} {b : CallB} {n : Nat} {rs : List ResultVar} {s : RSh} (hh : Harmless P s.k) {args : List Value} {H : AH} {A1 : List Value} {H1 : AH} {q : List Value × AH} {z : AR} {r : Value × AH}
    (h1 : aCode P G (nrm b) s.c1 (args ++ List.replicate (n - args.length) undef) H = some (.normal, A1, H1)) (hlt : s.t < A1.length) (h2 : aStep P G (nrm b) s.ops2 s.om A1 H1 = some q)
    (h3 : aCode P G (nrm b) s.c3 q.1 q.2 = some z) (h4 : aFin P rs z = some r) : bDefer P G b n rs s args H = some (.ret r.1, r.2) := by
  unfold bDefer
  rw [h1]
  simp only [Option.bind_some]
  rw [if_neg (by omega), h2]
  simp only [Option.bind_some]
  rw [bCode_lift _ h3]
  simp only [Option.bind_some]
  obtain ⟨e, A3, H3⟩ := z
  unfold aFin at h4
  cases e with
  | exit i => cases h4
  | normal =>
    obtain ⟨x, hx, e⟩ := Option.map_eq_some_iff.1 h4
    cases e
    have hx : aResults P A3 H3 rs = some x := hx
    simp only [AE.up]
    rw [chk_true hh, hx]; rfl
  | ret =>
    obtain ⟨x, hx, e⟩ := Option.map_eq_some_iff.1 h4
    cases e
    have hx : aResults P A3 H3 rs = some x := hx
    simp only [AE.up]
    rw [chk_true hh, hx]; rfl

section
variable {P : Program} {G : List Nat} {g d N : Nat} {F : List AObj}
theorem callO_did {D : List Nat} {O : TF} (hG : ∀ b ∈ G, b < g) (hD : ∀ k ∈ D, Harmless P k) (hO : CallDid g d F O (aF P G)) : ∀ k, CallDid g d F (tCallO P G D O N k) (aF P G) := by
  intro k
  induction k with
  | zero => intro E H f args hR v E' h; cases h
  | succ k ih =>
    intro E H f args hR v E' h
    rw [tCallO] at h
    simp only [] at h
    split at h
    · rename_i r ho
      exact hO E H f args hR v E' (by rw [ho]; exact h)
    split at h
    · rename_i fn hf
      split at h
      · cases h
      rename_i hn0
      have hn : fn.name ≠ "runtime.NumGoroutine" := fun e => hn0 (.inl e)
      have hl : libName fn.name = false := by
        cases e : libName fn.name with
        | true => exact absurd (.inr e) hn0
        | false => rfl
      split at h
      · rename_i c hb
        split at h
        · rename_i hle
          have hle := Nat.le_of_ble_eq_true hle
          obtain ⟨T, hT, h⟩ := Option.bind_eq_some_iff.1 h
          have hS : St g d fn.ntmps F (T, E) (shL g d args ++ List.replicate (fn.ntmps - (shL g d args).length) undef, H) := by
            refine ⟨⟨by simp; omega, fun t => ?_⟩, hR⟩
            rw [init_get _ _ _ hT]
            simp only [shL, List.getElem?_append, List.length_map, List.getElem?_map, List.getElem?_replicate]
            by_cases e : t < args.length
            · rw [if_pos (show 0 ≤ t ∧ t < 0 + args.length from by omega), if_pos e]
              simp [List.getElem?_eq_getElem e]
            · rw [if_neg (show ¬ (0 ≤ t ∧ t < 0 + args.length) from by omega), if_neg e]
              have : tGet .lf t = undef := rfl
              rw [this, sh_undef]
              split <;> rfl
          split at h
          · obtain ⟨r, hr, h⟩ := Option.bind_eq_some_iff.1 h
            obtain ⟨r', h1, h2⟩ := code_did hG ih c hS hr
            obtain ⟨H', h3, h4⟩ := fin_did h2 v E' h
            refine ⟨H', nrm_some.2 (bF_of hf hl (aFun_lift hb hn (r := (shV g d v, H')) ?_)), h4⟩
            unfold aBody
            rw [show nrm (bF P G) = aF P G from rfl, h1]
            exact h3
          · rename_i q hs
            split at h
            · rename_i hin
              have hh := hD _ (by simpa using hin)
              unfold tDeferR at h
              obtain ⟨⟨e1, T1, E1⟩, hr, h⟩ := Option.bind_eq_some_iff.1 h
              obtain ⟨⟨e2, A1, H1⟩, h1, h2⟩ := code_did hG ih q.c1 hS hr
              have he : e1 = e2 := h2.e
              subst he
              cases e1 with
              | exit i => cases h
              | ret => cases h
              | normal =>
                simp only at h
                split at h
                · rename_i hlt
                  have hlt : q.t < fn.ntmps := Nat.le_of_ble_eq_true hlt
                  have hlen : A1.length = fn.ntmps := h2.st.er.len
                  obtain ⟨⟨T2, E2⟩, h3, h⟩ := Option.bind_eq_some_iff.1 h
                  obtain ⟨⟨A2, H2⟩, h4, h5⟩ := step_did hG ih h2.st h3
                  obtain ⟨z, h6, h⟩ := Option.bind_eq_some_iff.1 h
                  obtain ⟨z', h7, h8⟩ := code_did hG ih q.c3 h5 h6
                  obtain ⟨H', h9, h10⟩ := fin_did h8 v E' h
                  refine ⟨H', nrm_some.2 (bF_of hf hl ?_), h10⟩
                  rw [bFun_defer hn hb hs]
                  exact bDefer_normal (r := (shV g d v, H')) hh h1 (by omega) h4 h7 h9
                · cases h
            · cases h
        · cases h
      · cases h
    · cases h
end

theorem closed_lawO {P : Program} {D : List Nat} {O : TF} {N k f : Nat} {tab : List Value} (hD : ∀ k ∈ D, Harmless P k) (hO : ∀ F : List AObj, CallDid 1 F.length F O (aF P [0])) (hl : tab.all litV = true) (h : okRun tab (tCallO P [0] D O N k f [] (tabE tab)) = true)
    {H : AH} (hH : H.get 0 = some (.cells true tab)) : ∃ H', aF P [0] f [] H = some (.bool true, H') ∧ H.size ≤ H'.size ∧ ∀ i, i < H.size → H'.get i = H.get i := by
  obtain ⟨objs⟩ := H
  cases objs with
  | nil => cases hH
  | cons o F =>
    have ho : o = .cells true tab := by simpa [AH.get] using hH
    subst ho
    have hR : HR 1 F.length F (tabE tab) ⟨.cells true tab :: F⟩ := by
      refine ⟨rfl, Nat.le_refl _, by simp [AH.size, tabE, Nat.add_comm], fun b => ?_, fun b hb => ?_, fun b h1 h2 => ?_⟩
      · cases b with
        | zero =>
          have : shB 1 F.length 0 = 0 := rfl
          rw [this]
          show some _ = some (AObj.cells true (shL 1 F.length tab))
          rw [sh_lits hl]
        | succ b =>
          have e : shB 1 F.length (b + 1) = b + 1 + F.length := by simp [shB]
          have e2 : (tabE tab).get (b + 1) = none := by
            simp only [EH.get, tabE, Tr.get]; split <;> rfl
          rw [e, e2]
          exact AH.get_none (by simp [AH.size]; omega)
      · have : 1 ≤ b := hb
        obtain ⟨b, rfl⟩ : ∃ c, b = c + 1 := ⟨b - 1, by omega⟩
        simp only [EH.get, tabE, Tr.get]; split <;> rfl
      · obtain ⟨b, rfl⟩ : ∃ c, b = c + 1 := ⟨b - 1, by omega⟩
        simp [AH.get]
    unfold okRun at h
    split at h
    · rename_i E' hE
      obtain ⟨H', h1, h2⟩ := callO_did (F := F) (N := N) (P := P) (by simp) hD (hO F) k (tabE tab) _ f [] hR _ _ hE
      refine ⟨H', ?_, ?_, fun i hi => ?_⟩
      · simpa using h1
      · rw [h2.size]
        have := h2.le
        simp [AH.size]; omega
      · split at h
        · rename_i cs hcs
          have he : cs = tab := eqVs_sound (eqV_sound 0) _ _ h
          subst he
          cases i with
          | zero =>
            have := h2.get 0
            rw [show shB 1 F.length 0 = 0 from rfl, hcs] at this
            rw [this]
            show some (AObj.cells true (shL 1 F.length cs)) = _
            rw [sh_lits hl]; rfl
          | succ i =>
            have hi : i < F.length := by simpa [AH.size] using hi
            rw [h2.fr (i + 1) (by omega) (by omega)]
            simp [AH.get]
        · cases h
    · cases h
end Go.Proofs.YthagelbepgcolaaGreatDoor.Gst
