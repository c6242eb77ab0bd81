/- Several texts in one. -/
import Derived.Test.YtflbeghglllknaaGreatDoorOd
namespace Go.Proofs.YtflbeghglllknaaGreatDoor.Gst
open Go Go.RowKit
set_option linter.unusedSimpArgs false
set_option linter.unusedVariables false
set_option maxHeartbeats 4000000
set_option synthInstance.maxSize 2000
set_option synthInstance.maxHeartbeats 400000
set_option maxRecDepth 100000
theorem n9 {f : Nat} {args : List Value} {H : AH} {Q : Value → AH → Prop} (h : wp (FF f args H) Q) : wp ((FF f args H).bind fun r => some (r.1, r.2)) Q := by
 obtain ⟨v, H', e, q⟩ := h;rw [e]; exact ⟨v, H', rfl, q⟩
section
variable (x P : Nat) (σ : aS) (t : Tk) (now : Int)
theorem ch6 {x0 x1 x4 x5 x6 x7 : Value} {a : Nat} {H : AH} {Q : Value → AH → Prop} (h : a ≠ 2 ∧ a ≠ 3 ∧ a ≠ 4 ∧ a ≠ 5) (hk : wp ((ai .other .eql (vi (a : Int)) (vi 6)).bind fun v => Kc x0 x1 x4 x5 x6 x7 (vi (a : Int)) v H) Q) : wp (pO x0 x1 x4 x5 x6 x7 (vi (a : Int)) H) Q := by
 refine ah (l7 ..) ?_;refine aa (aG (by omega)) ?_;refine ah (oW ..) ?_;refine gs ?_;refine aa (aG (by omega)) ?_;refine ah (pN ..) ?_;refine gs ?_;refine aa (aG (by omega)) ?_;refine ah (uM ..) ?_;refine gs ?_;refine aa (aG (by omega)) ?_;refine ah (EC ..) ?_;refine gs ?_;exact hk
theorem ch8 {x0 x1 x4 x5 x6 x7 : Value} {a : Nat} {H : AH} {Q : Value → AH → Prop} (h : a ≠ 2 ∧ a ≠ 3 ∧ a ≠ 4 ∧ a ≠ 5 ∧ a ≠ 6 ∧ a ≠ 7) (hk : wp ((ai .other .eql (vi (a : Int)) (vi 8)).bind fun v => Kd x0 x1 x4 x5 x6 x7 (vi (a : Int)) v H) Q) : wp (pO x0 x1 x4 x5 x6 x7 (vi (a : Int)) H) Q := by
 refine ch6 (by omega) ?_;refine aa (aG (by omega)) ?_;refine ah (uN ..) ?_;refine gs ?_;refine aa (aG (by omega)) ?_;refine ah (ED ..) ?_;refine gs ?_;exact hk
theorem an7 {x0 x1 x4 x5 x6 x7 : Value} {a : Nat} {H : AH} {Q : Value → AH → Prop} (h : a ≠ 2 ∧ a ≠ 3 ∧ a ≠ 4 ∧ a ≠ 5 ∧ a ≠ 6 ∧ a ≠ 7 ∧ a ≠ 8 ∧ a ≠ 9 ∧ a ≠ 13) (hk : wp ((ai .other .eql (vi (a : Int)) (vi 10)).bind fun v98 => av v98 (wU x0 x1 x4 x5 x6 x7 (vi (a : Int)) v98 H) ((ai .other .eql (vi (a : Int)) (vi 14)).bind fun v99 => wU x0 x1 x4 x5 x6 x7 (vi (a : Int)) v99 H)) Q) : wp (pO x0 x1 x4 x5 x6 x7 (vi (a : Int)) H) Q := by
 refine ch8 (by omega) ?_;refine aa (aG (by omega)) ?_;refine ah (pP ..) ?_;refine gs ?_;refine aa (aG (by omega)) ?_;refine gs ?_;refine aa (aG (by omega)) ?_;refine ah (uO ..) ?_;refine gs ?_;exact hk
theorem an8 {x0 x1 x4 x5 x6 x7 : Value} {a : Nat} {H : AH} {Q : Value → AH → Prop} (h : a ≠ 2 ∧ a ≠ 3 ∧ a ≠ 4 ∧ a ≠ 5 ∧ a ≠ 6 ∧ a ≠ 7 ∧ a ≠ 8 ∧ a ≠ 9 ∧ a ≠ 10 ∧ a ≠ 13 ∧ a ≠ 14) (hk : wp ((ai .other .eql (vi (a : Int)) (vi 11)).bind fun v => Kf x0 x1 x4 x5 x6 (vi (a : Int)) v H) Q) : wp (pO x0 x1 x4 x5 x6 x7 (vi (a : Int)) H) Q := by
 refine an7 (by omega) ?_;refine aa (aG (by omega)) ?_;refine gs ?_;refine aa (aG (by omega)) ?_;refine ah (uP ..) ?_;refine gs ?_;exact hk
theorem aaO {x0 x1 x4 x5 x6 x7 : Value} {a : Nat} {H : AH} {Q : Value → AH → Prop} (h : a ≠ 2 ∧ a ≠ 3 ∧ a ≠ 4 ∧ a ≠ 5 ∧ a ≠ 6 ∧ a ≠ 7 ∧ a ≠ 8 ∧ a ≠ 9 ∧ a ≠ 10 ∧ a ≠ 11 ∧ a ≠ 12 ∧ a ≠ 13 ∧ a ≠ 14) (hk : wp ((ai .other .eql (vi (a : Int)) (vi 15)).bind fun v92 => av v92 (lO x0 x1 x4 x6 v92 H) ((ai .other .eql (vi (a : Int)) (vi 16)).bind fun v93 => av v93 (lO x0 x1 x4 x6 v93 H) ((ai .other .eql (vi (a : Int)) (vi 17)).bind fun v94 => av v94 (lO x0 x1 x4 x6 v94 H) ((ai .other .eql (vi (a : Int)) (vi 18)).bind fun v95 => lO x0 x1 x4 x6 v95 H)))) Q) : wp (pO x0 x1 x4 x5 x6 x7 (vi (a : Int)) H) Q := by
 refine an8 (by omega) ?_;refine aa (aG (by omega)) ?_;refine ah (uQ ..) ?_;refine gs ?_;refine aa (aG (by omega)) ?_;refine ah (EE ..) ?_;refine gs ?_;exact hk
theorem chw {x0 x1 x4 x5 x6 x7 : Value} {a : Nat} {H : AH} {Q : Value → AH → Prop} (h : a ≠ 2 ∧ a ≠ 3 ∧ a ≠ 4 ∧ a ≠ 5 ∧ a ≠ 6 ∧ a ≠ 7 ∧ a ≠ 8 ∧ a ≠ 9 ∧ a ≠ 10 ∧ a ≠ 11 ∧ a ≠ 12 ∧ a ≠ 13 ∧ a ≠ 14 ∧ a ≠ 15 ∧ a ≠ 16 ∧ a ≠ 17 ∧ a ≠ 18) (hk : wp ((FF afI [x0, x6] H).bind fun r91 => some (r91.1, r91.2)) Q) : wp (pO x0 x1 x4 x5 x6 x7 (vi (a : Int)) H) Q := by
 refine aaO (by omega) ?_;refine aa (aG (by omega)) ?_;refine gs ?_;refine aa (aG (by omega)) ?_;refine gs ?_;refine aa (aG (by omega)) ?_;refine gs ?_;refine aa (aG (by omega)) ?_;refine ah (mP ..) ?_;refine gs ?_;exact hk
theorem amG (S : SOk σ) (T : ia σ t) (hat : t.at' = 3) : Sp eO [vp x, vi now] (xP x P σ t) (fun _ : Unit => vb (aj σ t now).2.2) (fun _ => xQ x P (aj σ t now)) := by
 have hN : σ.μ.N < 1099511627000 := by have := S.N; omega
 refine aK fun R H h => ?_;obtain ⟨k, g, hR, hg, h0⟩ := cW h;have hl := hg.1;simp only [iw, hat] at hR;obtain ⟨ha, _⟩ := hR;refine ce x P g σ t k now S T (by omega) h0 fun b1 H1 h1 => ?_;refine ah (l7 ..) ?_;refine aa (aG (by omega)) ?_;refine ah (oW ..) ?_;refine gs ?_;refine aa (bo (by omega)) ?_;refine ah (pN ..) ?_;refine gs ?_;refine ap h1 ac rfl ?_;refine ap h1 ac rfl ?_;refine af h1 (oY (p := P) (g := g) (σ := σ) (μ' := σ.μ.swp t.who (8, t.s, 0) 0 1) (by simp) (Nd g.tb g.m σ.c.sh.toNat σ.c.sl.toNat σ.μ t.who t.s hN)) fun _ H2 h2 => ?_
 by_cases hw : σ.μ.V (8, t.s, 0) = 0
 ·rw [d4 hw]
  refine gs ?_;refine bj h2 ac rfl rfl fun H3 h3 => ?_;refine bj h3 ac rfl rfl fun H4 h4 => ?_;refine bj h4 ac rfl rfl fun H5 h5 => ?_;refine ah (cC ..) ?_;exact aq (dC (g := g) (σ' := σ.mem (σ.μ.swp t.who (8, t.s, 0) 0 1)) (t' := { t with at' := 4, i := 0 }) (k := { k with a := 4, I := 0, hit := false }) (by simp only [aj, hat]; rw [if_pos hw]) (by simp [iw]) (az (σ := σ) hg (by simp) rfl) h5.to)
 ·rw [d6 hw]
  refine gs ?_;refine ah (cC ..) ?_;exact aq (dC (g := g) (σ' := σ.mem (σ.μ.swp t.who (8, t.s, 0) 0 1)) (t' := t) (k := k) (by simp only [aj, hat]; rw [if_neg hw]) (by simp only [iw, hat]; exact ⟨ha, trivial⟩) (az (σ := σ) hg (by simp) rfl) h2.to)
theorem amI (S : SOk σ) (T : ia σ t) (hat : t.at' = 5) : Sp eO [vp x, vi now] (xP x P σ t) (fun _ : Unit => vb (aj σ t now).2.2) (fun _ => xQ x P (aj σ t now)) := by
 have hN : σ.μ.N < 1099511627000 := by have := S.N; omega
 refine aK fun R H h => ?_;obtain ⟨k, g, hR, hg, h0⟩ := cW h;have hl := hg.1;simp only [iw, hat] at hR;obtain ⟨ha, hhit, hobj, hcode⟩ := hR;refine ce x P g σ t k now S T (by omega) h0 fun b1 H1 h1 => ?_;refine ah (l7 ..) ?_;refine aa (aG (by omega)) ?_;refine ah (oW ..) ?_;refine gs ?_;refine aa (aG (by omega)) ?_;refine ah (pN ..) ?_;refine gs ?_;refine aa (aG (by omega)) ?_;refine ah (uM ..) ?_;refine gs ?_;refine aa (bo (by omega)) ?_;refine ah (EC ..) ?_;refine gs ?_;refine ap h1 ac rfl ?_;refine ap h1 ac rfl ?_;refine af h1 (oY (p := P) (g := g) (σ := σ) (μ' := (σ.μ.acc t.who 2 (8, t.s, 0)).put (8, t.s, 0) 0) (by simp) (uL g.tb g.m σ.c.sh.toNat σ.c.sl.toNat σ.μ t.who t.s hN)) fun _ H2 h2 => ?_;refine ap h2 ac rfl ?_;cases hf : t.found
 ·rw [hf] at hhit
  rw [hhit];refine gs ?_;rw [Bool.not_false];refine gs ?_;exact aq (Fw (g := g) (k := k) (σ' := σ.mem ((σ.μ.acc t.who 2 (8, t.s, 0)).put (8, t.s, 0) 0)) (t' := { t with at' := 6 }) (by simp only [aj, hat, hf]; rfl) (hcode hf) (az (σ := σ) hg (by simp) rfl) h2.to)
 ·rw [hf] at hhit
  rw [hhit];refine gs ?_;rw [Bool.not_true];refine gs ?_;refine bj h2 ac rfl rfl fun H3 h3 => ?_;refine ah (cC ..) ?_;exact aq (dC (g := g) (σ' := σ.mem ((σ.μ.acc t.who 2 (8, t.s, 0)).put (8, t.s, 0) 0)) (t' := { t with at' := 6 }) (k := { k with a := 6 }) (by simp only [aj, hat, hf]; rfl) (by simp [iw, hobj hf]) (az (σ := σ) hg (by simp) rfl) h3.to)
theorem amJ (S : SOk σ) (T : ia σ t) (hat : t.at' = 6) : Sp eO [vp x, vi now] (xP x P σ t) (fun _ : Unit => vb (aj σ t now).2.2) (fun _ => xQ x P (aj σ t now)) := by
 have hN : σ.μ.N < 1099511627000 := by have := S.N; omega
 refine aK fun R H h => ?_;obtain ⟨k, g, hR, hg, h0⟩ := cW h;have hl := hg.1;simp only [iw, hat] at hR;obtain ⟨ha, hobj⟩ := hR;have ho := T.obj (.inl (by omega))
 have hob : k.obj < σ.obs.length := by omega
 obtain ⟨b, hb⟩ : ∃ b, g.rp[k.obj]? = some b := ⟨_, cT (by omega)⟩;refine ce x P g σ t k now S T (by omega) h0 fun b1 H1 h1 => ?_;refine ch6 (by omega) ?_;refine aa (bo (by omega)) ?_;refine ah (uN ..) ?_;refine gs ?_;refine ap h1 ac rfl ?_;refine ap h1 ac rfl ?_;refine af h1 (RL P g σ hl t.who k.obj hob S.N) fun _ H2 h2 => ?_;refine bj h2 ac rfl rfl fun H3 h3 => ?_;refine ah (cC ..) ?_;rw [hobj] at h3;exact aq (dC (g := g) (σ' := σ.mem (σ.μ.acc t.who 5 (13, (t.obj : Int), 0))) (t' := { t with at' := 7 }) (k := { k with a := 7, obj := t.obj }) (by simp only [aj, hat]) (by simp [iw]) (az (σ := σ) hg (by simp) rfl) h3.to)
theorem amK (S : SOk σ) (T : ia σ t) (hat : t.at' = 7) : Sp eO [vp x, vi now] (xP x P σ t) (fun _ : Unit => vb (aj σ t now).2.2) (fun _ => xQ x P (aj σ t now)) := by
 have hN : σ.μ.N < 1099511627000 := by have := S.N; omega
 refine aK fun R H h => ?_;obtain ⟨k, g, hR, hg, h0⟩ := cW h;have hl := hg.1;simp only [iw, hat] at hR;obtain ⟨ha, hobj⟩ := hR;have ho := T.obj (.inl (by omega))
 have hob : k.obj < σ.obs.length := by omega
 obtain ⟨b, hb⟩ : ∃ b, g.rp[k.obj]? = some b := ⟨_, cT (by omega)⟩;refine ce x P g σ t k now S T (by omega) h0 fun b1 H1 h1 => ?_;refine ch6 (by omega) ?_;refine aa (aG (by omega)) ?_;refine ah (uN ..) ?_;refine gs ?_;refine aa (bo (by omega)) ?_;refine ah (ED ..) ?_;refine gs ?_;refine bj h1 ac rfl rfl fun H2 h2 => ?_;refine af h2 (BP x P g σ t { k with a := 8 } S hl b hob hb) fun _ H3 h3 => ?_;dsimp only at h3;rw [hobj] at h3
 by_cases hw : ba (σ.μ.V (11, (t.obj : Int), 0)) = 2
 ·refine aa (bo (by rw [hobj]; exact hw)) ?_
  refine gs ?_;refine bj h3 ac rfl rfl fun H4 h4 => ?_;refine ah (cC ..) ?_;exact aq (dC (g := g) (σ' := dh σ t) (t' := { t with at' := 3, w := σ.μ.V (11, (t.obj : Int), 0) }) (k := { k with a := 3, obj := t.obj, w := σ.μ.V (11, (t.obj : Int), 0) }) (by simp only [aj, hat]; rw [if_pos hw]) (by simp [iw]) (az (σ := σ) hg (by simp) rfl) h4.to)
 ·refine aa (aG (by rw [hobj]; exact hw)) ?_
  refine gs ?_;refine ah (cC ..) ?_;exact aq (dC (g := g) (σ' := dh σ t) (t' := { t with at' := 8, w := σ.μ.V (11, (t.obj : Int), 0) }) (k := { k with a := 8, obj := t.obj, w := σ.μ.V (11, (t.obj : Int), 0) }) (by simp only [aj, hat]; rw [if_neg hw]) (by simp [iw]) (az (σ := σ) hg (by simp) rfl) h3.to)
theorem amL (S : SOk σ) (T : ia σ t) (hat : t.at' = 8) : Sp eO [vp x, vi now] (xP x P σ t) (fun _ : Unit => vb (aj σ t now).2.2) (fun _ => xQ x P (aj σ t now)) := by
 have hN : σ.μ.N < 1099511627000 := by have := S.N; omega
 refine aK fun R H h => ?_;obtain ⟨k, g, hR, hg, h0⟩ := cW h;have hl := hg.1;simp only [iw, hat] at hR;obtain ⟨ha, hobj, hw0⟩ := hR;have ho := T.obj (.inl (by omega))
 have hob : k.obj < σ.obs.length := by omega
 obtain ⟨b, hb⟩ : ∃ b, g.rp[k.obj]? = some b := ⟨_, cT (by omega)⟩;refine ce x P g σ t k now S T (by omega) h0 fun b1 H1 h1 => ?_;refine ch8 (by omega) ?_;refine aa (bo (by omega)) ?_;refine ah (pP ..) ?_;refine gs ?_;refine af h1 (jK x P g σ t k hl b hob hb) fun _ H2 h2 => ?_;refine bE ac ?_;refine aQ h2 rfl ?_;refine aJ h1 h2 (by rfl) ?_;refine af h2 (mj (p := P) (μ' := σ.μ.acc t.who 1 (12, (k.obj : Int), 0)) (by simp) hl hob hb (FA g.m k.obj b (ay σ k.obj) σ.μ t.who hN)) fun _ H3 h3 => ?_;refine bj h3 ac rfl rfl fun H4 h4 => ?_;refine ap h4 ac rfl ?_;refine af h4 (oQ k.w (by rw [hw0]; exact T.w)) fun _ H5 h5 => ?_;refine aa (v := vu (aL k.w)) rfl ?_;refine aa (v := vi (ba k.w)) rfl ?_;refine aa (v := vb (cS k.w)) rfl ?_;refine ah (QH ..) ?_;refine af h5 (jK x P g (σ.mem (σ.μ.acc t.who 1 (12, (k.obj : Int), 0))) t { k with h := σ.μ.V (12, (k.obj : Int), 0) } hl b hob hb) fun _ H6 h6 => ?_;refine bE ac ?_;refine aQ h6 rfl ?_;refine aJ h5 h6 (by rfl) ?_;refine bE ac ?_;refine aQ h6 rfl ?_;refine aJ h5 h6 (by rfl) ?_;refine af h6 (K5 (p := P) (σ := σ.mem (σ.μ.acc t.who 1 (12, (k.obj : Int), 0))) hl hob hb (Fz g.m k.obj b (ay σ k.obj) k.w (σ.μ.V (12, (k.obj : Int), 0)) (by rw [hw0]; exact T.w) (S.cells _ hob).2)) fun _ H7 h7 => ?_;rw [hobj, hw0] at h7;rw [hobj, hw0];cases hf : gq t.w (σ.μ.V (12, (t.obj : Int), 0)) (ay σ t.obj).length
 ·refine gs ?_
  by_cases hw : ba t.w = 1
  ·refine aa (bo hw) ?_
   refine gs ?_;refine bj h7 ac rfl rfl fun H8 h8 => ?_;refine ah (cC ..) ?_;exact aq (dC (g := g) (σ' := jl σ t) (t' := { t with at' := 9 }) (k := { k with a := 9, obj := t.obj, w := t.w, h := σ.μ.V (12, (t.obj : Int), 0) }) (by simp only [aj, hat, jP, hf]; rw [if_pos hw]; rfl) (by simp [iw]) (az (σ := σ) hg (by simp) rfl) h8.to)
  ·refine aa (aG hw) ?_
   refine gs ?_;refine bj h7 ac rfl rfl fun H8 h8 => ?_;refine ah (cC ..) ?_;exact aq (dC (g := g) (σ' := jl σ t) (t' := { t with at' := 12 }) (k := { k with a := 12, obj := t.obj, w := t.w, h := σ.μ.V (12, (t.obj : Int), 0) }) (by simp only [aj, hat, jP, hf]; rw [if_neg hw]; rfl) (by simp [iw]) (az (σ := σ) hg (by simp) rfl) h8.to)
 ·refine gs ?_
  refine bj h7 ac rfl rfl fun H8 h8 => ?_;refine ah (cC ..) ?_;exact aq (dC (g := g) (σ' := jl σ t) (t' := { t with at' := 15 }) (k := { k with a := 15, obj := t.obj, w := t.w, h := σ.μ.V (12, (t.obj : Int), 0) }) (by simp only [aj, hat, jP, hf]; rfl) (by simp [iw]) (az (σ := σ) hg (by simp) rfl) h8.to)
theorem N7 (g : XIds) (k : Xk) (S : SOk σ) (hg : e8 g σ) (ha : k.a = 9 ∨ k.a = 13) (b : Nat) (ho : k.obj < σ.obs.length) (hb : g.rp[k.obj]? = some b) (hw0 : k.w < 18446744073709551616) :
 Sp j9 [vp x, vi now] (xB x P t k * aw P g σ) (fun _ : Value => .tuple #[]) (fun v => if fi σ.μ k.obj k.w (aY k.w 0) = true then
  xB x P t { k with q := if k.a = 13 then 1 else 0, a := k.a + 1, code := 0 } * aw P { g with pv := v } ((σ.mem (σ.μ.turn t.who k.obj k.w (aY k.w 0))).note now t.who 0)
  else xB x P t { k with q := if k.a = 13 then 1 else 0, a := if k.a = 13 then 20 else 7 } * aw P g (σ.mem (σ.μ.turn t.who k.obj k.w (aY k.w 0)))) := by
 have hN : σ.μ.N < 1099511627000 := by have := S.N; omega
 have hl := hg.1
 have hturn : σ.μ.N ≤ (σ.μ.turn t.who k.obj k.w (aY k.w 0)).N := by cases aY k.w 0 <;> simp
 have hturn2 : (σ.μ.turn t.who k.obj k.w (aY k.w 0)).N ≤ σ.μ.N + 2 := by cases aY k.w 0 <;> simp
 refine bh (wP _ _) fun R H h => ?_;refine bj h ac rfl rfl fun H1 h1 => ?_;refine ah (rS ..) ?_;refine ap h1 ac rfl ?_
 have main : ∀ (q : Nat) (H2 : AH), q = (if k.a = 13 then 1 else 0) → ae (xB x P t { k with q := q } * (aw P g σ * R)) H2 → wp (gz (vp x) (vi now) H2) fun v' H' => ∃ v : Value, v' = .tuple #[] ∧ ae ((if fi σ.μ k.obj k.w (aY k.w 0) = true then
  xB x P t { k with q := if k.a = 13 then 1 else 0, a := k.a + 1, code := 0 } * aw P { g with pv := v } ((σ.mem (σ.μ.turn t.who k.obj k.w (aY k.w 0))).note now t.who 0)
  else xB x P t { k with q := if k.a = 13 then 1 else 0, a := if k.a = 13 then 20 else 7 } * aw P g (σ.mem (σ.μ.turn t.who k.obj k.w (aY k.w 0)))) * R) H' := by
  intro q H2 hq h2;refine ah (rV ..) ?_;refine af h2 (jK x P g σ t { k with q := q } hl b ho hb) fun _ H3 h3 => ?_;refine bE ac ?_;refine aQ h3 rfl ?_;refine aJ h2 h3 (by rfl) ?_;refine bE ac ?_;refine aQ h3 rfl ?_;refine aJ h2 h3 (by rfl) ?_;refine af h3 (mj (p := P) (μ' := σ.μ.turn t.who k.obj k.w (aY k.w 0)) hturn hl ho hb (FC g.m k.obj b (ay σ k.obj) σ.μ t.who k.w 0 (by omega) hw0 hN)) fun _ H4 h4 => ?_;cases hw : fi σ.μ k.obj k.w (aY k.w 0)
  ·refine gs ?_
   refine ap h4 ac rfl ?_
   rcases ha with ha | ha
   ·refine aa (bo (show ((k.a : Nat) : Int) = 9 by omega)) ?_
    refine gs ?_;refine bj h4 ac rfl rfl fun H5 h5 => ?_;refine aq ⟨.bool true, rfl, ?_⟩;rw [if_neg (by simp)];simp only [hq] at h5;rw [if_neg (by omega)] at h5 ⊢;rw [if_neg (by omega)];exact h5.to
   ·refine aa (aG (show ¬ ((k.a : Nat) : Int) = 9 by omega)) ?_
    refine gs ?_;refine bj h4 ac rfl rfl fun H5 h5 => ?_;refine aq ⟨.bool true, rfl, ?_⟩;rw [if_neg (by simp)];simp only [hq] at h5;rw [if_pos ha] at h5 ⊢;rw [if_pos ha];exact h5.to
  ·refine gs ?_
   refine af h4 (jJ x P g (σ.mem (σ.μ.turn t.who k.obj k.w (aY k.w 0))) t { k with q := q } (az (σ := σ) hg hturn rfl) now 0 (by have := S.N; show (σ.μ.turn t.who k.obj k.w (aY k.w 0)).N < _; omega) S.pts) fun v H5 h5 => ?_;refine ap h5 ac rfl ?_;refine aa (aH (a := ((k.a : Nat) : Int)) (b := 1) (by omega) (by omega)) ?_;rw [show ((k.a : Nat) : Int) + 1 = ((k.a + 1 : Nat) : Int) from by omega];refine bj h5 ac rfl rfl fun H6 h6 => ?_;refine aq ⟨v, rfl, ?_⟩;rw [if_pos rfl];simp only [hq] at h6;exact h6.to
 rcases ha with ha | ha
 ·refine aa (aG (by omega)) ?_
  refine gs ?_;exact main 0 H1 (by rw [if_neg (by omega)]) h1.to
 ·refine aa (bo (by omega)) ?_
  refine gs ?_;refine bj h1 ac rfl rfl fun H2 h2 => ?_;exact main 1 H2 (by rw [if_pos ha]) h2.to
theorem amM (S : SOk σ) (T : ia σ t) (hat : t.at' = 9) : Sp eO [vp x, vi now] (xP x P σ t) (fun _ : Unit => vb (aj σ t now).2.2) (fun _ => xQ x P (aj σ t now)) := by
 have hN : σ.μ.N < 1099511627000 := by have := S.N; omega
 refine aK fun R H h => ?_;obtain ⟨k, g, hR, hg, h0⟩ := cW h;have hl := hg.1;simp only [iw, hat] at hR;obtain ⟨ha, hobj, hw0⟩ := hR;have ho := T.obj (.inl (by omega))
 have hob : k.obj < σ.obs.length := by omega
 obtain ⟨b, hb⟩ : ∃ b, g.rp[k.obj]? = some b := ⟨_, cT (by omega)⟩;refine ce x P g σ t k now S T (by omega) h0 fun b1 H1 h1 => ?_;refine ch8 (by omega) ?_;refine aa (aG (by omega)) ?_;refine ah (pP ..) ?_;refine gs ?_;refine aa (bo (by omega)) ?_;refine gs ?_;refine ah (uO ..) ?_;refine gs ?_
 have hturn : σ.μ.N ≤ (σ.μ.turn t.who k.obj k.w (aY k.w 0)).N := by cases aY k.w 0 <;> simp
 refine af h1 (N7 x P σ t now g k S hg (by omega) b hob hb (by rw [hw0]; exact T.w)) fun v H2 h2 => ?_;refine ah (cC ..) ?_;cases hw : fi σ.μ t.obj t.w (aY t.w 0)
 ·rw [if_neg (by rw [hobj, hw0, hw]; simp)] at h2
  rw [hobj, hw0, ha, if_neg (by omega), if_neg (by omega)] at h2;exact aq (dC (g := g) (σ' := σ.mem (σ.μ.turn t.who t.obj t.w (aY t.w 0))) (t' := { t with at' := 7 }) (k := { k with a := 7, obj := t.obj, w := t.w, q := 0 }) (by simp only [aj, hat, hw]; rfl) (by simp [iw]) (az (σ := σ) hg (by rw [hobj, hw0] at hturn; exact hturn) rfl) h2.to)
 ·rw [if_pos (by rw [hobj, hw0, hw])] at h2
  rw [hobj, hw0, ha, if_neg (by omega)] at h2;exact aq (dC (g := { g with pv := v }) (σ' := (σ.mem (σ.μ.turn t.who t.obj t.w (aY t.w 0))).note now t.who 0) (t' := { t with at' := 10, code := 0 }) (k := { k with a := 10, obj := t.obj, w := t.w, q := 0, code := 0 }) (by simp only [aj, hat, hw]; rfl) (by simp [iw]) (dK (σ := σ) hg (by rw [hobj, hw0] at hturn; exact hturn) rfl) h2.to)
theorem aiX (S : SOk σ) (T : ia σ t) (hat : t.at' = 13) : Sp eO [vp x, vi now] (xP x P σ t) (fun _ : Unit => vb (aj σ t now).2.2) (fun _ => xQ x P (aj σ t now)) := by
 have hN : σ.μ.N < 1099511627000 := by have := S.N; omega
 refine aK fun R H h => ?_;obtain ⟨k, g, hR, hg, h0⟩ := cW h;have hl := hg.1;simp only [iw, hat] at hR;obtain ⟨ha, hobj, hw0⟩ := hR;have ho := T.obj (.inl (by omega))
 have hob : k.obj < σ.obs.length := by omega
 obtain ⟨b, hb⟩ : ∃ b, g.rp[k.obj]? = some b := ⟨_, cT (by omega)⟩;refine ce x P g σ t k now S T (by omega) h0 fun b1 H1 h1 => ?_;refine ch8 (by omega) ?_;refine aa (aG (by omega)) ?_;refine ah (pP ..) ?_;refine gs ?_;refine aa (aG (by omega)) ?_;refine gs ?_;refine aa (bo (by omega)) ?_;refine ah (uO ..) ?_;refine gs ?_
 have hturn : σ.μ.N ≤ (σ.μ.turn t.who k.obj k.w (aY k.w 0)).N := by cases aY k.w 0 <;> simp
 refine af h1 (N7 x P σ t now g k S hg (by omega) b hob hb (by rw [hw0]; exact T.w)) fun v H2 h2 => ?_;refine ah (cC ..) ?_;cases hw : fi σ.μ t.obj t.w (aY t.w 0)
 ·rw [if_neg (by rw [hobj, hw0, hw]; simp)] at h2
  rw [hobj, hw0, ha, if_pos rfl, if_pos rfl] at h2;exact aq (dC (g := g) (σ' := σ.mem (σ.μ.turn t.who t.obj t.w (aY t.w 0))) (t' := { t with at' := 20 }) (k := { k with a := 20, obj := t.obj, w := t.w, q := 1 }) (by simp only [aj, hat, hw]; rfl) (by simp [iw]) (az (σ := σ) hg (by rw [hobj, hw0] at hturn; exact hturn) rfl) h2.to)
 ·rw [if_pos (by rw [hobj, hw0, hw])] at h2
  rw [hobj, hw0, ha, if_pos rfl] at h2;exact aq (dC (g := { g with pv := v }) (σ' := (σ.mem (σ.μ.turn t.who t.obj t.w (aY t.w 0))).note now t.who 0) (t' := { t with at' := 14, code := 0 }) (k := { k with a := 14, obj := t.obj, w := t.w, q := 1, code := 0 }) (by simp only [aj, hat, hw]; rfl) (by simp [iw]) (dK (σ := σ) hg (by rw [hobj, hw0] at hturn; exact hturn) rfl) h2.to)
theorem aiU (S : SOk σ) (T : ia σ t) (hat : t.at' = 10) : Sp eO [vp x, vi now] (xP x P σ t) (fun _ : Unit => vb (aj σ t now).2.2) (fun _ => xQ x P (aj σ t now)) := by
 have hN : σ.μ.N < 1099511627000 := by have := S.N; omega
 refine aK fun R H h => ?_;obtain ⟨k, g, hR, hg, h0⟩ := cW h;have hl := hg.1;simp only [iw, hat] at hR;obtain ⟨ha, hobj, hw0, hq, hcode⟩ := hR;have ho := T.obj (.inl (by omega))
 have hob : k.obj < σ.obs.length := by omega
 obtain ⟨b, hb⟩ : ∃ b, g.rp[k.obj]? = some b := ⟨_, cT (by omega)⟩;refine ce x P g σ t k now S T (by omega) h0 fun b1 H1 h1 => ?_;refine an7 (by omega) ?_;refine aa (bo (by omega)) ?_;refine gs ?_;refine ah (uP ..) ?_;refine gs ?_;refine af h1 (jK x P g σ t k hl b hob hb) fun _ H2 h2 => ?_;refine bE ac ?_;refine aQ h2 rfl ?_;refine aJ h1 h2 (by rfl) ?_;refine af h2 (xw x P t k (by rw [hw0]; exact T.w)) fun _ H3 h3 => ?_;refine aJ h3 h2 (by rfl) ?_;refine aR h3 ?_;refine dZ h1 h3 rfl ?_;refine dZ h2 h3 rfl ?_;refine af h3 (Ic (p := P) (μ' := σ.μ.acc t.who 6 (16, (k.obj : Int), ((aL k.w % (ay σ k.obj).length : Nat) : Int))) (by simp) hl hob hb (HY g.m k.obj b (ay σ k.obj) σ.μ t.who (aL k.w) ⟨t.x.flow, t.x.a, t.x.b⟩ (S.cells _ hob) hN)) fun _ H4 h4 => ?_;refine bj h4 ac rfl rfl fun H5 h5 => ?_;refine ap h5 ac rfl ?_;refine aa (aG (by omega)) ?_;refine gs ?_;refine ah (cC ..) ?_;have e1 := BB σ t;rw [hobj, hw0, ← e1] at h5;exact aq (dC (g := g) (σ' := rr σ t) (t' := { t with at' := 11 }) (k := { k with a := 11, obj := t.obj, w := t.w }) (by simp only [aj, hat]) (by simp [iw, hcode]) (az (σ := σ) hg (by simp) (jn σ t)) h5.to)
theorem aiY (S : SOk σ) (T : ia σ t) (hat : t.at' = 14) : Sp eO [vp x, vi now] (xP x P σ t) (fun _ : Unit => vb (aj σ t now).2.2) (fun _ => xQ x P (aj σ t now)) := by
 have hN : σ.μ.N < 1099511627000 := by have := S.N; omega
 refine aK fun R H h => ?_;obtain ⟨k, g, hR, hg, h0⟩ := cW h;have hl := hg.1;simp only [iw, hat] at hR;obtain ⟨ha, hobj, hw0, hq, hcode⟩ := hR;have ho := T.obj (.inl (by omega))
 have hob : k.obj < σ.obs.length := by omega
 obtain ⟨b, hb⟩ : ∃ b, g.rp[k.obj]? = some b := ⟨_, cT (by omega)⟩;refine ce x P g σ t k now S T (by omega) h0 fun b1 H1 h1 => ?_;refine an7 (by omega) ?_;refine aa (aG (by omega)) ?_;refine gs ?_;refine aa (bo (by omega)) ?_;refine ah (uP ..) ?_;refine gs ?_;refine af h1 (jK x P g σ t k hl b hob hb) fun _ H2 h2 => ?_;refine bE ac ?_;refine aQ h2 rfl ?_;refine aJ h1 h2 (by rfl) ?_;refine af h2 (xw x P t k (by rw [hw0]; exact T.w)) fun _ H3 h3 => ?_;refine aJ h3 h2 (by rfl) ?_;refine aR h3 ?_;refine dZ h1 h3 rfl ?_;refine dZ h2 h3 rfl ?_;refine af h3 (Ic (p := P) (μ' := σ.μ.acc t.who 6 (16, (k.obj : Int), ((aL k.w % (ay σ k.obj).length : Nat) : Int))) (by simp) hl hob hb (HY g.m k.obj b (ay σ k.obj) σ.μ t.who (aL k.w) ⟨t.x.flow, t.x.a, t.x.b⟩ (S.cells _ hob) hN)) fun _ H4 h4 => ?_;refine bj h4 ac rfl rfl fun H5 h5 => ?_;refine ap h5 ac rfl ?_;refine aa (bo (by omega)) ?_;refine gs ?_;refine bj h5 ac rfl rfl fun H6 h6 => ?_;refine ah (cC ..) ?_;have e1 := BB σ t;rw [hobj, hw0, ← e1] at h6;exact aq (dC (g := g) (σ' := rr σ t) (t' := { t with at' := 21 }) (k := { k with a := 21, obj := t.obj, w := t.w }) (by simp only [aj, hat]) (by simp [iw, hcode]) (az (σ := σ) hg (by simp) (jn σ t)) h6.to)
theorem aiV (S : SOk σ) (T : ia σ t) (hat : t.at' = 11) : Sp eO [vp x, vi now] (xP x P σ t) (fun _ : Unit => vb (aj σ t now).2.2) (fun _ => xQ x P (aj σ t now)) := by
 have hN : σ.μ.N < 1099511627000 := by have := S.N; omega
 refine aK fun R H h => ?_;obtain ⟨k, g, hR, hg, h0⟩ := cW h;have hl := hg.1;simp only [iw, hat] at hR;obtain ⟨ha, hobj, hw0, hcode⟩ := hR;have ho := T.obj (.inl (by omega))
 have hob : k.obj < σ.obs.length := by omega
 obtain ⟨b, hb⟩ : ∃ b, g.rp[k.obj]? = some b := ⟨_, cT (by omega)⟩;refine ce x P g σ t k now S T (by omega) h0 fun b1 H1 h1 => ?_;refine an8 (by omega) ?_;refine aa (bo (by omega)) ?_;refine ah (uQ ..) ?_;refine gs ?_;refine af h1 (jK x P g σ t k hl b hob hb) fun _ H2 h2 => ?_;refine bE ac ?_;refine aQ h2 rfl ?_;refine aJ h1 h2 (by rfl) ?_;refine af h2 (xw x P t k (by rw [hw0]; exact T.w)) fun _ H3 h3 => ?_;refine aJ h3 h2 (by rfl) ?_;have hwc := eG k.w;refine af h3 (mj (p := P) (μ' := (σ.μ.acc t.who 2 (15, (k.obj : Int), ((aL k.w % (ay σ k.obj).length : Nat) : Int))).put (15, (k.obj : Int), ((aL k.w % (ay σ k.obj).length : Nat) : Int)) (aL k.w + 1)) (by simp) hl hob hb (FB g.m k.obj b (ay σ k.obj) σ.μ t.who (aL k.w) (by omega) (S.cells _ hob) hN)) fun _ H4 h4 => ?_;rw [hobj, hw0] at h4;exact aq (Fw (g := g) (k := k) (σ' := sd σ t) (t' := t) (by simp only [aj, hat]) hcode (az (σ := σ) hg (by simp) rfl) h4.to)
theorem aiW (S : SOk σ) (T : ia σ t) (hat : t.at' = 12) : Sp eO [vp x, vi now] (xP x P σ t) (fun _ : Unit => vb (aj σ t now).2.2) (fun _ => xQ x P (aj σ t now)) := by
 have hN : σ.μ.N < 1099511627000 := by have := S.N; omega
 refine aK fun R H h => ?_;obtain ⟨k, g, hR, hg, h0⟩ := cW h;have hl := hg.1;simp only [iw, hat] at hR;obtain ⟨ha, hobj, hw0⟩ := hR;have ho := T.obj (.inl (by omega))
 have hob : k.obj < σ.obs.length := by omega
 obtain ⟨b, hb⟩ : ∃ b, g.rp[k.obj]? = some b := ⟨_, cT (by omega)⟩;refine ce x P g σ t k now S T (by omega) h0 fun b1 H1 h1 => ?_;refine an8 (by omega) ?_;refine aa (aG (by omega)) ?_;refine ah (uQ ..) ?_;refine gs ?_;refine aa (bo (by omega)) ?_;refine ah (EE ..) ?_;refine gs ?_;refine ap h1 ac rfl ?_;refine ap h1 ac rfl ?_;refine af h1 (xA (p := P) (g := g) (σ := σ) (μ' := σ.μ.cnt t.who (3, 0, 0) 4294967296) (L := σ.μ.N) (by simp) (KV g.ib g.m σ.c.sh σ.nx σ.μ.N σ.μ t.who hN)) fun _ H2 h2 => ?_;refine bj h2 ac rfl rfl fun H3 h3 => ?_;refine ah (cC ..) ?_;exact aq (dC (g := g) (σ' := σ.mem (σ.μ.cnt t.who (3, 0, 0) 4294967296)) (t' := { t with at' := 13 }) (k := { k with a := 13 }) (by simp only [aj, hat]) (by simp [iw, hobj, hw0]) (az (σ := σ) hg (by simp) rfl) h3.to)
theorem aiZ (S : SOk σ) (T : ia σ t) (hat : t.at' = 15) : Sp eO [vp x, vi now] (xP x P σ t) (fun _ : Unit => vb (aj σ t now).2.2) (fun _ => xQ x P (aj σ t now)) := by
 have hN : σ.μ.N < 1099511627000 := by have := S.N; omega
 refine aK fun R H h => ?_;obtain ⟨k, g, hR, hg, h0⟩ := cW h;have hl := hg.1;simp only [iw, hat] at hR;obtain ⟨ha, hobj⟩ := hR;have ho := T.obj (.inl (by omega))
 have hob : k.obj < σ.obs.length := by omega
 obtain ⟨b, hb⟩ : ∃ b, g.rp[k.obj]? = some b := ⟨_, cT (by omega)⟩;refine ce x P g σ t k now S T (by omega) h0 fun b1 H1 h1 => ?_;refine aaO (by omega) ?_;refine aa (bo (by omega)) ?_;refine gs ?_;refine ah (mP ..) ?_;refine gs ?_;refine n9 ?_;refine bm (fun r => Kg _ _ H1) ?_;refine ah (s8 ..) ?_;refine ap h1 ac rfl ?_;refine ah (s9 ..) ?_;refine aa (bo (by omega)) ?_;refine gs ?_;refine ap h1 ac rfl ?_;refine ap h1 ac rfl ?_;refine af h1 (pT P g σ t.who S.N) fun _ H2 h2 => ?_;refine bj h2 ac rfl rfl fun H3 h3 => ?_;refine bj h3 ac rfl rfl fun H4 h4 => ?_;refine ap h4 ac rfl ?_;refine aa (Hk 2 (by omega)) ?_
 by_cases hw : σ.μ.V (2, 0, 0) % 2 = 1
 ·refine aa (bo (show ((σ.μ.V (2, 0, 0) % 2 : Nat) : Int) = 1 by omega)) ?_
  refine gs ?_;refine bj h4 ac rfl rfl fun H5 h5 => ?_;refine ah (kg ..) ?_;exact aq (dC (g := g) (σ' := ez σ t) (t' := { t with at' := 7, q := σ.μ.V (2, 0, 0) }) (k := { k with a := 7, q := σ.μ.V (2, 0, 0) }) (by simp only [aj, hat]; rw [if_pos hw]) (by simp [iw, hobj]) (az (σ := σ) hg (by simp) rfl) h5.to)
 ·refine aa (aG (show ¬ ((σ.μ.V (2, 0, 0) % 2 : Nat) : Int) = 1 by omega)) ?_
  refine gs ?_;refine ah (kg ..) ?_;exact aq (dC (g := g) (σ' := ez σ t) (t' := { t with at' := 16, q := σ.μ.V (2, 0, 0) }) (k := { k with a := 16, q := σ.μ.V (2, 0, 0) }) (by simp only [aj, hat]; rw [if_neg hw]) (by simp [iw, hobj]) (az (σ := σ) hg (by simp) rfl) h4.to)
theorem ai0 (S : SOk σ) (T : ia σ t) (hat : t.at' = 16) : Sp eO [vp x, vi now] (xP x P σ t) (fun _ : Unit => vb (aj σ t now).2.2) (fun _ => xQ x P (aj σ t now)) := by
 have hN : σ.μ.N < 1099511627000 := by have := S.N; omega
 refine aK fun R H h => ?_;obtain ⟨k, g, hR, hg, h0⟩ := cW h;have hl := hg.1;simp only [iw, hat] at hR;obtain ⟨ha, hobj, hq⟩ := hR;have ho := T.obj (.inl (by omega))
 have hob : k.obj < σ.obs.length := by omega
 obtain ⟨b, hb⟩ : ∃ b, g.rp[k.obj]? = some b := ⟨_, cT (by omega)⟩;refine ce x P g σ t k now S T (by omega) h0 fun b1 H1 h1 => ?_;refine aaO (by omega) ?_;refine aa (aG (by omega)) ?_;refine gs ?_;refine aa (bo (by omega)) ?_;refine gs ?_;refine ah (mP ..) ?_;refine gs ?_;refine n9 ?_;refine bm (fun r => Kg _ _ H1) ?_;refine ah (s8 ..) ?_;refine ap h1 ac rfl ?_;refine ah (s9 ..) ?_;refine aa (aG (by omega)) ?_;refine gs ?_;refine aa (bo (by omega)) ?_;refine gs ?_;refine bj h1 ac rfl rfl fun H2 h2 => ?_;refine af h2 (BP x P g σ t { k with a := 17 } S hl b hob hb) fun _ H3 h3 => ?_;dsimp only at h3;rw [hobj] at h3
 by_cases hw : ba (σ.μ.V (11, (t.obj : Int), 0)) = 2
 ·refine aa (bo (by rw [hobj]; exact hw)) ?_
  refine gs ?_;refine bj h3 ac rfl rfl fun H4 h4 => ?_;refine ah (kg ..) ?_;exact aq (dC (g := g) (σ' := dh σ t) (t' := { t with at' := 3, w := σ.μ.V (11, (t.obj : Int), 0) }) (k := { k with a := 3, obj := t.obj, w := σ.μ.V (11, (t.obj : Int), 0) }) (by simp only [aj, hat]; rw [if_pos hw]) (by simp [iw]) (az (σ := σ) hg (by simp) rfl) h4.to)
 ·refine aa (aG (by rw [hobj]; exact hw)) ?_
  refine gs ?_;refine ah (kg ..) ?_;exact aq (dC (g := g) (σ' := dh σ t) (t' := { t with at' := 17, w := σ.μ.V (11, (t.obj : Int), 0) }) (k := { k with a := 17, obj := t.obj, w := σ.μ.V (11, (t.obj : Int), 0) }) (by simp only [aj, hat]; rw [if_neg hw]) (by simp [iw, hq]) (az (σ := σ) hg (by simp) rfl) h3.to)
theorem ai1 (S : SOk σ) (T : ia σ t) (hat : t.at' = 17) : Sp eO [vp x, vi now] (xP x P σ t) (fun _ : Unit => vb (aj σ t now).2.2) (fun _ => xQ x P (aj σ t now)) := by
 have hN : σ.μ.N < 1099511627000 := by have := S.N; omega
 refine aK fun R H h => ?_;obtain ⟨k, g, hR, hg, h0⟩ := cW h;have hl := hg.1;simp only [iw, hat] at hR;obtain ⟨ha, hobj, hw0, hq⟩ := hR;have ho := T.obj (.inl (by omega))
 have hob : k.obj < σ.obs.length := by omega
 obtain ⟨b, hb⟩ : ∃ b, g.rp[k.obj]? = some b := ⟨_, cT (by omega)⟩;refine ce x P g σ t k now S T (by omega) h0 fun b1 H1 h1 => ?_;refine aaO (by omega) ?_;refine aa (aG (by omega)) ?_;refine gs ?_;refine aa (aG (by omega)) ?_;refine gs ?_;refine aa (bo (by omega)) ?_;refine gs ?_;refine ah (mP ..) ?_;refine gs ?_;refine n9 ?_;refine bm (fun r => Kg _ _ H1) ?_;refine ah (s8 ..) ?_;refine ap h1 ac rfl ?_;refine ah (s9 ..) ?_;refine aa (aG (by omega)) ?_;refine gs ?_;refine aa (aG (by omega)) ?_;refine gs ?_;refine aa (bo (by omega)) ?_;refine gs ?_;refine af h1 (jK x P g σ t k hl b hob hb) fun _ H2 h2 => ?_;refine bE ac ?_;refine aQ h2 rfl ?_;refine aJ h1 h2 (by rfl) ?_;refine af h2 (mj (p := P) (μ' := σ.μ.acc t.who 1 (12, (k.obj : Int), 0)) (by simp) hl hob hb (FA g.m k.obj b (ay σ k.obj) σ.μ t.who hN)) fun _ H3 h3 => ?_;refine bj h3 ac rfl rfl fun H4 h4 => ?_;refine bj h4 ac rfl rfl fun H5 h5 => ?_;refine bj h5 ac rfl rfl fun H6 h6 => ?_;refine af h6 (jK x P g (σ.mem (σ.μ.acc t.who 1 (12, (k.obj : Int), 0))) t { k with h := σ.μ.V (12, (k.obj : Int), 0), mark := now, a := 18 } hl b hob hb) fun _ H7 h7 => ?_;refine bE ac ?_;refine aQ h7 rfl ?_;refine aJ h6 h7 (by rfl) ?_;refine bE ac ?_;refine aQ h7 rfl ?_;refine aJ h6 h7 (by rfl) ?_;refine af h7 (K5 (p := P) (σ := σ.mem (σ.μ.acc t.who 1 (12, (k.obj : Int), 0))) hl hob hb (Fz g.m k.obj b (ay σ k.obj) k.w (σ.μ.V (12, (k.obj : Int), 0)) (by rw [hw0]; exact T.w) (S.cells _ hob).2)) fun _ H8 h8 => ?_;rw [hobj, hw0] at h8;rw [hobj, hw0];cases hf : gq t.w (σ.μ.V (12, (t.obj : Int), 0)) (ay σ t.obj).length
 ·refine gs ?_
  rw [Bool.not_false];refine gs ?_;refine bj h8 ac rfl rfl fun H9 h9 => ?_;refine ah (kg ..) ?_;exact aq (dC (g := g) (σ' := jl σ t) (t' := { t with at' := 7 }) (k := { k with a := 7, obj := t.obj, w := t.w, h := σ.μ.V (12, (t.obj : Int), 0), mark := now }) (by simp only [aj, hat, jP, hf]; rfl) (by simp [iw]) (az (σ := σ) hg (by simp) rfl) h9.to)
 ·refine gs ?_
  rw [Bool.not_true];refine gs ?_;refine ah (kg ..) ?_;exact aq (dC (g := g) (σ' := jl σ t) (t' := { t with at' := 18, mark := now }) (k := { k with a := 18, obj := t.obj, w := t.w, h := σ.μ.V (12, (t.obj : Int), 0), mark := now }) (by simp only [aj, hat, jP, hf]; rfl) (by simp [iw, hq]) (az (σ := σ) hg (by simp) rfl) h8.to)
theorem ai2 (S : SOk σ) (T : ia σ t) (hat : t.at' = 18) : Sp eO [vp x, vi now] (xP x P σ t) (fun _ : Unit => vb (aj σ t now).2.2) (fun _ => xQ x P (aj σ t now)) := by
 have hN : σ.μ.N < 1099511627000 := by have := S.N; omega
 refine aK fun R H h => ?_;obtain ⟨k, g, hR, hg, h0⟩ := cW h;have hl := hg.1;simp only [iw, hat] at hR;obtain ⟨ha, hobj, hq, hm⟩ := hR;have ho := T.obj (.inl (by omega))
 have hob : k.obj < σ.obs.length := by omega
 obtain ⟨b, hb⟩ : ∃ b, g.rp[k.obj]? = some b := ⟨_, cT (by omega)⟩;refine ce x P g σ t k now S T (by omega) h0 fun b1 H1 h1 => ?_;refine aaO (by omega) ?_;refine aa (aG (by omega)) ?_;refine gs ?_;refine aa (aG (by omega)) ?_;refine gs ?_;refine aa (aG (by omega)) ?_;refine gs ?_;refine aa (bo (by omega)) ?_;refine ah (mP ..) ?_;refine gs ?_;refine n9 ?_;refine bm (fun r => Kg _ _ H1) ?_;refine ah (s8 ..) ?_;refine ap h1 ac rfl ?_;refine ah (s9 ..) ?_;refine aa (aG (by omega)) ?_;refine gs ?_;refine aa (aG (by omega)) ?_;refine gs ?_;refine aa (aG (by omega)) ?_;refine gs ?_;refine aa (bo (by omega)) ?_;refine gs ?_;refine ap h1 ac rfl ?_;refine ap h1 ac rfl ?_;refine af h1 (pT P g σ t.who S.N) fun _ H2 h2 => ?_;refine bE ac ?_;refine aQ h2 rfl ?_;refine aJ h1 h2 (by rfl) ?_
 by_cases hw : σ.μ.V (2, 0, 0) = t.q
 ·refine aa (bo (show ((σ.μ.V (2, 0, 0) : Nat) : Int) = (k.q : Int) by omega)) ?_
  refine gs ?_;refine ap h2 ac rfl ?_;rw [hm];refine af h2 (jJ x P g (ez σ t) t k (az (σ := σ) hg (by simp) rfl) t.mark 9 (by have := S.N; show σ.μ.N + 2 < _; omega) S.pts) fun v H3 h3 => ?_;exact aq (Fw (g := { g with pv := v }) (k := { k with code := 9 }) (σ' := (ez σ t).note t.mark t.who 9) (t' := { t with code := 9 }) (by simp only [aj, hat]; rw [if_pos hw]) rfl (dK (σ := σ) hg (by simp) rfl) h3.to)
 ·refine aa (aG (show ¬ ((σ.μ.V (2, 0, 0) : Nat) : Int) = (k.q : Int) by omega)) ?_
  refine gs ?_;refine bj h2 ac rfl rfl fun H3 h3 => ?_;refine ah (kg ..) ?_;exact aq (dC (g := g) (σ' := ez σ t) (t' := { t with at' := 7 }) (k := { k with a := 7 }) (by simp only [aj, hat]; rw [if_neg hw]) (by simp [iw, hobj]) (az (σ := σ) hg (by simp) rfl) h3.to)
theorem ai3 (S : SOk σ) (T : ia σ t) (hat : t.at' = 20) : Sp eO [vp x, vi now] (xP x P σ t) (fun _ : Unit => vb (aj σ t now).2.2) (fun _ => xQ x P (aj σ t now)) := by
 have hN : σ.μ.N < 1099511627000 := by have := S.N; omega
 refine aK fun R H h => ?_;obtain ⟨k, g, hR, hg, h0⟩ := cW h;have hl := hg.1;simp only [iw, hat] at hR;obtain ⟨ha, hobj⟩ := hR;have ho := T.obj (.inl (by omega))
 have hob : k.obj < σ.obs.length := by omega
 obtain ⟨b, hb⟩ : ∃ b, g.rp[k.obj]? = some b := ⟨_, cT (by omega)⟩;refine ce x P g σ t k now S T (by omega) h0 fun b1 H1 h1 => ?_;refine chw (by omega) ?_;refine n9 ?_;refine bm (fun r => yQ _ _ H1) ?_;refine ap h1 ac rfl ?_;refine ah (l8 ..) ?_;refine ap h1 ac rfl ?_;refine ah (md ..) ?_;refine aa (bo (by omega)) ?_;refine gs ?_;refine ap h1 ac rfl ?_;refine ap h1 ac rfl ?_;refine af h1 (xA (p := P) (g := g) (σ := σ) (μ' := σ.μ.cnt t.who (3, 0, 0) 1) (L := σ.μ.N) (by simp) (Fy g.ib g.m σ.c.sh σ.nx σ.μ.N σ.μ t.who hN)) fun _ H2 h2 => ?_;refine bj h2 ac rfl rfl fun H3 h3 => ?_;refine ah (ma ..) ?_;exact aq (dC (g := g) (σ' := σ.mem (σ.μ.cnt t.who (3, 0, 0) 1)) (t' := { t with at' := 7 }) (k := { k with a := 7 }) (by simp only [aj, hat]) (by simp [iw, hobj]) (az (σ := σ) hg (by simp) rfl) h3.to)
theorem ai4 (S : SOk σ) (T : ia σ t) (hat : t.at' = 21) : Sp eO [vp x, vi now] (xP x P σ t) (fun _ : Unit => vb (aj σ t now).2.2) (fun _ => xQ x P (aj σ t now)) := by
 have hN : σ.μ.N < 1099511627000 := by have := S.N; omega
 refine aK fun R H h => ?_;obtain ⟨k, g, hR, hg, h0⟩ := cW h;have hl := hg.1;simp only [iw, hat] at hR;obtain ⟨ha, hobj, hw0, hcode⟩ := hR;have ho := T.obj (.inl (by omega))
 have hob : k.obj < σ.obs.length := by omega
 obtain ⟨b, hb⟩ : ∃ b, g.rp[k.obj]? = some b := ⟨_, cT (by omega)⟩;refine ce x P g σ t k now S T (by omega) h0 fun b1 H1 h1 => ?_;refine chw (by omega) ?_;refine n9 ?_;refine bm (fun r => yQ _ _ H1) ?_;refine ap h1 ac rfl ?_;refine ah (l8 ..) ?_;refine ap h1 ac rfl ?_;refine ah (md ..) ?_;refine aa (aG (by omega)) ?_;refine gs ?_;refine aa (bo (by omega)) ?_;refine gs ?_;refine af h1 (jK x P g σ t k hl b hob hb) fun _ H2 h2 => ?_;refine bE ac ?_;refine aQ h2 rfl ?_;refine aJ h1 h2 (by rfl) ?_;refine af h2 (xw x P t k (by rw [hw0]; exact T.w)) fun _ H3 h3 => ?_;refine aJ h3 h2 (by rfl) ?_;have hwc := eG k.w;refine af h3 (mj (p := P) (μ' := (σ.μ.acc t.who 2 (15, (k.obj : Int), ((aL k.w % (ay σ k.obj).length : Nat) : Int))).put (15, (k.obj : Int), ((aL k.w % (ay σ k.obj).length : Nat) : Int)) (aL k.w + 1)) (by simp) hl hob hb (FB g.m k.obj b (ay σ k.obj) σ.μ t.who (aL k.w) (by omega) (S.cells _ hob) hN)) fun _ H4 h4 => ?_;refine bj h4 ac rfl rfl fun H5 h5 => ?_;refine ah (ma ..) ?_;rw [hobj, hw0] at h5;exact aq (dC (g := g) (σ' := sd σ t) (t' := { t with at' := 22 }) (k := { k with a := 22, obj := t.obj, w := t.w }) (by simp only [aj, hat]) (by simp [iw, hcode]) (az (σ := σ) hg (by simp) rfl) h5.to)
theorem ai5 (S : SOk σ) (T : ia σ t) (hat : t.at' = 22) : Sp eO [vp x, vi now] (xP x P σ t) (fun _ : Unit => vb (aj σ t now).2.2) (fun _ => xQ x P (aj σ t now)) := by
 have hN : σ.μ.N < 1099511627000 := by have := S.N; omega
 refine aK fun R H h => ?_;obtain ⟨k, g, hR, hg, h0⟩ := cW h;have hl := hg.1;simp only [iw, hat] at hR;obtain ⟨ha, hobj, hcode⟩ := hR;have ho := T.obj (.inl (by omega))
 have hob : k.obj < σ.obs.length := by omega
 obtain ⟨b, hb⟩ : ∃ b, g.rp[k.obj]? = some b := ⟨_, cT (by omega)⟩;refine ce x P g σ t k now S T (by omega) h0 fun b1 H1 h1 => ?_;refine chw (by omega) ?_;refine n9 ?_;refine bm (fun r => yQ _ _ H1) ?_;refine ap h1 ac rfl ?_;refine ah (l8 ..) ?_;refine ap h1 ac rfl ?_;refine ah (md ..) ?_;refine aa (aG (by omega)) ?_;refine gs ?_;refine aa (aG (by omega)) ?_;refine gs ?_;refine aa (bo (by omega)) ?_;refine gs ?_;refine ap h1 ac rfl ?_;refine ap h1 ac rfl ?_;refine af h1 (xA (p := P) (g := g) (σ := σ) (μ' := σ.μ.acc t.who 1 (9, t.s, 0)) (L := σ.μ.N) (by simp) (RK g.ib g.m σ.c.sh σ.nx σ.μ.N σ.μ t.who t.s hN)) fun _ H2 h2 => ?_;refine bj h2 ac rfl rfl fun H3 h3 => ?_;refine bj h3 ac rfl rfl fun H4 h4 => ?_;refine ah (ma ..) ?_;exact aq (dC (g := g) (σ' := σ.mem (σ.μ.acc t.who 1 (9, t.s, 0))) (t' := { t with at' := 23, top := σ.μ.V (9, t.s, 0) }) (k := { k with a := 23, top := σ.μ.V (9, t.s, 0) }) (by simp only [aj, hat]) (by simp [iw, hobj, hcode]) (az (σ := σ) hg (by simp) rfl) h4.to)
theorem ai6 (S : SOk σ) (T : ia σ t) (hat : t.at' = 23) : Sp eO [vp x, vi now] (xP x P σ t) (fun _ : Unit => vb (aj σ t now).2.2) (fun _ => xQ x P (aj σ t now)) := by
 have hN : σ.μ.N < 1099511627000 := by have := S.N; omega
 refine aK fun R H h => ?_;obtain ⟨k, g, hR, hg, h0⟩ := cW h;have hl := hg.1;simp only [iw, hat] at hR;obtain ⟨ha, hobj, htop, hcode⟩ := hR;have ho := T.obj (.inl (by omega))
 have hob : k.obj < σ.obs.length := by omega
 obtain ⟨b, hb⟩ : ∃ b, g.rp[k.obj]? = some b := ⟨_, cT (by omega)⟩;refine ce x P g σ t k now S T (by omega) h0 fun b1 H1 h1 => ?_;refine chw (by omega) ?_;refine n9 ?_;refine bm (fun r => yQ _ _ H1) ?_;refine ap h1 ac rfl ?_;refine ah (l8 ..) ?_;refine ap h1 ac rfl ?_;refine ah (md ..) ?_;refine aa (aG (by omega)) ?_;refine gs ?_;refine aa (aG (by omega)) ?_;refine gs ?_;refine aa (aG (by omega)) ?_;refine gs ?_;refine aa (bo (by omega)) ?_;refine gs ?_;refine ap h1 ac rfl ?_;refine ap h1 ac rfl ?_;refine ap h1 ac rfl ?_;refine ap h1 ac rfl ?_;refine af h1 (xA (p := P) (g := g) (σ := σ) (μ' := σ.μ.acc t.who 6 (14, (k.obj : Int), 0)) (L := σ.μ.N + 1) (by simp) (N4 g.ib g.m σ.c.sh σ.nx σ.μ.N σ.μ t.who k.obj k.top (by have := S.N; omega) hN)) fun _ H2 h2 => ?_;refine bj h2 ac rfl rfl fun H3 h3 => ?_;refine ah (ma ..) ?_;rw [hobj, htop] at h3;exact aq (dC (g := g) (σ' := { σ with μ := σ.μ.acc t.who 6 (14, (t.obj : Int), 0), nx := fun k => if k = (t.obj : Int) then some t.top else σ.nx k }) (t' := { t with at' := 24 }) (k := { k with a := 24, obj := t.obj, top := t.top }) (by simp only [aj, hat]) (by simp [iw, hcode]) (az (σ := σ) hg (by simp) rfl) h3.to)
theorem ai7 (S : SOk σ) (T : ia σ t) (hat : t.at' = 24) : Sp eO [vp x, vi now] (xP x P σ t) (fun _ : Unit => vb (aj σ t now).2.2) (fun _ => xQ x P (aj σ t now)) := by
 have hN : σ.μ.N < 1099511627000 := by have := S.N; omega
 refine aK fun R H h => ?_;obtain ⟨k, g, hR, hg, h0⟩ := cW h;have hl := hg.1;simp only [iw, hat] at hR;obtain ⟨ha, hobj, htop, hcode⟩ := hR;have ho := T.obj (.inl (by omega))
 have hob : k.obj < σ.obs.length := by omega
 obtain ⟨b, hb⟩ : ∃ b, g.rp[k.obj]? = some b := ⟨_, cT (by omega)⟩;refine ce x P g σ t k now S T (by omega) h0 fun b1 H1 h1 => ?_;refine chw (by omega) ?_;refine n9 ?_;refine bm (fun r => yQ _ _ H1) ?_;refine ap h1 ac rfl ?_;refine ah (l8 ..) ?_;refine ap h1 ac rfl ?_;refine ah (md ..) ?_;refine aa (aG (by omega)) ?_;refine gs ?_;refine aa (aG (by omega)) ?_;refine gs ?_;refine aa (aG (by omega)) ?_;refine gs ?_;refine aa (aG (by omega)) ?_;refine gs ?_;refine aa (bo (by omega)) ?_;refine gs ?_;refine bj h1 ac rfl rfl fun H2 h2 => ?_;refine ap h2 ac rfl ?_;refine ap h2 ac rfl ?_;refine ap h2 ac rfl ?_;refine ap h2 ac rfl ?_;refine af h2 (xA (p := P) (g := g) (σ := σ) (μ' := σ.μ.swp t.who (9, t.s, 0) k.top (k.obj + 1)) (L := σ.μ.N) (by simp) (N5 g.ib g.m σ.c.sh σ.nx σ.μ.N σ.μ t.who t.s k.top k.obj (by have := S.obs; omega) hN)) fun _ H3 h3 => ?_;rw [hobj, htop] at h3;rw [htop]
 by_cases hw : σ.μ.V (9, t.s, 0) = t.top
 ·rw [d4 hw]
  refine gs ?_;refine bj h3 ac rfl rfl fun H4 h4 => ?_;refine ah (ma ..) ?_;exact aq (dC (g := g) (σ' := σ.mem (σ.μ.swp t.who (9, t.s, 0) t.top (t.obj + 1))) (t' := { t with at' := 25 }) (k := { k with a := 25, obj := t.obj, top := t.top }) (by simp only [aj, hat]; rw [if_pos hw]) (by simp [iw, hcode]) (az (σ := σ) hg (by simp) rfl) h4.to)
 ·rw [d6 hw]
  refine gs ?_;refine ah (ma ..) ?_;exact aq (dC (g := g) (σ' := σ.mem (σ.μ.swp t.who (9, t.s, 0) t.top (t.obj + 1))) (t' := { t with at' := 22 }) (k := { k with a := 22, obj := t.obj, top := t.top }) (by simp only [aj, hat]; rw [if_neg hw]) (by simp [iw, hcode]) (az (σ := σ) hg (by simp) rfl) h3.to)
theorem ai8 (S : SOk σ) (T : ia σ t) (hat : t.at' = 25) : Sp eO [vp x, vi now] (xP x P σ t) (fun _ : Unit => vb (aj σ t now).2.2) (fun _ => xQ x P (aj σ t now)) := by
 have hN : σ.μ.N < 1099511627000 := by have := S.N; omega
 refine aK fun R H h => ?_;obtain ⟨k, g, hR, hg, h0⟩ := cW h;have hl := hg.1;simp only [iw, hat] at hR;obtain ⟨ha, hcode⟩ := hR;refine ce x P g σ t k now S T (by omega) h0 fun b1 H1 h1 => ?_;refine chw (by omega) ?_;refine n9 ?_;refine bm (fun r => yQ _ _ H1) ?_;refine ap h1 ac rfl ?_;refine ah (l8 ..) ?_;refine ap h1 ac rfl ?_;refine ah (md ..) ?_;refine aa (aG (by omega)) ?_;refine gs ?_;refine aa (aG (by omega)) ?_;refine gs ?_;refine aa (aG (by omega)) ?_;refine gs ?_;refine aa (aG (by omega)) ?_;refine gs ?_;refine aa (aG (by omega)) ?_;refine gs ?_;refine aa (bo (by omega)) ?_;refine gs ?_;refine ap h1 ac rfl ?_;refine ap h1 ac rfl ?_;refine af h1 (xA (p := P) (g := g) (σ := σ) (μ' := σ.μ.cnt t.who (3, 0, 0) 1) (L := σ.μ.N) (by simp) (Fy g.ib g.m σ.c.sh σ.nx σ.μ.N σ.μ t.who hN)) fun _ H2 h2 => ?_;exact aq (Fw (g := g) (k := k) (σ' := σ.mem (σ.μ.cnt t.who (3, 0, 0) 1)) (t' := t) (by simp only [aj, hat]) hcode (az (σ := σ) hg (by simp) rfl) h2.to)
theorem aiT {R : SP} {H1 : AH} {b1 : Nat} {sv : Value} (g : XIds) (k : Xk) (S : SOk σ) (T : ia σ t) (hg : e8 g σ) (ha : k.a = 2) (hI : k.I = t.i) (hh : k.hit = false) (hi : (t.i : Int) < σ.c.sl)
 (h1 : ae (blk b1 (.cells false [vi t.x.flow, vi t.x.a, vi t.x.b]) * (xB x P t k * (aw P g σ * R))) H1) :
 wp (QI (vp x) (vi now) (vb false) (vp P) sv (vp b1) (vi k.a) (vb true) H1) fun v' H' => ∃ y : Unit, v' = vb (gC σ t).2.2 ∧ ae (xQ x P (gC σ t) * R) H' := by
 refine ah (oW ..) ?_;refine gs ?_;refine af h1 (VC x P g σ t k S T hI hi) fun k2 H2 h2 => ?_;rw [ak, ae.pu] at h2;obtain ⟨hX, h2⟩ := h2;obtain ⟨x1, x2, x3, x4, x5, x6, x7, x8⟩ := hX;refine aa (v := vb (aN σ t).found) rfl ?_;refine aa (v := vb (!(aN σ t).found && bO σ (aN σ t))) rfl ?_;cases hf : (aN σ t).found
 ·obtain ⟨y1, y2⟩ := x8 hf
  refine gs ?_;rw [Bool.not_false, Bool.true_and];cases hla : bO σ (aN σ t)
  ·refine gs ?_
   refine ah (cC ..) ?_;exact aq (dC (g := g) (k := k2) (σ' := aW σ t) (t' := { aN σ t with at' := 2 }) (by simp only [gC, hf, hla]; rfl) (by simp [iw, x1, ha, y1, y2, hh, hI, aN]) (az (σ := σ) hg (by simp) rfl) (show ae (xB x P t k2 * (aw P g (aW σ t) * R)) H2 from h2.to))
  ·refine gs ?_
   refine bj h2 ac rfl rfl fun H3 h3 => ?_;refine ah (cC ..) ?_;exact aq (dC (g := g) (k := { k2 with a := 3 }) (σ' := aW σ t) (t' := { aN σ t with at' := 3 }) (by simp only [gC, hf, hla]; rfl) (by simp [iw]) (az (σ := σ) hg (by simp) rfl) (show ae (xB x P t { k2 with a := 3 } * (aw P g (aW σ t) * R)) H3 from h3.to))
 ·obtain ⟨y1, y2⟩ := x7 hf
  refine gs ?_;refine bj h2 ac rfl rfl fun H3 h3 => ?_;refine ah (cC ..) ?_;exact aq (dC (g := g) (k := { k2 with a := 6 }) (σ' := aW σ t) (t' := { aN σ t with at' := 6 }) (by simp only [gC, hf]; rfl) (by simp [iw, y2]) (az (σ := σ) hg (by simp) rfl) (show ae (xB x P t { k2 with a := 6 } * (aw P g (aW σ t) * R)) H3 from h3.to))
theorem amF (S : SOk σ) (T : ia σ t) (hat : t.at' = 2) : Sp eO [vp x, vi now] (xP x P σ t) (fun _ : Unit => vb (aj σ t now).2.2) (fun _ => xQ x P (aj σ t now)) := by
 have hN : σ.μ.N < 1099511627000 := by have := S.N; omega
 refine aK fun R H h => ?_;obtain ⟨k, g, hR, hg, h0⟩ := cW h;have hl := hg.1;simp only [iw, hat] at hR;obtain ⟨ha, hI, hh⟩ := hR;have hi := T.i (by omega) (by omega)
 have hs : aj σ t now = gC σ t := by simp only [aj, hat, gC]
 rw [hs];refine ce x P g σ t k now S T (by omega) h0 fun b1 H1 h1 => ?_;refine ah (l7 ..) ?_;refine aa (bo (by omega)) ?_;exact aiT x P σ t now g k S T hg ha hI hh hi h1
theorem amH (S : SOk σ) (T : ia σ t) (hat : t.at' = 4) : Sp eO [vp x, vi now] (xP x P σ t) (fun _ : Unit => vb (aj σ t now).2.2) (fun _ => xQ x P (aj σ t now)) := by
 have hN : σ.μ.N < 1099511627000 := by have := S.N; omega
 refine aK fun R H h => ?_;obtain ⟨k, g, hR, hg, h0⟩ := cW h;have hl := hg.1;simp only [iw, hat] at hR;obtain ⟨ha, hI, hh⟩ := hR;have hi := T.i (by omega) (by omega);refine ce x P g σ t k now S T (by omega) h0 fun b1 H1 h1 => ?_;refine ah (l7 ..) ?_;refine aa (aG (by omega)) ?_;refine ah (oW ..) ?_;refine gs ?_;refine aa (aG (by omega)) ?_;refine ah (pN ..) ?_;refine gs ?_;refine aa (bo (by omega)) ?_;refine ah (uM ..) ?_;refine gs ?_;refine af h1 (VC x P g σ t k S T hI hi) fun k2 H2 h2 => ?_;rw [ak, ae.pu] at h2;obtain ⟨hX, h2⟩ := h2;obtain ⟨x1, x2, x3, x4, x5, x6, x7, x8⟩ := hX;refine aa (v := vb (aN σ t).found) rfl ?_;refine aa (v := vb (!(aN σ t).found && bO σ (aN σ t))) rfl ?_;cases hf : (aN σ t).found
 ·obtain ⟨y1, y2⟩ := x8 hf
  refine gs ?_;rw [Bool.not_false, Bool.true_and];cases hla : bO σ (aN σ t)
  ·refine gs ?_
   refine ah (cC ..) ?_;exact aq (dC (g := g) (k := k2) (σ' := aW σ t) (t' := aN σ t) (by simp only [aj, hat, hf, hla]; rfl) (by simp [iw, x1, ha, y1, y2, hh, hI, aN, hat]) (az (σ := σ) hg (by simp) rfl) (show ae (xB x P t k2 * (aw P g (aW σ t) * R)) H2 from h2.to))
  ·refine gs ?_
   refine af h2 (jJ x P g (aW σ t) t k2 (az (σ := σ) hg (by simp) rfl) now 5 (by have := S.N; show σ.μ.N + 2 < _; omega) S.pts) fun v H3 h3 => ?_;refine bj h3 ac rfl rfl fun H4 h4 => ?_;refine ah (cC ..) ?_;exact aq (dC (g := { g with pv := v }) (k := { k2 with a := 5, code := 5 }) (σ' := (aW σ t).note now t.who 5) (t' := { aN σ t with at' := 5, code := 5 }) (by simp only [aj, hat, hf, hla]; rfl) (by simp [iw, hf, y1, hh]) (dK (σ := σ) hg (by simp) rfl) (show ae (xB x P t { k2 with a := 5, code := 5 } * (aw P { g with pv := v } ((aW σ t).note now t.who 5) * R)) H4 from h4.to))
 ·obtain ⟨y1, y2⟩ := x7 hf
  refine gs ?_;refine bj h2 ac rfl rfl fun H3 h3 => ?_;refine ah (cC ..) ?_;exact aq (dC (g := g) (k := { k2 with a := 5 }) (σ' := aW σ t) (t' := { aN σ t with at' := 5 }) (by simp only [aj, hat, hf]; rfl) (by simp [iw, hf, y1, y2]) (az (σ := σ) hg (by simp) rfl) (show ae (xB x P t { k2 with a := 5 } * (aw P g (aW σ t) * R)) H3 from h3.to))
theorem amE (S : SOk σ) (T : ia σ t) (hat : t.at' = 0) : Sp eO [vp x, vi now] (xP x P σ t) (fun _ : Unit => vb (aj σ t now).2.2) (fun _ => xQ x P (aj σ t now)) := by
 have hN : σ.μ.N < 1099511627000 := by have := S.N; omega
 refine aK fun R H h => ?_;obtain ⟨k, g, hR, hg, h0⟩ := cW h;have hl := hg.1;simp only [iw, hat] at hR;obtain ⟨ha, hI, hh⟩ := hR;have hi := T.i (by omega) (by omega);refine N3 x P g σ t k now S T h0 fun b1 H1 h1 => ?_;refine ah (Hf ..) ?_;refine ap h1 ac rfl ?_;refine aa (bo (by omega)) ?_;refine gs ?_
 have fin : ∀ code, dd t.x = some code → wp ((FF bJ [vp x, vi now, vi code] H1).bind fun r125 => some ((vb true), r125.2)) fun v' H' => ∃ y : Unit, v' = vb (aj σ t now).2.2 ∧ ae (xQ x P (aj σ t now) * R) H' := by
  intro code hx;refine af h1 (jJ x P g σ t k hg now code (by have := S.N; omega) S.pts) fun v H2 h2 => ?_;exact aq (Fw (g := { g with pv := v }) (k := { k with code := code }) (σ' := σ.note now t.who code) (t' := { t with code := code }) (by simp only [aj, hat, hx]) rfl (dK (σ := σ) hg (bB _) rfl) h2.to)
 refine ap h1 (ci (aP (aP be))) rfl ?_
 by_cases ha1 : t.x.a < 1
 ·refine aa (cz ha1) ?_
  refine gs ?_;exact fin 3 (by rw [dd, if_pos (.inl ha1)])
 ·refine aa (bW ha1) ?_
  refine gs ?_;refine ap h1 (ci (aP (aP be))) rfl ?_;refine gs ?_
  by_cases ha2 : 65536 < t.x.a
  ·refine aa (kN ha2) ?_
   refine gs ?_;exact fin 3 (by rw [dd, if_pos (.inr ha2)])
  ·refine aa (fQ ha2) ?_
   refine gs ?_;refine ap h1 (ci (aP (aP be))) rfl ?_
   by_cases hf : t.x.flow < 0
   ·refine aa (cz hf) ?_
    refine gs ?_;exact fin 5 (by rw [dd, if_neg (by omega), if_pos (.inl hf)])
   ·refine aa (bW hf) ?_
    refine gs ?_;refine ap h1 (ci (aP (aP be))) rfl ?_;refine gs ?_
    by_cases hf2 : 1048576 < t.x.flow
    ·refine aa (kN hf2) ?_
     refine gs ?_;exact fin 5 (by rw [dd, if_neg (by omega), if_pos (.inr hf2)])
    ·refine aa (fQ hf2) ?_
     refine gs ?_
     have hx : dd t.x = none := by rw [dd, if_neg (by omega), if_neg (by omega)]
     have hs : aj σ t now = gC σ t := by simp only [aj, hat, hx, gC]
     rw [hs];refine bj h1 ac rfl rfl fun H2 h2 => ?_;refine ah (Hg ..) ?_;refine ap h2 ac rfl ?_;refine ah (l7 ..) ?_;refine aa (bo (by omega)) ?_;exact aiT x P σ t now g { k with a := 2 } S T hg rfl hI hh hi h2.to
theorem ZE (S : SOk σ) (T : ia σ t) : Sp eO [vp x, vi now] (xP x P σ t) (fun _ : Unit => vb (aj σ t now).2.2) (fun _ => xQ x P (aj σ t now)) := by
 rcases T.ats with hat | hat | hat | hat | hat | hat | hat | hat | hat | hat | hat | hat | hat | hat | hat | hat | hat | hat | hat | hat | hat | hat | hat | hat
 ·exact amE x P σ t now S T hat
 ·exact amF x P σ t now S T hat
 ·exact amG x P σ t now S T hat
 ·exact amH x P σ t now S T hat
 ·exact amI x P σ t now S T hat
 ·exact amJ x P σ t now S T hat
 ·exact amK x P σ t now S T hat
 ·exact amL x P σ t now S T hat
 ·exact amM x P σ t now S T hat
 ·exact aiU x P σ t now S T hat
 ·exact aiV x P σ t now S T hat
 ·exact aiW x P σ t now S T hat
 ·exact aiX x P σ t now S T hat
 ·exact aiY x P σ t now S T hat
 ·exact aiZ x P σ t now S T hat
 ·exact ai0 x P σ t now S T hat
 ·exact ai1 x P σ t now S T hat
 ·exact ai2 x P σ t now S T hat
 ·exact ai3 x P σ t now S T hat
 ·exact ai4 x P σ t now S T hat
 ·exact ai5 x P σ t now S T hat
 ·exact ai6 x P σ t now S T hat
 ·exact ai7 x P σ t now S T hat
 ·exact ai8 x P σ t now S T hat
end
def Rlr (t : Tk) (k : Xk) : Prop := k.a = t.at' ∧ (t.at' < 4 → k.I = t.i ∧ k.free = t.mark) ∧ (t.x.op = 1 → (t.at' = 4 ∨ t.at' = 5 → k.free = t.mark) ∧ (t.at' = 5 → k.obj = t.obj) ∧ (t.at' = 6 → k.code = t.code)) ∧
 (t.x.op ≠ 1 → (4 ≤ t.at' → t.at' < 10 → k.I = t.i ∧ k.obj = t.obj) ∧ (t.at' = 6 ∨ t.at' = 7 → k.q = t.q) ∧ (t.at' = 7 → k.mark = t.mark) ∧ (t.at' = 8 → k.w = t.w) ∧ (t.at' = 9 ∨ t.at' = 10 → k.code = t.code))
theorem BR {t : Tk} {k : Xk} (h0 : k.a = t.at') (ha : t.at' < 4) (h : k.I = t.i ∧ k.free = t.mark) : Rlr t k :=
 ⟨h0, fun _ => h, fun _ => ⟨fun h => by omega, fun h => by omega, fun h => by omega⟩, fun _ => ⟨fun h _ => by omega, fun h => by omega, fun h => by omega, fun h => by omega, fun h => by omega⟩⟩
theorem K4 {t : Tk} {k : Xk} (h0 : k.a = t.at') (ho : t.x.op = 1) (ha : 4 ≤ t.at') (h4 : t.at' = 4 ∨ t.at' = 5 → k.free = t.mark) (h5 : t.at' = 5 → k.obj = t.obj) (h6 : t.at' = 6 → k.code = t.code) : Rlr t k :=
 ⟨h0, fun h => by omega, fun _ => ⟨h4, h5, h6⟩, fun h => absurd ho h⟩
theorem tv {t : Tk} {k : Xk} (h0 : k.a = t.at') (ho : t.x.op ≠ 1) (ha : 4 ≤ t.at') (h1 : k.I = t.i) (h2 : k.obj = t.obj) (hq : t.at' = 6 ∨ t.at' = 7 → k.q = t.q) (hm : t.at' = 7 → k.mark = t.mark) (hw : t.at' = 8 → k.w = t.w) (hc : t.at' = 9 ∨ t.at' = 10 → k.code = t.code) : Rlr t k :=
 ⟨h0, fun h => by omega, fun h => absurd h ho, fun _ => ⟨fun _ _ => ⟨h1, h2⟩, hq, hm, hw, hc⟩⟩
theorem ZR {t : Tk} {k : Xk} (h0 : k.a = t.at') (ho : t.x.op ≠ 1) (ha : t.at' = 10) (h : k.code = t.code) : Rlr t k :=
 ⟨h0, fun h => by omega, fun h => absurd h ho, fun _ => ⟨fun _ _ => by omega, fun h => by omega, fun h => by omega, fun h => by omega, fun _ => h⟩⟩
def yT (x P : Nat) (t : Tk) : SP := ex fun k : Xk => pu (Rlr t k) * xB x P t k
def yU (x P : Nat) (r : aS × Tk × Bool) : SP := ex fun k : Xk => pu (if r.2.2 = true then k.code = r.2.1.code else Rlr r.2.1 k) * xB x P r.2.1 k
section
variable {x P : Nat} {g : XIds} {σ σ' : aS} {t t' : Tk} {R : SP} {H : AH} {r : aS × Tk × Bool} {k : Xk}
theorem jL (h : ae (yT x P t * aM P σ * R) H) : ∃ (k : Xk) (g : XIds), Rlr t k ∧ e8 g σ ∧ ae (xB x P t k * (aw P g σ * R)) H := by
 unfold yT at h;rw [ak] at h;obtain ⟨k, h1⟩ := ae.ex.1 h;rw [ak, ae.pu] at h1;obtain ⟨g, h2, h3⟩ := fc (p := P) (σ := σ) (R := xB x P t k * R) (H := H) h1.2.to;exact ⟨k, g, h1.1, h2, h3.to⟩
theorem ij (hr : r = (σ', t', false)) (hR : Rlr t' k) (hg : e8 g σ') (h : ae (xB x P t' k * (aw P g σ' * R)) H) : ∃ y : Unit, (vb false : Value) = vb r.2.2 ∧ ae (yU x P r * aM P r.1 * R) H := by
 subst hr;refine ⟨(), rfl, ?_⟩;have h1 := dc (p := P) (σ := σ') (R := xB x P t' k * R) g hg h.to;unfold yU;rw [ak];refine ae.ex.2 ⟨k, ?_⟩;rw [ak, ae.pu];exact ⟨hR, h1.to⟩
theorem RO (hr : r = (σ', t', true)) (hc : k.code = t'.code) (hg : e8 g σ') (h : ae (xB x P t' k * (aw P g σ' * R)) H) : ∃ y : Unit, (vb true : Value) = vb r.2.2 ∧ ae (yU x P r * aM P r.1 * R) H := by
 subst hr;refine ⟨(), rfl, ?_⟩;have h1 := dc (p := P) (σ := σ') (R := xB x P t' k * R) g hg h.to;unfold yU;rw [ak];refine ae.ex.2 ⟨k, ?_⟩;rw [ak, ae.pu];exact ⟨hc, h1.to⟩
end
section
variable (x P : Nat) (g : XIds) (σ : aS) (t : Tk) (k : Xk)
def tS : Xk := { k with I := (aC σ t).i, free := (aC σ t).mark, hit := (k.hit || (aC σ t).found), obj := if (aC σ t).found = true then (aC σ t).obj else k.obj }
theorem N8 (S : SOk σ) (T : mi σ t) (hI : k.I = t.i) (hfr : k.free = t.mark) (hi : (t.i : Int) < σ.c.sl) :
 Sp Ej [vp x] (xB x P t k * aw P g σ) (fun _ : Unit => .tuple #[vb (aC σ t).found, vb (!(aC σ t).found && decide (σ.c.sl ≤ ((t.i + 1 : Nat) : Int)))]) (fun _ => xB x P t (tS σ t k) * aw P g (aW σ t)) := by
 have hN : σ.μ.N < 1099511627000 := by have := S.N; omega
 have hc := bD.1 S.c;refine bh (agL _) fun R H h => ?_;refine bE ac ?_;refine aQ h rfl ?_;refine bE ac ?_;refine aQ h rfl ?_;refine bE ac ?_;refine aQ h rfl ?_;refine ap h ac rfl ?_;refine ap h ac rfl ?_;refine ap h (ci (aP (aP be))) rfl ?_;refine af h (Bc (p := P) (g := g) (σ := σ) (lR g.tb g.m σ.c.sh.toNat σ.c.sl.toNat (by omega) t.x.flow)) fun _ H1 h1 => ?_;refine aJ h1 h (by rfl) ?_;refine aJ h1 h (by rfl) ?_;refine aJ h1 h (by rfl) ?_
 have es : vi ((t.x.flow.tmod (σ.c.sh.toNat : Int) + (σ.c.sh.toNat : Int)).tmod (σ.c.sh.toNat : Int)) = vi t.s := by rw [T.s, show ((σ.c.sh.toNat : Nat) : Int) = σ.c.sh from by omega]
 rw [es];refine bE ac ?_;refine aQ h1 rfl ?_;refine aJ h h1 (by rfl) ?_;rw [hI];refine af h1 (oY (p := P) (g := g) (σ := σ) (μ' := σ.μ.acc t.who 1 (10, t.s, (t.i : Int))) (by simp) (G9 g.tb g.m σ.c.sh.toNat σ.c.sl.toNat σ.μ t.who t.s t.i hN (S.V _))) fun _ H2 h2 => ?_;obtain ⟨v, hv⟩ : ∃ v, v = σ.μ.V (10, t.s, (t.i : Int)) := ⟨_, rfl⟩;rw [← hv]
 have ifo : ∀ b, (aC σ t).found = b → (aC σ t).i = if b = true then t.i else t.i + 1 := by
  intro b hb;show (if (aC σ t).found = true then t.i else t.i + 1) = _;rw [hb]
 have tail : ∀ (k' : Xk) (H' : AH), k'.I = t.i → { k' with I := t.i + 1 } = tS σ t k → (aC σ t).found = false → ae (xB x P t k' * (aw P g (aW σ t) * R)) H' →
  wp (EF (vp x) (vb false) (vb false) H') fun v' H' => ∃ _ : Unit, v' = .tuple #[vb (aC σ t).found, vb (!(aC σ t).found && decide (σ.c.sl ≤ ((t.i + 1 : Nat) : Int)))] ∧ ae (xB x P t (tS σ t k) * aw P g (aW σ t) * R) H' := by
  intro k' H' hI' hX hf h';refine ah (Hh ..) ?_;refine ap h' ac rfl ?_;rw [hI'];refine aa (aH (by omega) (by omega)) ?_;rw [show ((t.i : Nat) : Int) + 1 = ((t.i + 1 : Nat) : Int) from by omega];refine bj h' ac rfl rfl fun H3 h3 => ?_;refine ap h3 ac rfl ?_;refine ap h3 ac rfl ?_;refine ap h3 ac rfl ?_;have h4 := h3;unfold aw tab at h4;refine ap h4 ac rfl ?_;refine aa (v := vb (decide (σ.c.sl ≤ ((t.i + 1 : Nat) : Int)))) ?_ ?_
  ·show ai _ .geq (vi ((t.i + 1 : Nat) : Int)) _ = _
   rw [sE]
   congr 3
   show ((σ.c.sl.toNat : Int) ≤ _) = (σ.c.sl ≤ ((t.i + 1 : Nat) : Int));apply propext;omega
  refine aq ⟨(), by rw [hf]; rfl, ?_⟩;rw [← hX, ak];exact h3.to
 by_cases hv0 : v = 0
 ·have e1 : ig v = .tuple #[vi 0, vi 0, vb false] := by rw [ig, if_pos hv0]
  have hf : (aC σ t).found = false := d6 fun q => q.1 (hv.symm.trans hv0);have hii := ifo _ hf;rw [e1];refine aa (v := vi 0) rfl ?_;refine aa (v := vi 0) rfl ?_;refine aa (v := vb false) rfl ?_;refine gs ?_;refine ah (ta ..) ?_;refine gs ?_;rw [Bool.not_false];refine gs ?_;refine ap h2 ac rfl ?_
  by_cases hm : k.free < 0
  ·refine hZ ?_
   refine aa (cz hm) ?_;refine gs ?_
   have em : (aC σ t).mark = t.i := by
    show (if σ.μ.V (10, t.s, (t.i : Int)) = 0 ∧ t.mark < 0 then (t.i : Int) else t.mark) = _;rw [if_pos ⟨hv.symm.trans hv0, by rw [← hfr]; exact hm⟩]
   refine ap h2 ac rfl ?_;rw [hI];refine bj h2 ac rfl rfl fun H3 h3 => ?_;exact tail { k with free := t.i } H3 hI (by unfold tS; rw [hii, em, hf]; simp) hf h3.to
  ·refine hZ ?_
   refine aa (bW hm) ?_;refine gs ?_
   have em : (aC σ t).mark = k.free := by
    show (if σ.μ.V (10, t.s, (t.i : Int)) = 0 ∧ t.mark < 0 then (t.i : Int) else t.mark) = _;rw [if_neg (fun h => hm (by rw [hfr]; exact h.2)), hfr]
   exact tail k H2 hI (by unfold tS; rw [hii, em, hf]; simp) hf h2.to
 ·have e1 : ig v = .tuple #[vi ((v / 4294967296 : Nat) - 1), vi (v % 4294967296 : Nat), vb true] := by rw [ig, if_neg hv0]
  have em : (aC σ t).mark = k.free := by
   show (if σ.μ.V (10, t.s, (t.i : Int)) = 0 ∧ t.mark < 0 then (t.i : Int) else t.mark) = _;rw [if_neg (fun h => hv0 (hv.trans h.1)), hfr]
  rw [e1];refine aa (v := vi ((v / 4294967296 : Nat) - 1)) rfl ?_;refine aa (v := vi (v % 4294967296 : Nat)) rfl ?_;refine aa (v := vb true) rfl ?_;refine gs ?_;refine ap h2 (ci (aP (aP be))) rfl ?_;refine hZ ?_
  by_cases hf : ((v / 4294967296 : Nat) : Int) - 1 = t.x.flow
  ·have hfo : (aC σ t).found = true := d4 ⟨fun h => hv0 (hv.trans h), by rw [← hv]; exact hf⟩
   have hob : (aC σ t).obj = v % 4294967296 := by
    show (if (aC σ t).found = true then σ.μ.V (10, t.s, (t.i : Int)) % 4294967296 else t.obj) = _;rw [if_pos hfo, ← hv]
   have hii := ifo _ hfo;refine aa (bo hf) ?_;refine gs ?_;refine bj h2 ac rfl rfl fun H3 h3 => ?_;refine bj h3 ac rfl rfl fun H4 h4 => ?_;refine aq ⟨(), by rw [hfo]; rfl, ?_⟩
   have eX : tS σ t k = { k with hit := true, obj := v % 4294967296 } := by
    unfold tS;rw [hii, em, hfo, hob];simp [← hI]
   rw [eX, ak];exact h4.to
  ·have hfo : (aC σ t).found = false := d6 fun q => hf (by rw [hv]; exact q.2)
   have hii := ifo _ hfo;refine aa (aG hf) ?_;refine gs ?_;refine ah (ta ..) ?_;refine gs ?_;rw [Bool.not_true];refine gs ?_;exact tail k H2 hI (by unfold tS; rw [hii, em, hfo]; simp) hfo h2.to
variable (now : Int)
theorem HX {R : SP} {H : AH} (S : SOk σ) (hR : k.I = t.i ∧ k.free = t.mark) (ha : k.a = 2) (hg : e8 g σ) (h : ae (xB x P t k * (aw P g σ * R)) H) :
 wp (gh (vp x) (vi now) (vb false) (vp P) (vi t.s) H) fun v' H' => ∃ y : Unit, v' = vb (fm σ t).2.2 ∧ ae (yU x P (fm σ t) * aM P (fm σ t).1 * R) H' := by
 have hN : σ.μ.N < 1099511627000 := by have := S.N; omega
 refine ah (iY ..) ?_;refine ap h ac rfl ?_;refine aa (bo (by omega)) ?_;refine ah (iZ ..) ?_;refine gs ?_;refine ap h ac rfl ?_;refine ap h ac rfl ?_;refine af h (oY (p := P) (g := g) (σ := σ) (μ' := σ.μ.swp t.who (8, t.s, 0) 0 1) (by simp) (Nd g.tb g.m σ.c.sh.toNat σ.c.sl.toNat σ.μ t.who t.s hN)) fun _ H2 h2 => ?_
 by_cases hw : σ.μ.V (8, t.s, 0) = 0
 ·rw [d4 hw]
  refine gs ?_;refine bj h2 ac rfl rfl fun H3 h3 => ?_;refine ah (mO ..) ?_;exact aq (ij (g := g) (k := { k with a := 3 }) (σ' := lr σ t) (t' := { t with at' := 3 }) (by unfold fm; rw [if_pos hw]) (BR rfl (by simp) hR) (az (σ := σ) hg (by simp) rfl) (show ae (xB x P t { k with a := 3 } * (aw P g (lr σ t) * R)) H3 from h3.to))
 ·rw [d6 hw]
  refine gs ?_;refine ah (mO ..) ?_;exact aq (ij (g := g) (k := k) (σ' := lr σ t) (t' := { t with at' := 2 }) (by unfold fm; rw [if_neg hw]) (BR ha (by simp) hR) (az (σ := σ) hg (by simp) rfl) (show ae (xB x P t k * (aw P g (lr σ t) * R)) H2 from h2.to))
theorem N6 {R : SP} {H : AH} {Q : Value → AH → Prop} (S : SOk σ) (T : mi σ t) (h : ae (xB x P t k * (aw P g σ * R)) H)
 (hk : ∀ H', ae (xB x P t k * (aw P g σ * R)) H' → wp (lm (vp x) (vi now) (vb false) (vp P) (vi t.s) H') Q) :
 wp (FF bp [vp x, vi now] H) Q := by
 have hc := bD.1 S.c;refine bm (fun r => AV _ _ H) ?_;refine bE ac ?_;refine aQ h rfl ?_;refine ap h ac rfl ?_;refine ap h ac rfl ?_;refine ap h (ci (aP (aP be))) rfl ?_;refine af h (Bc (p := P) (g := g) (σ := σ) (lR g.tb g.m σ.c.sh.toNat σ.c.sl.toNat (by omega) t.x.flow)) fun _ H1 h1 => ?_;refine aJ h1 h (by rfl) ?_
 have es : vi ((t.x.flow.tmod (σ.c.sh.toNat : Int) + (σ.c.sh.toNat : Int)).tmod (σ.c.sh.toNat : Int)) = vi t.s := by rw [T.s, show ((σ.c.sh.toNat : Nat) : Int) = σ.c.sh from by omega]
 rw [es];exact hk H1 h1.to
theorem za {R : SP} {H : AH} {Q : Value → AH → Prop} (S : SOk σ) (T : mi σ t) (ha : k.a ≠ 0) (h : ae (xB x P t k * (aw P g σ * R)) H)
 (hk : ∀ H', ae (xB x P t k * (aw P g σ * R)) H' → wp (gh (vp x) (vi now) (vb false) (vp P) (vi t.s) H') Q) :
 wp (FF bp [vp x, vi now] H) Q := by
 refine N6 x P g σ t k now S T h fun H1 h1 => ?_;refine ah (mN ..) ?_;refine ap h1 ac rfl ?_;refine aa (aG (by omega)) ?_;refine ah (lB ..) ?_;refine gs ?_;exact hk H1 h1
theorem VB {fn : Nat} {args : List Value} {H : AH} {Q : Value → AH → Prop} (h : wp (FF fn args H) Q) : wp ((FF fn args H).bind fun r => some (r.1, r.2)) Q := by
 obtain ⟨v, H', e, q⟩ := h;exact ⟨v, H', by rw [e]; rfl, q⟩
theorem KY {R : SP} {H : AH} {Q : Value → AH → Prop} (S : SOk σ) (T : mi σ t) (ho : t.x.op = 1) (ha : 3 ≤ k.a) (h : ae (xB x P t k * (aw P g σ * R)) H)
 (hk : ∀ H', ae (xB x P t k * (aw P g σ * R)) H' → wp (gN (vp x) (vi now) (vi t.s) (vb false) (vp P) (vi (k.a : Int)) H') Q) :
 wp (FF bp [vp x, vi now] H) Q := by
 refine za x P g σ t k now S T (by omega) h fun H1 h1 => ?_;refine ah (iY ..) ?_;refine ap h1 ac rfl ?_;refine aa (aG (by omega)) ?_;refine ah (iZ ..) ?_;refine gs ?_;refine ap h1 (ci (aP (aP be))) rfl ?_;refine aa (bo ho) ?_;refine gs ?_;refine VB ?_;refine bm (fun r => rW _ _ _ H1) ?_;refine ap h1 ac rfl ?_;refine ah (oT ..) ?_;refine ap h1 ac rfl ?_;exact hk H1 h1
theorem ss {R : SP} {H : AH} {Q : Value → AH → Prop} (S : SOk σ) (T : mi σ t) (ho : t.x.op ≠ 1) (ha : 3 ≤ k.a) (h : ae (xB x P t k * (aw P g σ * R)) H)
 (hk : ∀ H', ae (xB x P t k * (aw P g σ * R)) H' → wp (kf (vp x) (vi now) (vi t.s) (vb false) (vp P) (vi (k.a : Int)) H') Q) :
 wp (FF bp [vp x, vi now] H) Q := by
 refine za x P g σ t k now S T (by omega) h fun H1 h1 => ?_;refine ah (iY ..) ?_;refine ap h1 ac rfl ?_;refine aa (aG (by omega)) ?_;refine ah (iZ ..) ?_;refine gs ?_;refine ap h1 (ci (aP (aP be))) rfl ?_;refine aa (aG ho) ?_;refine gs ?_;refine ah (uK ..) ?_;refine VB ?_;refine bm (fun r => yO _ _ _ H1) ?_;refine ap h1 ac rfl ?_;refine ah (tm ..) ?_;refine ap h1 ac rfl ?_;exact hk H1 h1
end
section
variable (x P : Nat) (σ : aS) (t : Tk) (now : Int)
theorem ap3 (S : SOk σ) (T : mi σ t) (ho : t.x.op = 1) (hat : t.at' = 3) : Sp bp [vp x, vi now] (yT x P t * aM P σ) (fun _ : Unit => vb (ax σ t now).2.2) (fun _ => yU x P (ax σ t now) * aM P (ax σ t now).1) := by
 have hN : σ.μ.N < 1099511627000 := by have := S.N; omega
 refine aK fun R H h => ?_;obtain ⟨k, g, hR, hg, h0⟩ := jL h;have hl := hg.1;have ha := hR.1;obtain ⟨hI, hfr⟩ := hR.2.1 (by omega);have hi := T.i (by omega);refine KY x P g σ t k now S T ho (by omega) h0 fun H1 h1 => ?_;refine ah (dF ..) ?_;refine aa (bo (by omega)) ?_;refine ah (dG ..) ?_;refine gs ?_;refine af h1 (N8 x P g σ t k S T hI hfr hi) fun _ H2 h2 => ?_;obtain ⟨k2, hk2⟩ : ∃ k2 : Xk, k2 = tS σ t k := ⟨_, rfl⟩;rw [← hk2] at h2;refine aa (v := vb (aC σ t).found) rfl ?_;refine aa (v := vb (!(aC σ t).found && decide (σ.c.sl ≤ ((t.i + 1 : Nat) : Int)))) rfl ?_;refine ah (oU ..) ?_
 cases hfd : (aC σ t).found with
 | true =>
  refine gs ?_;refine af h2 (jJ x P g (aW σ t) t (k2) (az (σ := σ) hg (by simp) rfl) now 6 (by have := S.N; show σ.μ.N + 2 < _; omega) S.pts) fun v H3 h3 => ?_;refine bj h3 ac rfl rfl fun H4 h4 => ?_;refine ah (cB ..) ?_;exact aq (ij (g := { g with pv := v }) (k := { k2 with a := 6, code := 6 }) (σ' := (aW σ t).note now t.who 6) (t' := { aC σ t with at' := 6, code := 6 }) (by simp only [ax, hat]; rw [if_pos hfd, if_pos ho]) (K4 rfl ho (by simp) (by simp) (by simp) (by simp)) (dK (σ := σ) hg (by simp) rfl) (show ae (xB x P t ({ k2 with a := 6, code := 6 }) * (aw P ({ g with pv := v }) ((aW σ t).note now t.who 6) * R)) _ from h4.to))
 | false =>
  rw [Bool.not_false, Bool.true_and]
  have hli : (aC σ t).i = t.i + 1 := by
   show (if (aC σ t).found = true then t.i else t.i + 1) = _;rw [if_neg (by rw [hfd]; simp)]
  have hla : bO σ (aC σ t) = decide (σ.c.sl ≤ ((t.i + 1 : Nat) : Int)) := by unfold bO; rw [hli]
  have nf : ¬ (aC σ t).found = true := by rw [hfd]; simp
  by_cases hL : σ.c.sl ≤ ((t.i + 1 : Nat) : Int)
  ·have hla' : bO σ (aC σ t) = true := hla.trans (d4 hL)
   rw [d4 hL];refine gs ?_;refine ap h2 ac (show _ = some (vi (aC σ t).mark) from by rw [hk2]; rfl) ?_;refine gs ?_
   by_cases hm : (aC σ t).mark < 0
   ·refine aa (cz hm) ?_
    refine gs ?_;refine af h2 (jJ x P g (aW σ t) t (k2) (az (σ := σ) hg (by simp) rfl) now 7 (by have := S.N; show σ.μ.N + 2 < _; omega) S.pts) fun v H3 h3 => ?_;refine bj h3 ac rfl rfl fun H4 h4 => ?_;refine ah (cB ..) ?_;exact aq (ij (g := { g with pv := v }) (k := { k2 with a := 6, code := 7 }) (σ' := (aW σ t).note now t.who 7) (t' := { aC σ t with at' := 6, code := 7 }) (by simp only [ax, hat]; rw [if_neg nf, if_pos hla', if_pos ho, if_pos hm]) (K4 rfl ho (by simp) (by simp) (by simp) (by simp)) (dK (σ := σ) hg (by simp) rfl) (show ae (xB x P t ({ k2 with a := 6, code := 7 }) * (aw P ({ g with pv := v }) ((aW σ t).note now t.who 7) * R)) _ from h4.to))
   ·refine aa (bW hm) ?_
    refine gs ?_;refine bj h2 ac rfl rfl fun H4 h4 => ?_;refine ah (cB ..) ?_;exact aq (ij (g := g) (k := { k2 with a := 4 }) (σ' := aW σ t) (t' := { aC σ t with at' := 4 }) (by simp only [ax, hat]; rw [if_neg nf, if_pos hla', if_pos ho, if_neg hm]) (K4 rfl ho (by simp) (fun _ => by rw [hk2]; rfl) (by simp) (by simp)) (az (σ := σ) hg (by simp) rfl) (show ae (xB x P t ({ k2 with a := 4 }) * (aw P (g) (aW σ t) * R)) _ from h4.to))
  ·have hla' : ¬ bO σ (aC σ t) = true := by rw [hla, d6 hL]; simp
   rw [d6 hL];refine gs ?_;refine ah (cB ..) ?_;exact aq (ij (g := g) (k := k2) (σ' := aW σ t) (t' := aC σ t) (by simp only [ax, hat]; rw [if_neg nf, if_neg hla']) (BR (by rw [hk2]; show k.a = t.at'; exact ha) (by show t.at' < 4; omega) ⟨by rw [hk2]; rfl, by rw [hk2]; rfl⟩) (az (σ := σ) hg (by simp) rfl) (show ae (xB x P t (k2) * (aw P (g) (aW σ t) * R)) _ from h2.to))
theorem ap4 (S : SOk σ) (T : mi σ t) (ho : t.x.op = 1) (hat : t.at' = 4) : Sp bp [vp x, vi now] (yT x P t * aM P σ) (fun _ : Unit => vb (ax σ t now).2.2) (fun _ => yU x P (ax σ t now) * aM P (ax σ t now).1) := by
 have hN : σ.μ.N < 1099511627000 := by have := S.N; omega
 refine aK fun R H h => ?_;obtain ⟨k, g, hR, hg, h0⟩ := jL h;have hl := hg.1;have ha := hR.1;have hfr := (hR.2.2.1 ho).1 (.inl hat);have hx := wW (T.x (by omega));have hc := bD.1 S.c
 have hst : ax σ t now = (σ.make t.who (obR σ t), { t with obj := σ.obs.length, at' := 5 }, false) := by rw [lP σ t now ho (by omega)]; simp only [wX, hat]
 refine KY x P g σ t k now S T ho (by omega) h0 fun H1 h1 => ?_;refine ah (dF ..) ?_;refine aa (aG (by omega)) ?_;refine ah (dG ..) ?_;refine gs ?_;refine aa (bo (by omega)) ?_;refine gs ?_;refine ap h1 (ci (aP (aP be))) rfl ?_;refine ap h1 (ci (aP (aP be))) rfl ?_;refine af h1 (zI σ.c.un t.x.a (by omega) (hx.2 ho).1) fun _ H2 h2 => ?_;refine aa (v := vu (max (σ.c.un / t.x.a.toNat) 1)) rfl ?_;refine aa (v := vb true) rfl ?_;refine ap h2 ac rfl ?_;refine ap h2 (ci (aP (aP be))) rfl ?_;refine ap h2 (ci (aP (aP be))) rfl ?_;refine je ?_;have h3 := dc (p := P) (σ := σ) (R := xB x P t k * R) g hg h2.to;refine af h3 (anF P σ t.who (obR σ t) hN (by have := S.obs; omega)) fun _ H4 h4 => ?_;obtain ⟨g', hg', h5⟩ := fc (p := P) (σ := σ.make t.who (obR σ t)) (R := xB x P t k * R) (H := H4) h4.to;refine bj h5 ac rfl rfl fun H6 h6 => ?_;refine bj h6 ac rfl rfl fun H7 h7 => ?_;refine ah (cB ..) ?_;exact aq (ij (g := g') (k := { k with obj := σ.obs.length, a := 5 }) (σ' := σ.make t.who (obR σ t)) (t' := { t with obj := σ.obs.length, at' := 5 }) (hst) (K4 rfl ho (by simp) (fun _ => hfr) (by simp) (by simp)) hg' (show ae (xB x P t ({ k with obj := σ.obs.length, a := 5 }) * (aw P (g') (σ.make t.who (obR σ t)) * R)) _ from h7.to))
theorem ap5 (S : SOk σ) (T : mi σ t) (ho : t.x.op = 1) (hat : t.at' = 5) : Sp bp [vp x, vi now] (yT x P t * aM P σ) (fun _ : Unit => vb (ax σ t now).2.2) (fun _ => yU x P (ax σ t now) * aM P (ax σ t now).1) := by
 have hN : σ.μ.N < 1099511627000 := by have := S.N; omega
 refine aK fun R H h => ?_;obtain ⟨k, g, hR, hg, h0⟩ := jL h;have hl := hg.1;have ha := hR.1;have hfm := (hR.2.2.1 ho).1 (.inr hat);have hko := (hR.2.2.1 ho).2.1 hat;have hx := wW (T.x (by omega));have hob := T.obj (.inl ⟨hat, ho⟩);have hso := S.obs
 have hst : ax σ t now = ((σ.mem ((σ.μ.acc t.who 2 (10, t.s, t.mark)).put (10, t.s, t.mark) (dk t.x.flow t.obj))).note now t.who 0, { t with at' := 6, code := 0 }, false) := by rw [lP σ t now ho (by omega)]; simp only [wX, hat]
 refine KY x P g σ t k now S T ho (by omega) h0 fun H1 h1 => ?_;refine ah (dF ..) ?_;refine aa (aG (by omega)) ?_;refine ah (dG ..) ?_;refine gs ?_;refine aa (aG (by omega)) ?_;refine gs ?_;refine aa (bo (by omega)) ?_;refine gs ?_;refine ap h1 ac rfl ?_;refine ap h1 ac rfl ?_;refine ap h1 ac rfl ?_;refine ap h1 (ci (aP (aP be))) rfl ?_;refine ap h1 ac rfl ?_;rw [hfm, hko];refine af h1 (oY (p := P) (g := g) (σ := σ) (μ' := (σ.μ.acc t.who 2 (10, t.s, t.mark)).put (10, t.s, t.mark) (dk t.x.flow t.obj)) (by simp) (UJ g.tb g.m σ.c.sh.toNat σ.c.sl.toNat σ.μ t.who t.s t.mark t.x.flow t.obj hN hx.1 (by omega))) fun _ H2 h2 => ?_;refine af h2 (jJ x P g (σ.mem ((σ.μ.acc t.who 2 (10, t.s, t.mark)).put (10, t.s, t.mark) (dk t.x.flow t.obj))) t (k) (az (σ := σ) hg (by simp) rfl) now 0 (by have := S.N; show σ.μ.N + 2 < _; omega) S.pts) fun v H3 h3 => ?_;refine bj h3 ac rfl rfl fun H4 h4 => ?_;refine ah (cB ..) ?_;exact aq (ij (g := { g with pv := v }) (k := { k with a := 6, code := 0 }) (σ' := (σ.mem ((σ.μ.acc t.who 2 (10, t.s, t.mark)).put (10, t.s, t.mark) (dk t.x.flow t.obj))).note now t.who 0) (t' := { t with at' := 6, code := 0 }) (hst) (K4 rfl ho (by simp) (by simp) (by simp) (by simp)) (dK (σ := σ) hg (by simp) rfl) (show ae (xB x P t ({ k with a := 6, code := 0 }) * (aw P ({ g with pv := v }) ((σ.mem ((σ.μ.acc t.who 2 (10, t.s, t.mark)).put (10, t.s, t.mark) (dk t.x.flow t.obj))).note now t.who 0) * R)) _ from h4.to))
theorem ap6 (S : SOk σ) (T : mi σ t) (ho : t.x.op = 1) (hat : t.at' = 6) : Sp bp [vp x, vi now] (yT x P t * aM P σ) (fun _ : Unit => vb (ax σ t now).2.2) (fun _ => yU x P (ax σ t now) * aM P (ax σ t now).1) := by
 have hN : σ.μ.N < 1099511627000 := by have := S.N; omega
 refine aK fun R H h => ?_;obtain ⟨k, g, hR, hg, h0⟩ := jL h;have hl := hg.1;have ha := hR.1
 have hst : ax σ t now = (iP σ t, t, true) := by rw [lP σ t now ho (by omega)]; simp only [wX, hat]
 have hto : k.code = t.code := (hR.2.2.1 ho).2.2 hat;refine KY x P g σ t k now S T ho (by omega) h0 fun H1 h1 => ?_;refine ah (dF ..) ?_;refine aa (aG (by omega)) ?_;refine ah (dG ..) ?_;refine gs ?_;refine aa (aG (by omega)) ?_;refine gs ?_;refine aa (aG (by omega)) ?_;refine gs ?_;refine ap h1 ac rfl ?_;refine ap h1 ac rfl ?_;refine af h1 (oY (p := P) (g := g) (σ := σ) (μ' := (σ.μ.acc t.who 2 (8, t.s, 0)).put (8, t.s, 0) 0) (by simp) (uL g.tb g.m σ.c.sh.toNat σ.c.sl.toNat σ.μ t.who t.s hN)) fun _ H2 h2 => ?_;exact aq (RO (g := g) (k := k) (σ' := iP σ t) (t' := t) hst hto (az (σ := σ) hg (by simp) rfl) (show ae (xB x P t k * (aw P g (iP σ t) * R)) H2 from h2.to))
theorem amN (S : SOk σ) (T : mi σ t) (ho : t.x.op ≠ 1) (hat : t.at' = 10) : Sp bp [vp x, vi now] (yT x P t * aM P σ) (fun _ : Unit => vb (ax σ t now).2.2) (fun _ => yU x P (ax σ t now) * aM P (ax σ t now).1) := by
 have hN : σ.μ.N < 1099511627000 := by have := S.N; omega
 refine aK fun R H h => ?_;obtain ⟨k, g, hR, hg, h0⟩ := jL h;have hl := hg.1;have ha := hR.1
 have hst : ax σ t now = (iP σ t, t, true) := by rw [bS σ t now ho (by omega)]; simp only [ei, hat]
 have hto : k.code = t.code := (hR.2.2.2 ho).2.2.2.2 (.inr hat);refine ss x P g σ t k now S T ho (by omega) h0 fun H1 h1 => ?_;refine ah (cy ..) ?_;refine aa (aG (by omega)) ?_;refine gs ?_;refine aa (aG (by omega)) ?_;refine gs ?_;refine aa (aG (by omega)) ?_;refine gs ?_;refine aa (aG (by omega)) ?_;refine gs ?_;refine aa (aG (by omega)) ?_;refine gs ?_;refine aa (aG (by omega)) ?_;refine gs ?_;refine aa (aG (by omega)) ?_;refine gs ?_;refine ap h1 ac rfl ?_;refine ap h1 ac rfl ?_;refine af h1 (oY (p := P) (g := g) (σ := σ) (μ' := (σ.μ.acc t.who 2 (8, t.s, 0)).put (8, t.s, 0) 0) (by simp) (uL g.tb g.m σ.c.sh.toNat σ.c.sl.toNat σ.μ t.who t.s hN)) fun _ H2 h2 => ?_;exact aq (RO (g := g) (k := k) (σ' := iP σ t) (t' := t) hst hto (az (σ := σ) hg (by simp) rfl) (show ae (xB x P t k * (aw P g (iP σ t) * R)) H2 from h2.to))
theorem apW (S : SOk σ) (T : mi σ t) (ho : t.x.op ≠ 1) (hat : t.at' = 3) : Sp bp [vp x, vi now] (yT x P t * aM P σ) (fun _ : Unit => vb (ax σ t now).2.2) (fun _ => yU x P (ax σ t now) * aM P (ax σ t now).1) := by
 have hN : σ.μ.N < 1099511627000 := by have := S.N; omega
 refine aK fun R H h => ?_;obtain ⟨k, g, hR, hg, h0⟩ := jL h;have hl := hg.1;have ha := hR.1;obtain ⟨hI, hfr⟩ := hR.2.1 (by omega);have hi := T.i (by omega);refine ss x P g σ t k now S T ho (by omega) h0 fun H1 h1 => ?_;refine ah (cy ..) ?_;refine aa (bo (by omega)) ?_;refine gs ?_;refine af h1 (N8 x P g σ t k S T hI hfr hi) fun _ H2 h2 => ?_;obtain ⟨k2, hk2⟩ : ∃ k2 : Xk, k2 = tS σ t k := ⟨_, rfl⟩;rw [← hk2] at h2;refine aa (v := vb (aC σ t).found) rfl ?_;refine aa (v := vb (!(aC σ t).found && decide (σ.c.sl ≤ ((t.i + 1 : Nat) : Int)))) rfl ?_
 cases hfd : (aC σ t).found with
 | true =>
  refine gs ?_;refine bj h2 ac rfl rfl fun H4 h4 => ?_;refine ah (bq ..) ?_;exact aq (ij (g := g) (k := { k2 with a := 4 }) (σ' := aW σ t) (t' := { aC σ t with at' := 4 }) (by simp only [ax, hat]; rw [if_pos hfd, if_neg ho]) (tv rfl ho (by simp) (by rw [hk2]; rfl) (by rw [hk2]; show (if (aC σ t).found = true then (aC σ t).obj else k.obj) = (aC σ t).obj; rw [if_pos hfd]) (by simp) (by simp) (by simp) (by simp)) (az (σ := σ) hg (by simp) rfl) (show ae (xB x P t ({ k2 with a := 4 }) * (aw P (g) (aW σ t) * R)) _ from h4.to))
 | false =>
  rw [Bool.not_false, Bool.true_and];refine gs ?_
  have hli : (aC σ t).i = t.i + 1 := by
   show (if (aC σ t).found = true then t.i else t.i + 1) = _;rw [if_neg (by rw [hfd]; simp)]
  have hla : bO σ (aC σ t) = decide (σ.c.sl ≤ ((t.i + 1 : Nat) : Int)) := by unfold bO; rw [hli]
  have nf : ¬ (aC σ t).found = true := by rw [hfd]; simp
  by_cases hL : σ.c.sl ≤ ((t.i + 1 : Nat) : Int)
  ·have hla' : bO σ (aC σ t) = true := hla.trans (d4 hL)
   rw [d4 hL];refine gs ?_;refine af h2 (jJ x P g (aW σ t) t (k2) (az (σ := σ) hg (by simp) rfl) now 5 (by have := S.N; show σ.μ.N + 2 < _; omega) S.pts) fun v H3 h3 => ?_;refine bj h3 ac rfl rfl fun H4 h4 => ?_;refine ah (bq ..) ?_;exact aq (ij (g := { g with pv := v }) (k := { k2 with a := 10, code := 5 }) (σ' := (aW σ t).note now t.who 5) (t' := { aC σ t with at' := 10, code := 5 }) (by simp only [ax, hat]; rw [if_neg nf, if_pos hla', if_neg ho]) (ZR rfl ho rfl rfl) (dK (σ := σ) hg (by simp) rfl) (show ae (xB x P t ({ k2 with a := 10, code := 5 }) * (aw P ({ g with pv := v }) ((aW σ t).note now t.who 5) * R)) _ from h4.to))
  ·have hla' : ¬ bO σ (aC σ t) = true := by rw [hla, d6 hL]; simp
   rw [d6 hL];refine gs ?_;refine ah (bq ..) ?_;exact aq (ij (g := g) (k := k2) (σ' := aW σ t) (t' := aC σ t) (by simp only [ax, hat]; rw [if_neg nf, if_neg hla']) (BR (by rw [hk2]; show k.a = t.at'; exact ha) (by show t.at' < 4; omega) ⟨by rw [hk2]; rfl, by rw [hk2]; rfl⟩) (az (σ := σ) hg (by simp) rfl) (show ae (xB x P t (k2) * (aw P (g) (aW σ t) * R)) _ from h2.to))
theorem apX (S : SOk σ) (T : mi σ t) (ho : t.x.op ≠ 1) (hat : t.at' = 4) : Sp bp [vp x, vi now] (yT x P t * aM P σ) (fun _ : Unit => vb (ax σ t now).2.2) (fun _ => yU x P (ax σ t now) * aM P (ax σ t now).1) := by
 have hN : σ.μ.N < 1099511627000 := by have := S.N; omega
 refine aK fun R H h => ?_;obtain ⟨k, g, hR, hg, h0⟩ := jL h;have hl := hg.1;have ha := hR.1;obtain ⟨hI, hko⟩ := (hR.2.2.2 ho).1 (by omega) (by omega);have hob := T.obj (.inr ⟨by omega, by omega, ho⟩)
 have hob' : k.obj < σ.obs.length := by omega
 obtain ⟨b, hb⟩ : ∃ b, g.rp[k.obj]? = some b := ⟨_, cT (by omega)⟩;refine ss x P g σ t k now S T ho (by omega) h0 fun H1 h1 => ?_;refine ah (cy ..) ?_;refine aa (aG (by omega)) ?_;refine gs ?_;refine aa (bo (by omega)) ?_;refine gs ?_;refine bj h1 ac rfl rfl fun H2 h2 => ?_;refine af h2 (BP x P g σ t { k with a := 5 } S hl b hob' hb) fun _ H3 h3 => ?_;dsimp only at h3;rw [hko] at h3
 by_cases hw : ba (σ.μ.V (11, (t.obj : Int), 0)) = 0
 ·refine aa (bo (by rw [hko]; exact hw)) ?_
  refine gs ?_;refine bj h3 ac rfl rfl fun H4 h4 => ?_;refine ah (bq ..) ?_;exact aq (ij (g := g) (k := { k with a := 8, obj := t.obj, w := σ.μ.V (11, (t.obj : Int), 0) }) (σ' := dh σ t) (t' := { t with w := σ.μ.V (11, (t.obj : Int), 0), at' := 8 }) (by rw [bS σ t now ho (by omega)]; simp only [ei, hat]; rw [if_pos hw]) (tv rfl ho (by simp) hI rfl (by simp) (by simp) (fun _ => rfl) (by simp)) (az (σ := σ) hg (by simp) rfl) (show ae (xB x P t ({ k with a := 8, obj := t.obj, w := σ.μ.V (11, (t.obj : Int), 0) }) * (aw P (g) (dh σ t) * R)) _ from h4.to))
 ·refine aa (aG (by rw [hko]; exact hw)) ?_
  refine gs ?_;refine ah (bq ..) ?_;exact aq (ij (g := g) (k := { k with a := 5, obj := t.obj, w := σ.μ.V (11, (t.obj : Int), 0) }) (σ' := dh σ t) (t' := { t with w := σ.μ.V (11, (t.obj : Int), 0), at' := 5 }) (by rw [bS σ t now ho (by omega)]; simp only [ei, hat]; rw [if_neg hw]) (tv rfl ho (by simp) hI rfl (by simp) (by simp) (by simp) (by simp)) (az (σ := σ) hg (by simp) rfl) (show ae (xB x P t ({ k with a := 5, obj := t.obj, w := σ.μ.V (11, (t.obj : Int), 0) }) * (aw P (g) (dh σ t) * R)) _ from h3.to))
theorem apY (S : SOk σ) (T : mi σ t) (ho : t.x.op ≠ 1) (hat : t.at' = 5) : Sp bp [vp x, vi now] (yT x P t * aM P σ) (fun _ : Unit => vb (ax σ t now).2.2) (fun _ => yU x P (ax σ t now) * aM P (ax σ t now).1) := by
 have hN : σ.μ.N < 1099511627000 := by have := S.N; omega
 refine aK fun R H h => ?_;obtain ⟨k, g, hR, hg, h0⟩ := jL h;have hl := hg.1;have ha := hR.1;obtain ⟨hI, hko⟩ := (hR.2.2.2 ho).1 (by omega) (by omega);have hob := T.obj (.inr ⟨by omega, by omega, ho⟩)
 have hob' : k.obj < σ.obs.length := by omega
 obtain ⟨b, hb⟩ : ∃ b, g.rp[k.obj]? = some b := ⟨_, cT (by omega)⟩;refine ss x P g σ t k now S T ho (by omega) h0 fun H1 h1 => ?_;refine ah (cy ..) ?_;refine aa (aG (by omega)) ?_;refine gs ?_;refine aa (aG (by omega)) ?_;refine gs ?_;refine aa (bo (by omega)) ?_;refine gs ?_;refine ap h1 ac rfl ?_;refine af h1 (pT P g σ t.who S.N) fun _ H2 h2 => ?_;refine bj h2 ac rfl rfl fun H3 h3 => ?_;refine bj h3 ac rfl rfl fun H4 h4 => ?_;refine ap h4 ac rfl ?_;refine aa (Hk 2 (by omega)) ?_
 by_cases hw : σ.μ.V (2, 0, 0) % 2 = 1
 ·refine aa (bo (show ((σ.μ.V (2, 0, 0) % 2 : Nat) : Int) = 1 by omega)) ?_
  refine gs ?_;refine bj h4 ac rfl rfl fun H5 h5 => ?_;refine ah (bq ..) ?_;exact aq (ij (g := g) (k := { k with a := 4, q := σ.μ.V (2, 0, 0) }) (σ' := ez σ t) (t' := { t with q := σ.μ.V (2, 0, 0), at' := 4 }) (by rw [bS σ t now ho (by omega)]; simp only [ei, hat]; rw [if_pos hw]) (tv rfl ho (by simp) hI hko (by simp) (by simp) (by simp) (by simp)) (az (σ := σ) hg (by simp) rfl) (show ae (xB x P t ({ k with a := 4, q := σ.μ.V (2, 0, 0) }) * (aw P (g) (ez σ t) * R)) _ from h5.to))
 ·refine aa (aG (show ¬ ((σ.μ.V (2, 0, 0) % 2 : Nat) : Int) = 1 by omega)) ?_
  refine gs ?_;refine ah (bq ..) ?_;exact aq (ij (g := g) (k := { k with a := 6, q := σ.μ.V (2, 0, 0) }) (σ' := ez σ t) (t' := { t with q := σ.μ.V (2, 0, 0), at' := 6 }) (by rw [bS σ t now ho (by omega)]; simp only [ei, hat]; rw [if_neg hw]) (tv rfl ho (by simp) hI hko (fun _ => rfl) (by simp) (by simp) (by simp)) (az (σ := σ) hg (by simp) rfl) (show ae (xB x P t ({ k with a := 6, q := σ.μ.V (2, 0, 0) }) * (aw P (g) (ez σ t) * R)) _ from h4.to))
theorem apZ (S : SOk σ) (T : mi σ t) (ho : t.x.op ≠ 1) (hat : t.at' = 6) : Sp bp [vp x, vi now] (yT x P t * aM P σ) (fun _ : Unit => vb (ax σ t now).2.2) (fun _ => yU x P (ax σ t now) * aM P (ax σ t now).1) := by
 have hN : σ.μ.N < 1099511627000 := by have := S.N; omega
 refine aK fun R H h => ?_;obtain ⟨k, g, hR, hg, h0⟩ := jL h;have hl := hg.1;have ha := hR.1;obtain ⟨hI, hko⟩ := (hR.2.2.2 ho).1 (by omega) (by omega);have hob := T.obj (.inr ⟨by omega, by omega, ho⟩)
 have hob' : k.obj < σ.obs.length := by omega
 obtain ⟨b, hb⟩ : ∃ b, g.rp[k.obj]? = some b := ⟨_, cT (by omega)⟩;have hkq := (hR.2.2.2 ho).2.1 (.inl hat);refine ss x P g σ t k now S T ho (by omega) h0 fun H1 h1 => ?_;refine ah (cy ..) ?_;refine aa (aG (by omega)) ?_;refine gs ?_;refine aa (aG (by omega)) ?_;refine gs ?_;refine aa (aG (by omega)) ?_;refine gs ?_;refine aa (bo (by omega)) ?_;refine gs ?_;refine bj h1 ac rfl rfl fun H2 h2 => ?_;refine bj h2 ac rfl rfl fun H5 h5 => ?_;refine af h5 (BP x P g σ t { k with a := 7, mark := now } S hl b hob' hb) fun _ H3 h3 => ?_;dsimp only at h3;rw [hko] at h3
 by_cases hw : ba (σ.μ.V (11, (t.obj : Int), 0)) = 0
 ·refine aa (bo (by rw [hko]; exact hw)) ?_
  refine gs ?_;refine bj h3 ac rfl rfl fun H4 h4 => ?_;refine ah (bq ..) ?_;exact aq (ij (g := g) (k := { k with a := 8, mark := now, obj := t.obj, w := σ.μ.V (11, (t.obj : Int), 0) }) (σ' := dh σ t) (t' := { t with w := σ.μ.V (11, (t.obj : Int), 0), mark := now, at' := 8 }) (by rw [bS σ t now ho (by omega)]; simp only [ei, hat]; rw [if_pos hw]) (tv rfl ho (by simp) hI rfl (by simp) (by simp) (fun _ => rfl) (by simp)) (az (σ := σ) hg (by simp) rfl) (show ae (xB x P t ({ k with a := 8, mark := now, obj := t.obj, w := σ.μ.V (11, (t.obj : Int), 0) }) * (aw P (g) (dh σ t) * R)) _ from h4.to))
 ·refine aa (aG (by rw [hko]; exact hw)) ?_
  refine gs ?_;refine ah (bq ..) ?_;exact aq (ij (g := g) (k := { k with a := 7, mark := now, obj := t.obj, w := σ.μ.V (11, (t.obj : Int), 0) }) (σ' := dh σ t) (t' := { t with w := σ.μ.V (11, (t.obj : Int), 0), mark := now, at' := 7 }) (by rw [bS σ t now ho (by omega)]; simp only [ei, hat]; rw [if_neg hw]) (tv rfl ho (by simp) hI rfl (fun _ => hkq) (fun _ => rfl) (by simp) (by simp)) (az (σ := σ) hg (by simp) rfl) (show ae (xB x P t ({ k with a := 7, mark := now, obj := t.obj, w := σ.μ.V (11, (t.obj : Int), 0) }) * (aw P (g) (dh σ t) * R)) _ from h3.to))
theorem ap0 (S : SOk σ) (T : mi σ t) (ho : t.x.op ≠ 1) (hat : t.at' = 7) : Sp bp [vp x, vi now] (yT x P t * aM P σ) (fun _ : Unit => vb (ax σ t now).2.2) (fun _ => yU x P (ax σ t now) * aM P (ax σ t now).1) := by
 have hN : σ.μ.N < 1099511627000 := by have := S.N; omega
 refine aK fun R H h => ?_;obtain ⟨k, g, hR, hg, h0⟩ := jL h;have hl := hg.1;have ha := hR.1;obtain ⟨hI, hko⟩ := (hR.2.2.2 ho).1 (by omega) (by omega);have hob := T.obj (.inr ⟨by omega, by omega, ho⟩)
 have hob' : k.obj < σ.obs.length := by omega
 obtain ⟨b, hb⟩ : ∃ b, g.rp[k.obj]? = some b := ⟨_, cT (by omega)⟩;have hkq := (hR.2.2.2 ho).2.1 (.inr hat);have hkm := (hR.2.2.2 ho).2.2.1 hat;refine ss x P g σ t k now S T ho (by omega) h0 fun H1 h1 => ?_;refine ah (cy ..) ?_;refine aa (aG (by omega)) ?_;refine gs ?_;refine aa (aG (by omega)) ?_;refine gs ?_;refine aa (aG (by omega)) ?_;refine gs ?_;refine aa (aG (by omega)) ?_;refine gs ?_;refine aa (bo (by omega)) ?_;refine gs ?_;refine bj h1 ac rfl rfl fun H2 h2 => ?_;refine ap h2 ac rfl ?_;refine af h2 (pT P g σ t.who S.N) fun _ H3 h3' => ?_;refine bE ac ?_;refine aQ h3' rfl ?_;refine aJ h2 h3' (by rfl) ?_;rw [hkq]
 by_cases hw : σ.μ.V (2, 0, 0) = t.q
 ·refine aa (bo (show ((σ.μ.V (2, 0, 0) : Nat) : Int) = (t.q : Int) by omega)) ?_
  refine gs ?_;refine ap h3' ac rfl ?_;rw [hkm];refine af h3' (jJ x P g (ez σ t) t ({ k with a := 4 }) (az (σ := σ) hg (by simp) rfl) t.mark 8 (by have := S.N; show σ.μ.N + 2 < _; omega) S.pts) fun v H3 h3 => ?_;refine bj h3 ac rfl rfl fun H4 h4 => ?_;refine ah (bq ..) ?_;exact aq (ij (g := { g with pv := v }) (k := { k with a := 10, code := 8 }) (σ' := (ez σ t).note t.mark t.who 8) (t' := { t with at' := 10, code := 8 }) (by rw [bS σ t now ho (by omega)]; simp only [ei, hat]; rw [if_pos hw]) (ZR rfl ho rfl rfl) (dK (σ := σ) hg (by simp) rfl) (show ae (xB x P t ({ k with a := 10, code := 8 }) * (aw P ({ g with pv := v }) ((ez σ t).note t.mark t.who 8) * R)) _ from h4.to))
 ·refine aa (aG (show ¬ ((σ.μ.V (2, 0, 0) : Nat) : Int) = (t.q : Int) by omega)) ?_
  refine gs ?_;refine ah (bq ..) ?_;exact aq (ij (g := g) (k := { k with a := 4 }) (σ' := ez σ t) (t' := { t with at' := 4 }) (by rw [bS σ t now ho (by omega)]; simp only [ei, hat]; rw [if_neg hw]) (tv rfl ho (by simp) hI hko (by simp) (by simp) (by simp) (by simp)) (az (σ := σ) hg (by simp) rfl) (show ae (xB x P t ({ k with a := 4 }) * (aw P (g) (ez σ t) * R)) _ from h3'.to))
theorem ap1 (S : SOk σ) (T : mi σ t) (ho : t.x.op ≠ 1) (hat : t.at' = 8) : Sp bp [vp x, vi now] (yT x P t * aM P σ) (fun _ : Unit => vb (ax σ t now).2.2) (fun _ => yU x P (ax σ t now) * aM P (ax σ t now).1) := by
 have hN : σ.μ.N < 1099511627000 := by have := S.N; omega
 refine aK fun R H h => ?_;obtain ⟨k, g, hR, hg, h0⟩ := jL h;have hl := hg.1;have ha := hR.1;obtain ⟨hI, hko⟩ := (hR.2.2.2 ho).1 (by omega) (by omega);have hob := T.obj (.inr ⟨by omega, by omega, ho⟩)
 have hob' : k.obj < σ.obs.length := by omega
 obtain ⟨b, hb⟩ : ∃ b, g.rp[k.obj]? = some b := ⟨_, cT (by omega)⟩;have hkw := (hR.2.2.2 ho).2.2.2.1 hat
 have leT : σ.μ.N ≤ (σ.μ.turn t.who t.obj t.w (aY t.w 2)).N := by
  cases aY t.w 2 with
  | none => exact bB _
  | some n => show σ.μ.N ≤ σ.μ.N + 2; omega
 have leN : (σ.μ.turn t.who t.obj t.w (aY t.w 2)).N ≤ σ.μ.N + 2 := by
  cases aY t.w 2 with
  | none => show σ.μ.N ≤ σ.μ.N + 2; omega
  | some n => exact bB _
 refine ss x P g σ t k now S T ho (by omega) h0 fun H1 h1 => ?_;refine ah (cy ..) ?_;refine aa (aG (by omega)) ?_;refine gs ?_;refine aa (aG (by omega)) ?_;refine gs ?_;refine aa (aG (by omega)) ?_;refine gs ?_;refine aa (aG (by omega)) ?_;refine gs ?_;refine aa (aG (by omega)) ?_;refine gs ?_;refine aa (bo (by omega)) ?_;refine gs ?_;refine bj h1 ac rfl rfl fun H2 h2 => ?_;refine af h2 (jK x P g σ t { k with a := 4 } hl b hob' hb) fun _ H3 h3 => ?_;refine bE ac ?_;refine aQ h3 rfl ?_;refine aJ h2 h3 (by rfl) ?_;refine bE ac ?_;refine aQ h3 rfl ?_;refine aJ h2 h3 (by rfl) ?_;rw [hkw];refine af h3 (mj (p := P) (μ' := σ.μ.turn t.who t.obj t.w (aY t.w 2)) leT hl hob' hb (by rw [hko]; exact FC g.m t.obj b (ay σ t.obj) σ.μ t.who t.w 2 (by omega) T.w hN)) fun _ H5 h5 => ?_;cases hw : fi σ.μ t.obj t.w (aY t.w 2)
 ·refine gs ?_
  refine ah (bq ..) ?_;exact aq (ij (g := g) (k := { k with a := 4 }) (σ' := σ.mem (σ.μ.turn t.who t.obj t.w (aY t.w 2))) (t' := { t with at' := 4 }) (by rw [bS σ t now ho (by omega)]; simp only [ei, hat]; rw [if_neg (by rw [hw]; simp)]) (tv rfl ho (by simp) hI hko (by simp) (by simp) (by simp) (by simp)) (az (σ := σ) hg leT rfl) (show ae (xB x P t ({ k with a := 4 }) * (aw P (g) (σ.mem (σ.μ.turn t.who t.obj t.w (aY t.w 2))) * R)) _ from h5.to))
 ·refine gs ?_
  refine af h5 (jJ x P g (σ.mem (σ.μ.turn t.who t.obj t.w (aY t.w 2))) t { k with a := 4 } (az (σ := σ) hg leT rfl) now 0 (by have := S.N; show (σ.μ.turn t.who t.obj t.w (aY t.w 2)).N < _; omega) S.pts) fun v H6 h6 => ?_;refine bj h6 ac rfl rfl fun H7 h7 => ?_;refine ah (bq ..) ?_;exact aq (ij (g := { g with pv := v }) (k := { k with a := 9, code := 0 }) (σ' := (σ.mem (σ.μ.turn t.who t.obj t.w (aY t.w 2))).note now t.who 0) (t' := { t with at' := 9, code := 0 }) (by rw [bS σ t now ho (by omega)]; simp only [ei, hat]; rw [if_pos hw]) (tv rfl ho (by simp) hI hko (by simp) (by simp) (by simp) (fun _ => rfl)) (dK (σ := σ) hg leT rfl) (show ae (xB x P t ({ k with a := 9, code := 0 }) * (aw P ({ g with pv := v }) ((σ.mem (σ.μ.turn t.who t.obj t.w (aY t.w 2))).note now t.who 0) * R)) _ from h7.to))
theorem ap2 (S : SOk σ) (T : mi σ t) (ho : t.x.op ≠ 1) (hat : t.at' = 9) : Sp bp [vp x, vi now] (yT x P t * aM P σ) (fun _ : Unit => vb (ax σ t now).2.2) (fun _ => yU x P (ax σ t now) * aM P (ax σ t now).1) := by
 have hN : σ.μ.N < 1099511627000 := by have := S.N; omega
 refine aK fun R H h => ?_;obtain ⟨k, g, hR, hg, h0⟩ := jL h;have hl := hg.1;have ha := hR.1;obtain ⟨hI, hko⟩ := (hR.2.2.2 ho).1 (by omega) (by omega);have hob := T.obj (.inr ⟨by omega, by omega, ho⟩)
 have hob' : k.obj < σ.obs.length := by omega
 obtain ⟨b, hb⟩ : ∃ b, g.rp[k.obj]? = some b := ⟨_, cT (by omega)⟩;have hkc := (hR.2.2.2 ho).2.2.2.2 (.inl hat);refine ss x P g σ t k now S T ho (by omega) h0 fun H1 h1 => ?_;refine ah (cy ..) ?_;refine aa (aG (by omega)) ?_;refine gs ?_;refine aa (aG (by omega)) ?_;refine gs ?_;refine aa (aG (by omega)) ?_;refine gs ?_;refine aa (aG (by omega)) ?_;refine gs ?_;refine aa (aG (by omega)) ?_;refine gs ?_;refine aa (aG (by omega)) ?_;refine gs ?_;refine aa (bo (by omega)) ?_;refine gs ?_;refine ap h1 ac rfl ?_;refine ap h1 ac rfl ?_;refine ap h1 ac rfl ?_;rw [hI];refine af h1 (oY (p := P) (g := g) (σ := σ) (μ' := (σ.μ.acc t.who 2 (10, t.s, (t.i : Int))).put (10, t.s, (t.i : Int)) 0) (by simp) (Yn g.tb g.m σ.c.sh.toNat σ.c.sl.toNat σ.μ t.who t.s t.i hN)) fun _ H2 h2 => ?_;refine bj h2 ac rfl rfl fun H4 h4 => ?_;refine ah (bq ..) ?_;exact aq (ij (g := g) (k := { k with a := 10 }) (σ' := σ.mem ((σ.μ.acc t.who 2 (10, t.s, (t.i : Int))).put (10, t.s, (t.i : Int)) 0)) (t' := { t with at' := 10 }) (by rw [bS σ t now ho (by omega)]; simp only [ei, hat]) (ZR rfl ho rfl hkc) (az (σ := σ) hg (by simp) rfl) (show ae (xB x P t ({ k with a := 10 }) * (aw P (g) (σ.mem ((σ.μ.acc t.who 2 (10, t.s, (t.i : Int))).put (10, t.s, (t.i : Int)) 0)) * R)) _ from h4.to))
theorem ajA (S : SOk σ) (T : mi σ t) (hat : t.at' = 2) : Sp bp [vp x, vi now] (yT x P t * aM P σ) (fun _ : Unit => vb (ax σ t now).2.2) (fun _ => yU x P (ax σ t now) * aM P (ax σ t now).1) := by
 have hN : σ.μ.N < 1099511627000 := by have := S.N; omega
 refine aK fun R H h => ?_;obtain ⟨k, g, hR, hg, h0⟩ := jL h;have hl := hg.1;have ha := hR.1
 have hst : ax σ t now = fm σ t := by simp only [ax, hat]
 refine za x P g σ t k now S T (by omega) h0 fun H1 h1 => ?_;rw [hst];exact HX x P g σ t k now S (hR.2.1 (by omega)) (by omega) hg h1
theorem ai9 (S : SOk σ) (T : mi σ t) (hat : t.at' = 0) : Sp bp [vp x, vi now] (yT x P t * aM P σ) (fun _ : Unit => vb (ax σ t now).2.2) (fun _ => yU x P (ax σ t now) * aM P (ax σ t now).1) := by
 have hN : σ.μ.N < 1099511627000 := by have := S.N; omega
 refine aK fun R H h => ?_;obtain ⟨k, g, hR, hg, h0⟩ := jL h;have hl := hg.1;have ha := hR.1;refine N6 x P g σ t k now S T h0 fun H1 h1 => ?_;refine ah (mN ..) ?_;refine ap h1 ac rfl ?_;refine aa (bo (by omega)) ?_;refine ah (lB ..) ?_;refine gs ?_
 have bad : ∀ code, code ≠ 0 → jN t.x = some code → wp (cU (vp x) (vi now) (vb false) (vp P) (vi t.s) (vi code) H1) fun v' H' => ∃ y : Unit, v' = vb (ax σ t now).2.2 ∧ ae (yU x P (ax σ t now) * aM P (ax σ t now).1 * R) H' := by
  intro code h0 hx;refine ah (lD ..) ?_;refine aa (G1 h0) ?_;refine gs ?_;refine af h1 (jJ x P g σ t k hg now code (by have := S.N; omega) S.pts) fun v H2 h2 => ?_;exact aq (RO (g := { g with pv := v }) (k := { k with code := code }) (σ' := σ.note now t.who code) (t' := { t with code := code }) (by simp only [ax, hat, hx]) rfl (dK (σ := σ) hg (bB _) rfl) h2.to)
 have good : jN t.x = none → wp (cU (vp x) (vi now) (vb false) (vp P) (vi t.s) (vi 0) H1) fun v' H' => ∃ y : Unit, v' = vb (ax σ t now).2.2 ∧ ae (yU x P (ax σ t now) * aM P (ax σ t now).1 * R) H' := by
  intro hx
  have hst : ax σ t now = fm σ t := by simp only [ax, hat, hx]
  refine ah (lD ..) ?_;refine aa (rJ rfl) ?_;refine gs ?_;refine bj h1 ac rfl rfl fun H2 h2 => ?_;rw [hst];exact HX x P g σ t { k with a := 2 } now S (hR.2.1 (by omega)) rfl hg h2.to
 have k17f : rK t.x → wp (hM (vp x) (vi now) (vb false) (vp P) (vi t.s) (vi 0) (vb false) H1) fun v' H' => ∃ y : Unit, v' = vb (ax σ t now).2.2 ∧ ae (yU x P (ax σ t now) * aM P (ax σ t now).1 * R) H' := by
  intro hf;refine ah (lC ..) ?_;refine ap h1 (ci (aP (aP be))) rfl ?_
  by_cases ho : t.x.op = 1
  ·refine aa (rJ ho) ?_
   refine gs ?_;rw [Bool.not_false];refine gs ?_;exact bad 1 (by omega) (by rw [mQ ho, if_pos hf])
  ·refine aa (G1 ho) ?_
   refine gs ?_;rw [Bool.not_false];refine gs ?_;exact bad 5 (by omega) (by rw [EG ho, if_pos hf])
 have k17t : ¬ rK t.x → wp (hM (vp x) (vi now) (vb false) (vp P) (vi t.s) (vi 0) (vb true) H1) fun v' H' => ∃ y : Unit, v' = vb (ax σ t now).2.2 ∧ ae (yU x P (ax σ t now) * aM P (ax σ t now).1 * R) H' := by
  intro hf;refine ah (lC ..) ?_;refine ap h1 (ci (aP (aP be))) rfl ?_
  by_cases ho : t.x.op = 1
  ·refine aa (rJ ho) ?_
   refine gs ?_;rw [Bool.not_true];refine gs ?_;refine ap h1 (ci (aP (aP be))) rfl ?_;refine aa (bo ho) ?_;refine gs ?_;refine ap h1 (ci (aP (aP be))) rfl ?_;refine gs ?_
   by_cases ha1 : t.x.a < 1
   ·refine aa (cz ha1) ?_
    refine gs ?_;exact bad 4 (by omega) (by rw [mQ ho, if_neg hf, if_pos (.inl ha1)])
   refine aa (bW ha1) ?_;refine gs ?_;refine ap h1 (ci (aP (aP be))) rfl ?_;refine gs ?_
   by_cases ha2 : 65536 < t.x.a
   ·refine aa (kN ha2) ?_
    refine gs ?_;exact bad 4 (by omega) (by rw [mQ ho, if_neg hf, if_pos (.inr ha2)])
   refine aa (fQ ha2) ?_;refine gs ?_;refine ap h1 (ci (aP (aP be))) rfl ?_;refine aa (bo ho) ?_;refine gs ?_;refine ap h1 (ci (aP (aP be))) rfl ?_;refine gs ?_
   by_cases hb1 : t.x.b < 1
   ·refine aa (cz hb1) ?_
    refine gs ?_;exact bad 1 (by omega) (by rw [mQ ho, if_neg hf, if_neg (by omega), if_pos (.inl hb1)])
   refine aa (bW hb1) ?_;refine gs ?_;refine ap h1 (ci (aP (aP be))) rfl ?_;refine gs ?_
   by_cases hb2 : 8 < t.x.b
   ·refine aa (kN hb2) ?_
    refine gs ?_;exact bad 1 (by omega) (by rw [mQ ho, if_neg hf, if_neg (by omega), if_pos (.inr hb2)])
   refine aa (fQ hb2) ?_;refine gs ?_;exact good (by rw [mQ ho, if_neg hf, if_neg (by omega), if_neg (by omega)])
  ·refine aa (G1 ho) ?_
   refine gs ?_;rw [Bool.not_true];refine gs ?_;rw [Bool.not_true];refine gs ?_;refine ap h1 (ci (aP (aP be))) rfl ?_;refine aa (aG ho) ?_;refine gs ?_;refine ap h1 (ci (aP (aP be))) rfl ?_;refine aa (aG ho) ?_;refine gs ?_;exact good (by rw [EG ho, if_neg hf])
 refine ap h1 (ci (aP (aP be))) rfl ?_
 by_cases hf : t.x.flow < 0
 ·refine aa (q9 (by omega)) ?_
  refine gs ?_;exact k17f (.inl hf)
 refine aa (zm (by omega)) ?_;refine gs ?_;refine ap h1 (ci (aP (aP be))) rfl ?_;refine gs ?_
 by_cases hf2 : 1048576 < t.x.flow
 ·refine aa (MK (by omega)) ?_
  refine gs ?_;exact k17f (.inr hf2)
 refine aa (ML (by omega)) ?_;refine gs ?_;exact k17t (fun h => h.elim hf hf2)
theorem ZH (S : SOk σ) (T : mi σ t) : Sp bp [vp x, vi now] (yT x P t * aM P σ) (fun _ : Unit => vb (ax σ t now).2.2) (fun _ => yU x P (ax σ t now) * aM P (ax σ t now).1) := by
 by_cases ho : t.x.op = 1
 ·rcases T.ats with hat | hat | hat | hat | hat
  ·exact ai9 x P σ t now S T hat
  ·exact ajA x P σ t now S T hat
  ·exact ap3 x P σ t now S T ho hat
  ·by_cases h4 : t.at' = 4
   ·exact ap4 x P σ t now S T ho h4
   by_cases h5 : t.at' = 5
   ·exact ap5 x P σ t now S T ho h5
   exact ap6 x P σ t now S T ho (by omega)
  ·exact absurd ho hat.1
 ·rcases T.ats with hat | hat | hat | hat | hat
  ·exact ai9 x P σ t now S T hat
  ·exact ajA x P σ t now S T hat
  ·exact apW x P σ t now S T ho hat
  ·by_cases h4 : t.at' = 4
   ·exact apX x P σ t now S T ho h4
   by_cases h5 : t.at' = 5
   ·exact apY x P σ t now S T ho h5
   exact apZ x P σ t now S T ho (by omega)
  ·by_cases h7 : t.at' = 7
   ·exact ap0 x P σ t now S T ho h7
   by_cases h8 : t.at' = 8
   ·exact ap1 x P σ t now S T ho h8
   by_cases h9 : t.at' = 9
   ·exact ap2 x P σ t now S T ho h9
   exact amN x P σ t now S T ho (by omega)
end
abbrev TP := Nat × Pt
def ltT (a b : TP) : Prop := a.2.step < b.2.step ∨ a.2.step = b.2.step ∧ a.1 < b.1
def kX (L : List TP) : Prop := L.Pairwise ltT
def z4 (X Y : List TP) : Prop := ∀ x ∈ X, ∀ y ∈ Y, x.1 < y.1
def Asc (L : List TP) : Prop := L.Pairwise fun a b => a.1 < b.1
abbrev pl (L : List TP) : List Pt := L.map fun x : TP => x.2
theorem JO {a b : TP} (h : ltT a b) : a.2.step ≤ b.2.step := by rcases h with h | h <;> omega
theorem de {X Y : List TP} : kX (X ++ Y) ↔ kX X ∧ kX Y ∧ ∀ x ∈ X, ∀ y ∈ Y, ltT x y := List.pairwise_append
theorem gP {x : TP} {Y : List TP} : kX (x :: Y) ↔ (∀ y ∈ Y, ltT x y) ∧ kX Y := List.pairwise_cons
theorem KI : kX [] := List.Pairwise.nil
theorem Vo (x : TP) : kX [x] := List.pairwise_singleton _ _
theorem Rw : ∀ (L1 L2 : List TP), kX L1 → kX L2 → L1.Perm L2 → L1 = L2 := by
 intro L1
 induction L1 with
 | nil => intro L2 _ _ h; exact (List.nil_perm.1 h).symm
 | cons x L1 ih =>
  intro L2 h1 h2 h
  cases L2 with
  | nil => exact absurd h.length_eq (by simp)
  | cons y L2 =>
   have hx : x ∈ y :: L2 := h.mem_iff.1 (List.mem_cons_self ..);have hy : y ∈ x :: L1 := h.mem_iff.2 (List.mem_cons_self ..)
   have e : x = y := by
    rcases uj.1 hx with e | hx
    ·exact e
    ·rcases uj.1 hy with e | hy
     ·exact e.symm
     ·have a1 := (gP.1 h2).1 x hx
      have a2 := (gP.1 h1).1 y hy
      rcases a1 with a1 | a1 <;> rcases a2 with a2 | a2 <;> omega
   subst e;rw [ih L2 (gP.1 h1).2 (gP.1 h2).2 (h.cons_inv)]
def qv : Nat → List Pt → List TP
 | _, [] => []
 | n, x :: l => (n, x) :: qv (n + 1) l
theorem UA : ∀ (l : List Pt) (n : Nat), pl (qv n l) = l := by
 intro l
 induction l with
 | nil => intro n; rfl
 | cons x l ih => intro n; show x :: pl (qv (n + 1) l) = _; rw [ih]
theorem alJ : ∀ (l : List Pt) (n : Nat), ∀ x ∈ qv n l, n ≤ x.1 := by
 intro l
 induction l with
 | nil => intro n x hx; cases hx
 | cons y l ih =>
  intro n x hx
  rcases uj.1 hx with e | hx
  ·subst e; exact bB _
  ·have := ih (n + 1) x hx; omega
theorem MU : ∀ (l : List Pt) (n : Nat), Asc (qv n l) := by
 intro l
 induction l with
 | nil => intro n; exact .nil
 | cons x l ih =>
  intro n;refine List.pairwise_cons.2 ⟨fun y hy => ?_, ih (n + 1)⟩;have := alJ l (n + 1) y hy;show n < y.1;omega
theorem G2 : ∀ (l : List Pt) (n : Nat) (x : Pt), qv n (l ++ [x]) = qv n l ++ [(n + l.length, x)] := by
 intro l
 induction l with
 | nil => intro n x; rfl
 | cons y l ih =>
  intro n x;show (n, y) :: qv (n + 1) (l ++ [x]) = (n, y) :: (qv (n + 1) l ++ _);rw [ih, List.length_cons, show n + 1 + l.length = n + (l.length + 1) from by omega]
def MG (x : TP) : List TP → List TP
 | [] => [x]
 | y :: l => if y.2.step ≤ x.2.step ∨ (l.any fun z => decide (z.2.step ≤ x.2.step)) = true then y :: MG x l else x :: y :: l
theorem alB (x : TP) : ∀ L, pl (MG x L) = tJ x.2 (pl L) := by
 intro L
 induction L with
 | nil => rfl
 | cons y L ih =>
  have e : ((pl L).any fun z => decide (z.step ≤ x.2.step)) = L.any fun z => decide (z.2.step ≤ x.2.step) := by rw [List.any_map]; rfl
  show pl (if _ then _ else _) = (if _ then _ else _);rw [e]
  split
  ·show y.2 :: pl (MG x L) = _; rw [ih]
  ·rfl
theorem GT (x : TP) : ∀ L, (MG x L).Perm (x :: L) := by
 intro L
 induction L with
 | nil => exact List.Perm.refl _
 | cons y L ih =>
  rw [MG]
  split
  ·exact (ih.cons y).trans (List.Perm.swap x y L)
  ·exact List.Perm.refl _
theorem aeZ (x : TP) : ∀ L, kX L → (∀ y ∈ L, y.1 < x.1) → kX (MG x L) := by
 intro L
 induction L with
 | nil => intro _ _; exact Vo x
 | cons y L ih =>
  intro hs hb;obtain ⟨h1, h2⟩ := gP.1 hs;have hyx := hb y (List.mem_cons_self ..);rw [MG]
  split
  ·rename_i hc
   have hle : y.2.step ≤ x.2.step := by
    rcases hc with hc | hc
    ·exact hc
    ·obtain ⟨z, hz, hzs⟩ := List.any_eq_true.1 hc
     have := JO (h1 z hz)
     have hzs : z.2.step ≤ x.2.step := by simpa using hzs
     omega
   refine gP.2 ⟨fun z hz => ?_, ih h2 fun z hz => hb z (List.mem_cons_of_mem _ hz)⟩
   rcases uj.1 ((GT x L).mem_iff.1 hz) with e | hz
   ·subst e
    unfold ltT;omega
   ·exact h1 z hz
  ·rename_i hc
   have hlt : x.2.step < y.2.step := by
    have : ¬ y.2.step ≤ x.2.step := fun q => hc (.inl q);omega
   refine gP.2 ⟨fun z hz => ?_, hs⟩
   rcases uj.1 hz with e | hz
   ·subst e; exact .inl hlt
   ·have := JO (h1 z hz)
    exact .inl (by omega)
theorem Ou (l : List Pt) : ∃ Z, kX Z ∧ Z.Perm (qv 0 l) ∧ pl Z = bC l := by
 have gen : ∀ (r : List Pt), ∃ Z, kX Z ∧ Z.Perm (qv 0 r.reverse) ∧ pl Z = bC r.reverse := by
  intro r
  induction r with
  | nil => exact ⟨[], KI, List.Perm.refl _, rfl⟩
  | cons x r ih =>
   obtain ⟨Z, h1, h2, h3⟩ := ih;rw [List.reverse_cons, G2, zf];refine ⟨MG (0 + r.reverse.length, x) Z, aeZ _ _ h1 fun y hy => ?_, ?_, ?_⟩
   ·have hy := h2.mem_iff.1 hy
    have := MU (r.reverse ++ [x]) 0;rw [G2] at this;exact (List.pairwise_append.1 this).2.2 y hy _ (List.mem_cons_self ..)
   ·refine (GT _ _).trans ?_
    exact (h2.cons _).trans (List.perm_append_comm (l₁ := [_]) (l₂ := qv 0 r.reverse))
   ·rw [alB, h3]
 have := gen l.reverse;rw [List.reverse_reverse] at this;exact this
theorem VW {l : List Pt} {Z : List TP} (h1 : kX Z) (h2 : Z.Perm (qv 0 l)) : pl Z = bC l := by
 obtain ⟨Z', g1, g2, g3⟩ := Ou l;rw [Rw Z Z' h1 g1 (h2.trans g2.symm), g3]
inductive RQ (bs : Nat) : List TP → Prop
 | last {X : List TP} (h1 : X.length ≤ bs) (h2 : kX X) : RQ bs X
 | cons {X L : List TP} (h1 : X.length = bs) (h2 : kX X) (h3 : z4 X L) (h4 : RQ bs L) : RQ bs (X ++ L)
theorem RQ.nil {bs : Nat} : RQ bs [] := .last (by simp) KI
theorem RQ.split {bs : Nat} {L : List TP} (h : RQ bs L) (hl : bs ≤ L.length) : ∃ X L2, L = X ++ L2 ∧ X.length = bs ∧ kX X ∧ z4 X L2 ∧ RQ bs L2 := by
 cases h with
 | last h1 h2 => exact ⟨L, [], by simp, by omega, h2, (fun x _ y hy => by cases hy), .nil⟩
 | @cons X L' h1 h2 h3 h4 => exact ⟨X, L', rfl, h1, h2, h3, h4⟩
theorem RQ.short {bs : Nat} {L : List TP} (h : RQ bs L) (hl : L.length ≤ bs) : kX L := by
 cases h with
 | last h1 h2 => exact h2
 | @cons X L' h1 h2 h3 h4 =>
  have : L'.length = 0 := by rw [fL] at hl; omega
  have : L' = [] := List.eq_nil_of_length_eq_zero this;subst this;rw [List.append_nil]; exact h2
theorem z4.left {X X2 Y : List TP} (h : z4 (X ++ X2) Y) : z4 X Y := fun x hx y hy => h x (List.mem_append_left _ hx) y hy
theorem z4.perm {X X' Y Y' : List TP} (h : z4 X Y) (hx : X'.Perm X) (hy : Y'.Perm Y) : z4 X' Y' := fun x h1 y h2 => h x (hx.mem_iff.1 h1) y (hy.mem_iff.1 h2)
theorem z4.sub {X X' Y Y' : List TP} (h : z4 X Y) (hx : ∀ x ∈ X', x ∈ X) (hy : ∀ y ∈ Y', y ∈ Y) : z4 X' Y' := fun x h1 y h2 => h x (hx x h1) y (hy y h2)
theorem Ol {X Y : List TP} : Asc (X ++ Y) ↔ Asc X ∧ Asc Y ∧ z4 X Y := List.pairwise_append
theorem pS {x : OV} {Q Q' : Value → AH → Prop} (f : ∀ v H, Q v H → Q' v H) (k : wp x Q) : wp x Q' := let ⟨v, H, e, q⟩ := k; ⟨v, H, e, f _ _ q⟩
theorem y5 (s : Value) (l : List Pt) (hl : l.length ≤ 1000000) : Sp afL [s] (ts 7 Pt.cells s l) (fun v : Value => v) (fun v => ts 7 Pt.cells v l * ts 7 Pt.cells s l) := by
 refine bh (apF _) fun R H h => ?_
 rcases nK (s := s) (l := l) h with ⟨rfl, rfl, h0⟩ | ⟨b, rfl, h0⟩
 ·refine aa (v := vb true) rfl ?_
  refine gs ?_;refine aq ⟨_, rfl, ?_⟩;have h1 := f6 7 Pt.cells h;exact h1.to
 ·refine aa (v := vb false) rfl ?_
  refine gs ?_;refine NW (cs := []) h rfl fun b1 H1 h1 => ?_;have h2 : ae (ts 7 Pt.cells (vs b1 0 7) [] * (ts 7 Pt.cells (vs b l.length 7) l * R)) H1 := xt (enc := Pt.cells) (l := []) h1;refine Ft (x := vs b l.length 7) (m := l) h2 (by unfold dr; simp; omega) (by omega) fun v H2 h3 => ?_;rw [List.nil_append] at h3;exact aq ⟨v, rfl, h3.to⟩
theorem M7 (x2 s : Value) (l : List Pt) (hl : l.length ≤ 1000000) {P R : SP} : ∀ (d i : Nat) (o : Value) (H : AH), i + d = l.length → ae (ts 7 Pt.cells o (l.take i) * (ts 7 Pt.cells s l * P) * R) H →
 wp (JV x2 o s (vi l.length) (vi i) H) fun v' H' => ∃ v : Value, v' = v ∧ ae (ts 7 Pt.cells v l * (ts 7 Pt.cells s l * P) * R) H' := by
 intro d
 induction d with
 | zero =>
  intro i o H hi h;refine ah (G6 _ _ _ _ _ H) ?_;refine aa (bW (by omega)) ?_;refine gs ?_;refine ah (M1 _ _ H) ?_;refine ah (Yb _ _ H) ?_;rw [List.take_of_length_le (by omega)] at h;exact aq ⟨_, rfl, h⟩
 | succ d ih =>
  intro i o H hi h
  have hil : i < l.length := by omega
  refine ah (G6 _ _ _ _ _ H) ?_;refine aa (cz (by omega)) ?_;refine gs ?_;refine ah (Yd _ _ _ _ _ H) ?_;refine RI (s := s) (l := l) h hil ?_;refine br h fun b H1 h1 => ?_;refine ej h1 rfl rfl fun H2 h2 => ?_;refine HV h2 aE ?_;refine af h2 (tM l[i].e) fun _ H3 h3 => ?_;refine bj h3 aE rfl rfl fun H4 h4 => ?_;refine aR h4 ?_;refine RF h4 fun b0 H5 h5 => ?_;refine i1 (s := o) (l := l.take i) (l[i] : Pt) h5 rfl ?_ (by omega) fun a c H6 h6 => ?_
  ·unfold dr; simp only [List.length_take]; omega
  refine ah (Ye _ _ _ _ _ H6) ?_;refine aa (aH (by omega) (by omega)) ?_;refine ih (i + 1) _ H6 (by omega) ?_;rw [List.take_succ_eq_append_getElem hil];exact h6.to
theorem DU : Sp fU [.slice none 0 0, .slice none 0 0] emp (fun _ : Unit => vb true) (fun _ => emp) := by
 have same : ∀ f : Value, Sp ru [.slice none 0 0, .slice none 0 0, f] emp (fun _ : Unit => vb true) (fun _ => emp) := by
  intro f;refine bh (JE _ _ _) fun R H h => ?_;refine Vx ?_;refine Vx ?_;refine aa (rJ rfl) ?_;refine gs ?_;refine ah (Ad _ _ _ _ H) ?_;refine ah (Af _ _ _ _ _ H) ?_;refine ah (Ag _ _ _ _ _ H) ?_;refine Vx ?_;refine aa (bW (by omega)) ?_;refine gs ?_;refine ah (vY _ H) ?_;refine ah (Ae _ H) ?_;exact aq ⟨(), rfl, h⟩
 refine bh (oG _ _) fun R H h => ?_;refine af h (same _) fun _ H1 h1 => ?_;exact aq ⟨(), rfl, h1.to⟩
theorem MD (e : Int) : Sp pF [.agg (gm e).toArray, .agg (gm e).toArray] emp (fun _ : Unit => vb true) (fun _ => emp) := by
 refine bh (MC _ _) fun R H h => ?_;refine aX h fun b1 H1 h1 => ?_;refine aX h1 fun b2 H2 h2 => ?_;refine ap h2 aE rfl ?_;refine ap h2 aE rfl ?_;refine aa (bo rfl) ?_;refine gs ?_;refine ap h2 aE rfl ?_;refine gs ?_;refine ap h2 aE rfl ?_;refine gs ?_;refine aa (bo rfl) ?_;refine gs ?_;refine ap h2 aE rfl ?_;refine gs ?_;refine ap h2 aE rfl ?_;refine gs ?_;refine aa (bo rfl) ?_;refine gs ?_;refine ap h2 aE rfl ?_;refine gs ?_;refine ap h2 aE rfl ?_;refine gs ?_;refine af h2 DU fun _ H3 h3 => ?_;refine gs ?_;exact aq ⟨(), rfl, h3.to⟩
theorem PZ (x : Pt) : Sp eM [.agg (Pt.cells x).toArray, .agg (Pt.cells x).toArray] emp (fun _ : Unit => vb true) (fun _ => emp) := by
 refine bh (FR _ _) fun R H h => ?_;refine aX h fun b1 H1 h1 => ?_;refine aX h1 fun b2 H2 h2 => ?_;refine ap h2 aE rfl ?_;refine ap h2 aE rfl ?_;refine aa (bo rfl) ?_;refine gs ?_;refine ap h2 aE rfl ?_;refine gs ?_;refine ap h2 aE rfl ?_;refine gs ?_;refine aa (bo rfl) ?_;refine gs ?_;refine ap h2 aE rfl ?_;refine gs ?_;refine ap h2 aE rfl ?_;refine gs ?_;refine aa (bo rfl) ?_;refine gs ?_;refine HV h2 aE ?_;refine gs ?_;refine HV h2 aE ?_;refine gs ?_;refine af h2 (MD x.e) fun _ H3 h3 => ?_;refine gs ?_;exact aq ⟨(), rfl, h3.to⟩
section
variable {α : Type}
theorem an3 (A B : List α) (x : α) : (A ++ x :: B)[A.length]? = some x := by simp
theorem sC {A B : List α} {x : α} {i : Nat} (h : i = A.length) : (A ++ x :: B)[i]? = some x := by subst h; exact an3 A B x
theorem alT (A B : List α) (x y : α) : (A ++ x :: B).set A.length y = A ++ y :: B := by simp
theorem xi {A B : List α} {x y : α} {i : Nat} (h : i = A.length) : (A ++ x :: B).set i y = A ++ y :: B := by subst h; exact alT A B x y
theorem anR {A B C : List α} {x y : α} {i j : Nat} (hi : i = A.length) (hj : j = A.length + 1 + B.length) : ((A ++ x :: (B ++ y :: C)).set i y).set j x = A ++ y :: (B ++ x :: C) := by
 rw [xi hi]
 have e : A ++ y :: (B ++ y :: C) = (A ++ y :: B) ++ y :: C := by simp
 rw [e, xi (by simp; omega)];simp
theorem ah2 {A B C : List α} {x y : α} {i j : Nat} (hi : i = A.length) (hj : j = A.length + 1 + B.length) : ((A ++ x :: (B ++ y :: C)).set j x).set i y = A ++ y :: (B ++ x :: C) := by
 have e : A ++ x :: (B ++ y :: C) = (A ++ x :: B) ++ y :: C := by simp
 rw [e, xi (by simp; omega)]
 have e2 : (A ++ x :: B) ++ x :: C = A ++ x :: (B ++ x :: C) := by simp
 rw [e2, xi hi]
theorem at2 {A B C : List α} {x y : α} {j : Nat} (hj : j = A.length + 1 + B.length) : (A ++ x :: (B ++ y :: C))[j]? = some y := by
 have e : A ++ x :: (B ++ y :: C) = (A ++ x :: B) ++ y :: C := by simp
 rw [e];exact sC (by simp; omega)
end
section
variable {P R : SP} {H : AH} {s : Value} {l : List Pt} {Q : Value → AH → Prop}
theorem qq {i : Nat} {ii : Int} {x : Pt} {k : Value → OV} (hi : ii = i) (h : ae P H) [f : Ts P s Pt 7 Pt.cells l R] (hx : l[i]? = some x) (hk : wp (k (.agg (Pt.cells x).toArray)) Q) : wp (ldN 7 [.i 7 (vi ii)] s H k) Q := by
 subst hi;obtain ⟨hil, e⟩ := Ap.1 hx;refine RI (s := s) (l := l) (i := i) h hil ?_;rw [e];exact hk
theorem KP {i : Nat} {ii : Int} {x : Pt} {k : AH → OV} (hi : ii = i) (h : ae P H) [f : Ts P s Pt 7 Pt.cells l R] (hl : i < l.length) (hk : ∀ H', ae (ts 7 Pt.cells s (l.set i x) * R) H' → wp (k H') Q) : wp (st 7 [.i 7 (vi ii)] s (.agg (Pt.cells x).toArray) H k) Q := by
 subst hi;exact N2 (s := s) (l := l) (i := i) x h hl (.inl ⟨rfl, rfl⟩) rfl (by omega) rfl rfl fun H' h' => hk H' h'.to
theorem RH {i j : Nat} {ii jj : Int} {x y : Pt} {k : AH → OV} (hi : ii = i) (hj : jj = j) (h : ae P H) [f : Ts P s Pt 7 Pt.cells l R] (hx : l[i]? = some x) (hy : l[j]? = some y)
 (hk : ∀ H', ae (ts 7 Pt.cells s ((l.set i y).set j x) * R) H' → wp (k H') Q) :
 wp (ldN 7 [.i 7 (vi jj)] s H fun v16 => ldN 7 [.i 7 (vi ii)] s H fun v17 => st 7 [.i 7 (vi ii)] s v16 H fun H18 => st 7 [.i 7 (vi jj)] s v17 H18 k) Q := by
 obtain ⟨hil, _⟩ := Ap.1 hx;obtain ⟨hjl, _⟩ := Ap.1 hy;refine qq hj h hy ?_;refine qq hi h hx ?_;refine KP hi h hil fun H1 h1 => ?_;refine KP hj h1 (by rw [P5]; exact hjl) fun H2 h2 => ?_;exact hk H2 h2.to
end
theorem arV {cl : TCls} {w : Nat} : ai cl .shr (vu w) (vw 1) = some (vu (w / 2)) := by
 have := xD (cl := cl) (a := w) (k := .u64) (n := 1) (by omega)
 simpa using this
theorem Vy {i j : Nat} {ii jj : Int} {k : Value → OV} {Q : Value → AH → Prop} (hi : ii = i) (hj : jj = j) (hb : i + j < 4611686018427387904) (hk : wp (k (vi (((i + j) / 2 : Nat) : Int))) Q) :
 wp ((ai .other .add (vi ii) (vi jj)).bind fun a => (cg (some .u64) a).bind fun b => (ai .other .shr b (vw 1)).bind fun c => (cg (some .i64) c).bind k) Q := by
 subst hi hj;refine aa (aH (by omega) (by omega)) ?_;refine aa (dQ (by omega) (by omega)) ?_;rw [show ((i : Int) + (j : Int)).toNat = i + j from by omega];refine aa (arV) ?_;refine aa (iE (by omega)) ?_;exact hk
def VZ (a b : Pt) : Int := if a.step < b.step then -1 else if b.step < a.step then 1 else 0
theorem ajS (a b : Int) : Sp j0 [vi a, vi b] emp (fun _ : Unit => vi (if a < b then -1 else if b < a then 1 else 0)) (fun _ => emp) := by
 have nan : ∀ x : Int, Sp jo [vi x] emp (fun _ : Unit => vb false) (fun _ => emp) := by
  intro x;refine bh (z8 _) fun R H h => ?_;refine aa (rJ rfl) ?_;exact aq ⟨(), rfl, h⟩
 refine bh (vn _ _) fun R H h => ?_;refine af h (nan a) fun _ H1 h1 => ?_;refine af h1 (nan b) fun _ H2 h2 => ?_;refine Fp ?_;refine Fp ?_
 by_cases h1 : a < b
 ·refine aa (cz h1) ?_
  refine gs ?_;exact aq ⟨(), by rw [if_pos h1], h2.to⟩
 ·refine aa (bW h1) ?_
  refine gs ?_
  by_cases h3 : b < a
  ·refine aa (kN h3) ?_
   refine gs ?_;exact aq ⟨(), by rw [if_neg h1, if_pos h3], h2.to⟩
  ·refine aa (fQ h3) ?_
   refine gs ?_;exact aq ⟨(), by rw [if_neg h1, if_neg h3], h2.to⟩
theorem X9 (a b : Pt) : Sp dM [.agg (Pt.cells a).toArray, .agg (Pt.cells b).toArray] emp (fun _ : Unit => vi (VZ a b)) (fun _ => emp) := by
 refine bh (rM _ _) fun R H h => ?_;refine aX h fun b1 H1 h1 => ?_;refine aX h1 fun b2 H2 h2 => ?_;refine ap h2 aE rfl ?_;refine ap h2 aE rfl ?_;refine af h2 (ajS a.step b.step) fun _ H3 h3 => ?_;exact aq ⟨(), rfl, h3.to⟩
theorem Bf {a b : Pt} (h : a.step < b.step) : ai .other .lss (vi (VZ a b)) (vi 0) = some (vb true) := by
 rw [VZ, if_pos h]; exact cz (by omega)
theorem Be {a b : Pt} (h : ¬ a.step < b.step) : ai .other .lss (vi (VZ a b)) (vi 0) = some (vb false) := by
 rw [VZ, if_neg h]
 split <;> exact bW (by omega)
abbrev mU : Value := .func (.func dM) #[] #[]
theorem VA {P : SP} {H : AH} {Q : Value → AH → Prop} {a b : Pt} {k : Value × AH → OV} (h : ae P H) (hk : ∀ H', ae P H' → wp (k (vi (VZ a b), H')) Q) :
 wp (((cf mU [.agg (Pt.cells a).toArray, .agg (Pt.cells b).toArray]).bind fun c => FF c.1 c.2 H).bind k) Q := by
 refine ah (show ((cf mU [.agg (Pt.cells a).toArray, .agg (Pt.cells b).toArray]).bind fun c => FF c.1 c.2 H).bind k = (FF dM [.agg (Pt.cells a).toArray, .agg (Pt.cells b).toArray] H).bind k from rfl) ?_;refine af h (X9 a b) fun _ H1 h1 => ?_;exact hk H1 h1.to
theorem u0 (s f : Value) (P M : List Pt) (Q : List Pt) : ∀ (X Y : List Pt), X.length = Y.length → P.length + X.length + M.length + Y.length < 4000000 →
 Sp MT [s, vi ((P.length : Nat) : Int), vi ((P.length + X.length + M.length : Nat) : Int), vi ((X.length : Nat) : Int), f] (ts 7 Pt.cells s (P ++ (X ++ (M ++ (Y ++ Q))))) (fun _ : Unit => .tuple #[]) (fun _ => ts 7 Pt.cells s (P ++ (Y ++ (M ++ (X ++ Q))))) := by
 intro X Y hXY hb;refine bh (apL _ _ _ _ _) fun R H h => ?_;refine ah (Y7 ..) ?_;have loop : ∀ (X2 Y2 X1 Y1 : List Pt) (H : AH), X1 ++ X2 = X → Y1 ++ Y2 = Y → X1.length = Y1.length → ae (ts 7 Pt.cells s ((P ++ Y1) ++ (X2 ++ (M ++ (X1 ++ (Y2 ++ Q))))) * R) H →
  wp (KC s (vi ((P.length : Nat) : Int)) (vi ((P.length + X.length + M.length : Nat) : Int)) (vi ((X.length : Nat) : Int)) (vi ((X1.length : Nat) : Int)) H) fun v' H' => ∃ x : Unit, v' = .tuple #[] ∧ ae (ts 7 Pt.cells s (P ++ (Y ++ (M ++ (X ++ Q)))) * R) H' := by
  intro X2
  induction X2 with
  | nil =>
   intro Y2 X1 Y1 H hX hY hl hh;rw [List.append_nil] at hX;subst hX
   have : Y2 = [] := by
    have := congrArg List.length hY;rw [fL] at this;exact List.eq_nil_of_length_eq_zero (by omega)
   subst this;rw [List.append_nil] at hY;subst hY;refine ah (HF ..) ?_;refine aa (bW (by omega)) ?_;refine gs ?_;refine ah (NA ..) ?_;refine aq ⟨(), rfl, ?_⟩
   simpa using hh
  | cons x X2 ih =>
   intro Y2 X1 Y1 H hX hY hl hh;have hxl := congrArg List.length hX;have hyl := congrArg List.length hY;simp only [fL, List.length_cons] at hxl hyl
   cases Y2 with
   | nil => simp only [List.length_nil] at hyl; omega
   | cons y Y2 =>
    simp only [List.length_cons] at hyl;refine ah (HF ..) ?_;refine aa (cz (by omega)) ?_;refine gs ?_;refine ah (Y8 ..) ?_;refine aa (aH (by omega) (by omega)) ?_;refine aa (aH (by omega) (by omega)) ?_;refine aa (aH (by omega) (by omega)) ?_
    have e : (P ++ Y1) ++ ((x :: X2) ++ (M ++ (X1 ++ ((y :: Y2) ++ Q)))) = (P ++ Y1) ++ x :: ((X2 ++ (M ++ X1)) ++ y :: (Y2 ++ Q)) := by simp
    rw [e] at hh;refine qq (i := P.length + X.length + M.length + X1.length) (by omega) hh (at2 (by simp; omega)) ?_;refine aa (aH (by omega) (by omega)) ?_;refine qq (i := P.length + X1.length) (by omega) hh (sC (by simp; omega)) ?_;refine KP (i := P.length + X1.length) (by omega) hh (by simp; omega) fun H1 h1 => ?_;refine KP (i := P.length + X.length + M.length + X1.length) (by omega) h1 (by simp; omega) fun H2 h2 => ?_;rw [anR (by simp; omega) (by simp; omega)] at h2;refine ah (Y9 ..) ?_;refine aa (aH (by omega) (by omega)) ?_
    have := ih Y2 (X1 ++ [x]) (Y1 ++ [y]) H2 (by rw [← hX]; simp) (by rw [← hY]; simp) (by simp; exact hl) (by
     have e2 : (P ++ Y1) ++ y :: ((X2 ++ (M ++ X1)) ++ x :: (Y2 ++ Q)) = (P ++ (Y1 ++ [y])) ++ (X2 ++ (M ++ ((X1 ++ [x]) ++ (Y2 ++ Q)))) := by simp
     rw [e2] at h2
     exact h2.to)
    rw [fL, List.length_singleton] at this;rw [show ((X1.length : Nat) : Int) + 1 = ((X1.length + 1 : Nat) : Int) from by omega];exact this
 exact loop X Y [] [] H rfl rfl rfl (by simpa using h)
theorem apC (s f : Value) : ∀ (N : Nat) (P U V Q : List Pt), U.length + V.length ≤ N → 1 ≤ U.length → 1 ≤ V.length → P.length + U.length + V.length < 1000000 → ∀ (R : SP) (H : AH), ae (ts 7 Pt.cells s (P ++ (U ++ (V ++ Q))) * R) H →
 wp (EY s (vi ((P.length + U.length : Nat) : Int)) f (vi ((U.length : Nat) : Int)) (vi ((V.length : Nat) : Int)) H) fun v' H' => ∃ x : Unit, v' = .tuple #[] ∧ ae (ts 7 Pt.cells s (P ++ (V ++ (U ++ Q))) * R) H' := by
 intro N
 induction N with
 | zero => intro P U V Q hN hU hV; omega
 | succ N ih =>
  intro P U V Q hN hU hV hb R H h;refine ah (YV ..) ?_
  by_cases hij : U.length = V.length
  ·refine aa (rJ (by omega)) ?_
   refine gs ?_;refine ah (Nw ..) ?_;refine ah (YU ..) ?_;refine aa (bF (by omega) (by omega)) ?_;rw [show ((P.length + U.length : Nat) : Int) - ((U.length : Nat) : Int) = ((P.length : Nat) : Int) from by omega];have sw := u0 s f P [] Q U V hij (by simp; omega);simp only [List.length_nil, Nat.add_zero, List.nil_append] at sw;refine af h sw fun _ H1 h1 => ?_;exact aq ⟨(), rfl, h1.to⟩
  ·refine aa (G1 (by omega)) ?_
   refine gs ?_;refine ah (YW ..) ?_
   by_cases hgt : V.length < U.length
   ·refine aa (kN (by omega)) ?_
    refine gs ?_;refine aa (bF (by omega) (by omega)) ?_;rw [show ((P.length + U.length : Nat) : Int) - ((U.length : Nat) : Int) = ((P.length : Nat) : Int) from by omega]
    have hl1 : (U.take V.length).length = V.length := by rw [List.length_take]; omega
    have hl2 : (U.drop V.length).length = U.length - V.length := List.length_drop;have eU : U.take V.length ++ U.drop V.length = U := List.take_append_drop ..;have sw := u0 s f P (U.drop V.length) Q (U.take V.length) V hl1 (by omega);rw [hl1, hl2, show P.length + V.length + (U.length - V.length) = P.length + U.length from by omega] at sw
    have e1 : P ++ (U ++ (V ++ Q)) = P ++ (U.take V.length ++ (U.drop V.length ++ (V ++ Q))) := by rw [← List.append_assoc (U.take V.length), eU]
    rw [e1] at h;refine af h sw fun _ H1 h1 => ?_;refine aa (bF (by omega) (by omega)) ?_
    have := ih (P ++ V) (U.drop V.length) (U.take V.length) Q (by omega) (by omega) (by omega) (by rw [fL]; omega) R H1 (by
     rw [List.append_assoc]
     exact h1.to)
    rw [hl1, hl2, fL, show P.length + V.length + (U.length - V.length) = P.length + U.length from by omega] at this;rw [show ((U.length : Nat) : Int) - ((V.length : Nat) : Int) = ((U.length - V.length : Nat) : Int) from by omega];refine pS ?_ this
    rintro v' H' ⟨_, e, h2⟩
    refine ⟨(), e, ?_⟩
    have e2 : (P ++ V) ++ (U.take V.length ++ (U.drop V.length ++ Q)) = P ++ (V ++ (U ++ Q)) := by rw [← List.append_assoc (U.take V.length), eU, List.append_assoc]
    rw [e2] at h2;exact h2
   ·refine aa (fQ (by omega)) ?_
    refine gs ?_;refine aa (bF (by omega) (by omega)) ?_;rw [show ((P.length + U.length : Nat) : Int) - ((U.length : Nat) : Int) = ((P.length : Nat) : Int) from by omega];refine aa (aH (by omega) (by omega)) ?_;refine aa (bF (by omega) (by omega)) ?_
    have hl1 : (V.take (V.length - U.length)).length = V.length - U.length := by rw [List.length_take]; omega
    have hl2 : (V.drop (V.length - U.length)).length = U.length := by rw [List.length_drop]; omega
    have eV : V.take (V.length - U.length) ++ V.drop (V.length - U.length) = V := List.take_append_drop ..;have sw := u0 s f P (V.take (V.length - U.length)) Q U (V.drop (V.length - U.length)) hl2.symm (by omega);rw [hl1] at sw;rw [show ((P.length + U.length : Nat) : Int) + ((V.length : Nat) : Int) - ((U.length : Nat) : Int) = ((P.length + U.length + (V.length - U.length) : Nat) : Int) from by omega]
    have e1 : P ++ (U ++ (V ++ Q)) = P ++ (U ++ (V.take (V.length - U.length) ++ (V.drop (V.length - U.length) ++ Q))) := by rw [← List.append_assoc (V.take (V.length - U.length)), eV]
    rw [e1] at h;refine af h sw fun _ H1 h1 => ?_;refine aa (bF (by omega) (by omega)) ?_;have := ih P (V.drop (V.length - U.length)) (V.take (V.length - U.length)) (U ++ Q) (by omega) (by omega) (by omega) (by omega) R H1 h1.to;rw [hl1, hl2] at this;rw [show ((V.length : Nat) : Int) - ((U.length : Nat) : Int) = ((V.length - U.length : Nat) : Int) from by omega];refine pS ?_ this
    rintro v' H' ⟨_, e, h2⟩
    refine ⟨(), e, ?_⟩
    have e2 : P ++ (V.take (V.length - U.length) ++ (V.drop (V.length - U.length) ++ (U ++ Q))) = P ++ (V ++ (U ++ Q)) := by rw [← List.append_assoc (V.take (V.length - U.length)), eV]
    rw [e2] at h2;exact h2
theorem QW (s f : Value) (P U V Q : List Pt) (hU : 1 ≤ U.length) (hV : 1 ≤ V.length) (hb : P.length + U.length + V.length < 1000000) :
 Sp afM [s, vi ((P.length : Nat) : Int), vi ((P.length + U.length : Nat) : Int), vi ((P.length + U.length + V.length : Nat) : Int), f] (ts 7 Pt.cells s (P ++ (U ++ (V ++ Q)))) (fun _ : Unit => .tuple #[]) (fun _ => ts 7 Pt.cells s (P ++ (V ++ (U ++ Q)))) := by
 refine bh (apI _ _ _ _ _) fun R H h => ?_;refine aa (bF (by omega) (by omega)) ?_;refine aa (bF (by omega) (by omega)) ?_;refine ah (YT ..) ?_;rw [show ((P.length + U.length : Nat) : Int) - ((P.length : Nat) : Int) = ((U.length : Nat) : Int) from by omega, show ((P.length + U.length + V.length : Nat) : Int) - ((P.length + U.length : Nat) : Int) = ((V.length : Nat) : Int) from by omega];exact apC s f _ P U V Q (bB _) hU hV hb R H h
theorem dB (L : List TP) : (pl L).length = L.length := tg ..
theorem iW (X Y : List TP) : pl (X ++ Y) = pl X ++ pl Y := FT ..
theorem z4.append_right {X Y Z : List TP} : z4 X (Y ++ Z) ↔ z4 X Y ∧ z4 X Z :=
 ⟨fun h => ⟨fun x hx y hy => h x hx y (List.mem_append_left _ hy), fun x hx y hy => h x hx y (List.mem_append_right _ hy)⟩, fun h x hx y hy => (List.mem_append.1 hy).elim (h.1 x hx y) (h.2 x hx y)⟩
theorem GU (A B : List Pt) (s : Value) (X : List TP) (hX : Asc X) (hb : A.length + X.length < 1000000) :
 Sp Uz [s, vi ((A.length : Nat) : Int), vi ((A.length + X.length : Nat) : Int), mU] (ts 7 Pt.cells s (A ++ (pl X ++ B))) (fun _ : List TP => .tuple #[]) (fun Z => pu (kX Z ∧ Z.Perm X) * ts 7 Pt.cells s (A ++ (pl Z ++ B))) := by
 refine bh (apG _ _ _ _) fun R H h => ?_;refine aa (aH (by omega) (by omega)) ?_;refine ah (YJ ..) ?_;have outer : ∀ (r S : List TP) (H : AH), kX S → Asc r → z4 S r → (S ++ r).Perm X → ae (ts 7 Pt.cells s (A ++ (pl S ++ (pl r ++ B))) * R) H →
  wp (Ko s (vi ((A.length : Nat) : Int)) (vi ((A.length + X.length : Nat) : Int)) mU (vi ((A.length + S.length : Nat) : Int)) H) fun v' H' => ∃ Z : List TP, v' = .tuple #[] ∧ ae (pu (kX Z ∧ Z.Perm X) * ts 7 Pt.cells s (A ++ (pl Z ++ B)) * R) H' := by
  intro r
  induction r with
  | nil =>
   intro S H hS hr hSr hp hh;have hlen := hp.length_eq;rw [List.append_nil] at hp hlen;refine ah (yY ..) ?_;refine aa (bW (by omega)) ?_;refine gs ?_;refine ah (zN ..) ?_;refine aq ⟨S, rfl, ?_⟩;rw [ak, ae.pu];exact ⟨⟨hS, hp⟩, by simpa using hh⟩
  | cons x r ih =>
   intro S H hS hr hSr hp hh;have hlen := hp.length_eq;rw [fL, List.length_cons] at hlen;refine ah (yY ..) ?_;refine aa (cz (by omega)) ?_;refine gs ?_;refine ah (YK ..) ?_;refine ah (YL ..) ?_
   -- x goes down
   have inner : ∀ (d : Nat) (S1 S2 : List TP) (H : AH), S1.length = d → S1 ++ S2 = S → (∀ z ∈ S2, x.2.step < z.2.step) → ae (ts 7 Pt.cells s (A ++ (pl S1 ++ (x.2 :: (pl S2 ++ (pl r ++ B))))) * R) H →
    wp (Kp s (vi ((A.length : Nat) : Int)) (vi ((A.length + X.length : Nat) : Int)) mU (vi ((A.length + S.length : Nat) : Int)) (vi ((A.length + S1.length : Nat) : Int)) H) fun v' H' => ∃ Z : List TP, v' = .tuple #[] ∧ ae (pu (kX Z ∧ Z.Perm X) * ts 7 Pt.cells s (A ++ (pl Z ++ B)) * R) H' := by
    intro d
    induction d with
    | zero =>
     intro S1 S2 H hd hS12 hz h2;have hS1 : S1 = [] := List.eq_nil_of_length_eq_zero hd;subst hS1;refine ah (Ht ..) ?_;refine aa (fQ (by simp)) ?_;refine gs ?_;refine ah (zO ..) ?_;refine ah (Hr ..) ?_;refine aa (aH (by omega) (by omega)) ?_;rw [List.nil_append] at hS12;subst hS12
     have := ih (x :: S2) H (gP.2 ⟨fun z hz2 => .inl (hz z hz2), hS⟩) (List.pairwise_cons.1 hr).2 (fun a ha b hb2 => by
      rcases uj.1 ha with e | ha
      ·subst e; exact (List.pairwise_cons.1 hr).1 b hb2
      ·exact hSr a ha b (List.mem_cons_of_mem _ hb2)) ((List.perm_middle (l₁ := S2) (l₂ := r) (a := x)).symm.trans hp) (by simpa using h2)
     rw [List.length_cons] at this;rw [show ((A.length + S2.length : Nat) : Int) + 1 = ((A.length + (S2.length + 1) : Nat) : Int) from by omega];exact this
    | succ d ihd =>
     intro S1 S2 H hd hS12 hz h2
     obtain ⟨S0, y, rfl⟩ : ∃ S0 y, S1 = S0 ++ [y] := by
      refine ⟨S1.dropLast, S1.getLast (by intro e; rw [e] at hd; simp at hd), ?_⟩;rw [List.dropLast_concat_getLast]
     have hd0 : S0.length = d := by simpa using hd
     have hSl := congrArg List.length hS12;simp only [fL, List.length_singleton] at hSl
     have el : A ++ (pl (S0 ++ [y]) ++ (x.2 :: (pl S2 ++ (pl r ++ B)))) = (A ++ pl S0) ++ y.2 :: ([] ++ x.2 :: (pl S2 ++ (pl r ++ B))) := by simp [pl]
     rw [el] at h2;refine ah (Ht ..) ?_;refine aa (kN (by simp; omega)) ?_;refine gs ?_;rw [show (((A.length + (S0 ++ [y]).length : Nat)) : Int) = ((A.length + S0.length + 1 : Nat) : Int) from by simp; omega];refine qq (i := A.length + S0.length + 1) rfl h2 (at2 (by simp [pl])) ?_;refine gs ?_;refine aa (bF (by omega) (by omega)) ?_;refine gs ?_;refine qq (i := A.length + S0.length) (by omega) h2 (sC (by simp [pl])) ?_;refine xu ?_;refine VA h2 fun H3 h3 => ?_
     by_cases hc : x.2.step < y.2.step
     ·refine hZ ?_
      refine aa (Bf hc) ?_;refine gs ?_;refine ah (QX ..) ?_;refine aa (bF (by omega) (by omega)) ?_;refine aa (bF (by omega) (by omega)) ?_;refine RH (i := A.length + S0.length + 1) (j := A.length + S0.length) rfl (by omega) h3 (at2 (by simp [pl])) (sC (by simp [pl])) fun H4 h4 => ?_;rw [ah2 (by simp [pl]) (by simp [pl])] at h4;refine ah (QY ..) ?_;refine aa (bF (by omega) (by omega)) ?_
      have := ihd S0 (y :: S2) H4 hd0 (by rw [← hS12]; simp) (fun z hz2 => by
       rcases uj.1 hz2 with e | hz2
       ·subst e; exact hc
       ·exact hz z hz2) (by
       have e2 : (A ++ pl S0) ++ x.2 :: ([] ++ y.2 :: (pl S2 ++ (pl r ++ B))) = A ++ (pl S0 ++ (x.2 :: (pl (y :: S2) ++ (pl r ++ B)))) := by simp [pl]
       rw [e2] at h4
       exact h4.to)
      rw [show ((A.length + S0.length + 1 : Nat) : Int) - 1 = ((A.length + S0.length : Nat) : Int) from by omega];exact this
     ·refine hZ ?_
      refine aa (Be hc) ?_;refine gs ?_;refine ah (zO ..) ?_;refine ah (Hr ..) ?_;refine aa (aH (by omega) (by omega)) ?_;rw [← hS12] at hS hSr hp;have hS1s := (de.1 hS).1
      have hx1 : ∀ z ∈ S0 ++ [y], ltT z x := by
       intro z hz1;have hzt := hSr z (List.mem_append_left _ hz1) x (List.mem_cons_self ..)
       have : z.2.step ≤ y.2.step := by
        rcases List.mem_append.1 hz1 with h | h
        ·exact JO ((de.1 hS1s).2.2 z h y (List.mem_singleton.2 rfl))
        ·rw [List.mem_singleton.1 h]; exact Int.le_refl _
       unfold ltT;omega
      have := ih ((S0 ++ [y]) ++ x :: S2) H3 (de.2 ⟨hS1s, gP.2 ⟨fun z hz2 => .inl (hz z hz2), (de.1 hS).2.1⟩, fun a ha b hb2 => by
       rcases uj.1 hb2 with e | hb2
       ·subst e; exact hx1 a ha
       ·exact (de.1 hS).2.2 a ha b hb2⟩) (List.pairwise_cons.1 hr).2 (fun a ha b hb2 => by
       rcases List.mem_append.1 ha with ha | ha
       ·exact hSr a (List.mem_append_left _ ha) b (List.mem_cons_of_mem _ hb2)
       ·rcases uj.1 ha with e | ha
        ·subst e; exact (List.pairwise_cons.1 hr).1 b hb2
        ·exact hSr a (List.mem_append_right _ ha) b (List.mem_cons_of_mem _ hb2)) (by
       refine List.Perm.trans ?_ hp;have p1 : (x :: (S2 ++ r)).Perm (S2 ++ x :: r) := (List.perm_middle (l₁ := S2) (l₂ := r) (a := x)).symm
       simpa using (p1.append_left (S0 ++ [y]))) (by
       have e2 : (A ++ pl S0) ++ y.2 :: ([] ++ x.2 :: (pl S2 ++ (pl r ++ B))) = A ++ (pl ((S0 ++ [y]) ++ x :: S2) ++ (pl r ++ B)) := by simp [pl]
       rw [← e2]
       exact h3.to)
      have e3 : ((S0 ++ [y]) ++ x :: S2).length = S.length + 1 := by simp; omega
      rw [e3] at this;rw [show ((A.length + S.length : Nat) : Int) + 1 = ((A.length + (S.length + 1) : Nat) : Int) from by omega];exact this
   exact inner S.length S [] H rfl (List.append_nil S) (fun z hz => by cases hz) (by simpa using hh)
 cases X with
 | nil =>
  refine ah (yY ..) ?_;refine aa (bW (by simp; omega)) ?_;refine gs ?_;refine ah (zN ..) ?_;refine aq ⟨[], rfl, ?_⟩;rw [ak, ae.pu];exact ⟨⟨KI, List.Perm.refl _⟩, h⟩
 | cons x X =>
  have := outer X [x] H (Vo x) (List.pairwise_cons.1 hX).2 (fun a ha b hb2 => by rw [List.mem_singleton.1 ha]; exact (List.pairwise_cons.1 hX).1 b hb2) (List.Perm.refl _) (by simpa using h);rw [List.length_singleton] at this;rw [show ((A.length : Nat) : Int) + 1 = ((A.length + 1 : Nat) : Int) from by omega];exact this
theorem kV {L : List TP} (h : kX L) {i j : Nat} (hij : i ≤ j) (hj : j < L.length) : (L[i]'(by omega)).2.step ≤ L[j].2.step := by
 by_cases e : i = j
 ·subst e; exact Int.le_refl _
 ·exact JO (List.pairwise_iff_getElem.1 h i j (by omega) hj (by omega))
theorem al1 {X1 X2 Y1 Y2 Z1 Z2 : List TP} (hX : kX (X1 ++ X2)) (hY : kX (Y1 ++ Y2)) (hB : z4 (X1 ++ X2) (Y1 ++ Y2)) (h1 : ∀ x ∈ X1, ∀ y ∈ Y2, x.2.step ≤ y.2.step) (h2 : ∀ y ∈ Y1, ∀ x ∈ X2, y.2.step < x.2.step)
 (z1 : kX Z1) (z2 : kX Z2) (p1 : Z1.Perm (X1 ++ Y1)) (p2 : Z2.Perm (X2 ++ Y2)) : kX (Z1 ++ Z2) ∧ (Z1 ++ Z2).Perm ((X1 ++ X2) ++ (Y1 ++ Y2)) := by
 refine ⟨de.2 ⟨z1, z2, fun a ha b hb => ?_⟩, ?_⟩
 ·rcases List.mem_append.1 (p1.mem_iff.1 ha) with ha | ha <;> rcases List.mem_append.1 (p2.mem_iff.1 hb) with hb | hb
  ·exact (de.1 hX).2.2 a ha b hb
  ·have := h1 a ha b hb
   have := hB a (List.mem_append_left _ ha) b (List.mem_append_right _ hb);unfold ltT;omega
  ·exact .inl (h2 a ha b hb)
  ·exact (de.1 hY).2.2 a ha b hb
 ·refine (p1.append p2).trans ?_
  have : ((X1 ++ Y1) ++ (X2 ++ Y2)).Perm ((X1 ++ X2) ++ (Y1 ++ Y2)) := by
   rw [List.append_assoc, List.append_assoc];refine List.Perm.append_left X1 ?_;rw [← List.append_assoc, ← List.append_assoc];exact List.Perm.append_right Y2 List.perm_append_comm
  exact this
theorem nj {L : List TP} {n : Nat} {x : TP} (h : x ∈ L.take n) : ∃ i, ∃ (hi : i < L.length), i < n ∧ L[i] = x := by
 obtain ⟨i, hi, e⟩ := List.mem_iff_getElem.1 h;rw [List.length_take] at hi;exact ⟨i, by omega, by omega, by rw [← e, List.getElem_take]⟩
theorem ni {L : List TP} {n : Nat} {x : TP} (h : x ∈ L.drop n) : ∃ i, ∃ (hi : i < L.length), n ≤ i ∧ L[i] = x := by
 obtain ⟨i, hi, e⟩ := List.mem_iff_getElem.1 h;rw [List.length_drop] at hi;exact ⟨n + i, by omega, by omega, by rw [← e, List.getElem_drop]⟩
section
variable (A B : List Pt) (s : Value) (X Y : List TP)
theorem an1 {C : Nat} (hC : C < X.length) {i : Nat} (hi : i = A.length + C) : (A ++ (pl X ++ (pl Y ++ B)))[i]? = some X[C].2 := by
 subst hi;rw [List.getElem?_append_right (by omega), Nat.add_sub_cancel_left, List.getElem?_append_left (by rw [dB]; exact hC), yj, cT hC]; rfl
theorem an2 {C : Nat} (hC : C < Y.length) {i : Nat} (hi : i = A.length + X.length + C) : (A ++ (pl X ++ (pl Y ++ B)))[i]? = some Y[C].2 := by
 subst hi;rw [List.getElem?_append_right (by omega), List.getElem?_append_right (by rw [dB]; omega), dB, show A.length + X.length + C - A.length - X.length = C from by omega, List.getElem?_append_left (by rw [dB]; exact hC), yj, cT hC]; rfl
end
theorem VV (s : Value) (x : Pt) (Q : List Pt) {R : SP} : ∀ (M P : List Pt) (H : AH), P.length + M.length < 1000000 → ae (ts 7 Pt.cells s (P ++ x :: (M ++ Q)) * R) H →
 wp (BJ s (vi ((P.length + M.length + 1 : Nat) : Int)) (vi ((P.length : Nat) : Int)) H) fun v' H' => v' = .tuple #[] ∧ ae (ts 7 Pt.cells s (P ++ (M ++ x :: Q)) * R) H' := by
 intro M
 induction M with
 | nil =>
  intro P H hb hh;refine ah (EX ..) ?_;rw [List.length_nil, Nat.add_zero];refine aa (bF (by omega) (by omega)) ?_;refine aa (bW (by omega)) ?_;refine gs ?_;refine ah (Kt ..) ?_;refine ah (Rf ..) ?_;exact aq ⟨rfl, hh⟩
 | cons y M ih =>
  intro P H hb hh;rw [List.length_cons] at hb;refine ah (EX ..) ?_;rw [List.length_cons];refine aa (bF (by omega) (by omega)) ?_;refine aa (cz (by omega)) ?_;refine gs ?_;refine ah (Rh ..) ?_;refine aa (aH (by omega) (by omega)) ?_;refine aa (aH (by omega) (by omega)) ?_;have e : P ++ x :: ((y :: M) ++ Q) = P ++ x :: ([] ++ y :: (M ++ Q)) := rfl;rw [e] at hh;refine RH (i := P.length) (j := P.length + 1) rfl (by omega) hh (sC rfl) (at2 (by simp)) fun H2 h2 => ?_;rw [anR rfl (by simp)] at h2;refine ah (Ri ..) ?_;refine aa (aH (by omega) (by omega)) ?_
  have := ih (P ++ [y]) H2 (by simp; omega) (by
   have e2 : P ++ y :: ([] ++ x :: (M ++ Q)) = (P ++ [y]) ++ x :: (M ++ Q) := by simp
   rw [← e2]
   exact h2.to)
  rw [fL, List.length_singleton, show P.length + 1 + M.length + 1 = P.length + (M.length + 1) + 1 from by omega] at this;rw [show ((P.length : Nat) : Int) + 1 = ((P.length + 1 : Nat) : Int) from by omega];refine pS ?_ this
  rintro v' H' ⟨e1, h3⟩
  refine ⟨e1, ?_⟩
  have e3 : (P ++ [y]) ++ (M ++ x :: Q) = P ++ ((y :: M) ++ x :: Q) := by simp
  rw [e3] at h3;exact h3
theorem Lp (s : Value) (y : Pt) {R : SP} : ∀ (d : Nat) (M P Q : List Pt) (H : AH), M.length = d → P.length + M.length < 1000000 → ae (ts 7 Pt.cells s (P ++ (M ++ y :: Q)) * R) H →
 wp (BI s (vi ((P.length : Nat) : Int)) (vi ((P.length + M.length : Nat) : Int)) H) fun v' H' => v' = .tuple #[] ∧ ae (ts 7 Pt.cells s (P ++ y :: (M ++ Q)) * R) H' := by
 intro d
 induction d with
 | zero =>
  intro M P Q H hd hb hh;have : M = [] := List.eq_nil_of_length_eq_zero hd;subst this;refine ah (EV ..) ?_;refine aa (fQ (by simp)) ?_;refine gs ?_;refine ah (Kr ..) ?_;refine ah (Q6 ..) ?_;exact aq ⟨rfl, hh⟩
 | succ d ih =>
  intro M P Q H hd hb hh;obtain ⟨M0, z, rfl⟩ : ∃ M0 z, M = M0 ++ [z] := ⟨M.dropLast, M.getLast (by intro e; rw [e] at hd; simp at hd), by rw [List.dropLast_concat_getLast]⟩
  have hd0 : M0.length = d := by simpa using hd
  rw [fL, List.length_singleton] at hb;refine ah (EV ..) ?_;rw [fL, List.length_singleton];refine aa (kN (by omega)) ?_;refine gs ?_;refine ah (Q8 ..) ?_;refine aa (bF (by omega) (by omega)) ?_;refine aa (bF (by omega) (by omega)) ?_
  have e : P ++ ((M0 ++ [z]) ++ y :: Q) = (P ++ M0) ++ z :: ([] ++ y :: Q) := by simp
  rw [e] at hh;refine RH (i := P.length + M0.length + 1) (j := P.length + M0.length) (by omega) (by omega) hh (at2 (by simp)) (sC (by simp)) fun H2 h2 => ?_;rw [ah2 (by simp) (by simp)] at h2;refine ah (Q9 ..) ?_;refine aa (bF (by omega) (by omega)) ?_
  have := ih M0 P (z :: Q) H2 hd0 (by omega) (by
   have e2 : (P ++ M0) ++ y :: ([] ++ z :: Q) = P ++ (M0 ++ y :: (z :: Q)) := by simp
   rw [← e2]
   exact h2.to)
  rw [show ((P.length + (M0.length + 1) : Nat) : Int) - 1 = ((P.length + M0.length : Nat) : Int) from by omega];refine pS ?_ this
  rintro v' H' ⟨e1, h3⟩
  refine ⟨e1, ?_⟩
  have e3 : P ++ y :: (M0 ++ z :: Q) = P ++ y :: ((M0 ++ [z]) ++ Q) := by simp
  rw [e3] at h3;exact h3
section
variable (A B : List Pt) (s : Value) (X Y : List TP) (hX : kX X) (hY : kX Y) (hB : z4 X Y) (hb : A.length + X.length + Y.length < 1000000)
include hX hY hB hb
theorem MQ (x : TP) (hx : X = [x]) {R : SP} {H : AH} (h : ae (ts 7 Pt.cells s (A ++ (pl X ++ (pl Y ++ B))) * R) H) :
 wp (Kx s (vi ((A.length : Nat) : Int)) mU (vi ((A.length + X.length : Nat) : Int)) (vi ((A.length + X.length + Y.length : Nat) : Int)) H) fun v' H' => ∃ Z : List TP, v' = .tuple #[] ∧ ae (pu (kX Z ∧ Z.Perm (X ++ Y)) * ts 7 Pt.cells s (A ++ (pl Z ++ B)) * R) H' := by
 have hXl : X.length = 1 := by rw [hx]; rfl
 have hx0 : X[0]'(by omega) = x := by subst hx; rfl
 refine ah (Rc ..) ?_;have bin : ∀ (d i j : Nat) (H : AH), j - i = d → i ≤ j → j ≤ Y.length → (∀ C, ∀ hC : C < Y.length, C < i → Y[C].2.step < x.2.step) → (∀ C, ∀ hC : C < Y.length, j ≤ C → ¬ Y[C].2.step < x.2.step) → ae (ts 7 Pt.cells s (A ++ (pl X ++ (pl Y ++ B))) * R) H →
  wp (sa s (vi ((A.length : Nat) : Int)) mU (vi ((A.length + X.length + i : Nat) : Int)) (vi ((A.length + X.length + j : Nat) : Int)) H) fun v' H' => ∃ Z : List TP, v' = .tuple #[] ∧ ae (pu (kX Z ∧ Z.Perm (X ++ Y)) * ts 7 Pt.cells s (A ++ (pl Z ++ B)) * R) H' := by
  intro d
  induction d using Nat.strongRecOn with
  | ind d ih =>
   intro i j H hd hij hj hlo hhi hh;refine ah (Ns ..) ?_
   by_cases hlt : i < j
   ·refine aa (cz (by omega)) ?_
    refine gs ?_;refine ah (Nu ..) ?_;refine Vy rfl rfl (by omega) ?_
    have hm : (A.length + X.length + i + (A.length + X.length + j)) / 2 = A.length + X.length + (i + j) / 2 := by omega
    rw [hm]
    have hc : (i + j) / 2 < Y.length := by omega
    refine qq (i := A.length + X.length + (i + j) / 2) rfl hh (an2 A B X Y hc rfl) ?_;refine qq (i := A.length) rfl hh (an1 A B X Y (C := 0) (by omega) (by omega)) ?_;refine VA hh fun H1 h1 => ?_;rw [hx0]
    by_cases hcmp : Y[(i + j) / 2].2.step < x.2.step
    ·refine aa (Bf hcmp) ?_
     refine gs ?_;refine aa (aH (by omega) (by omega)) ?_;rw [show ((A.length + X.length + (i + j) / 2 : Nat) : Int) + 1 = ((A.length + X.length + ((i + j) / 2 + 1) : Nat) : Int) from by omega];refine ih (j - ((i + j) / 2 + 1)) (by omega) ((i + j) / 2 + 1) j H1 rfl (by omega) hj (fun C hC hCl => ?_) hhi h1;have := kV hY (i := C) (j := (i + j) / 2) (by omega) hc;omega
    ·refine aa (Be hcmp) ?_
     refine gs ?_;refine ih ((i + j) / 2 - i) (by omega) i ((i + j) / 2) H1 rfl (by omega) (by omega) hlo (fun C hC hCl => ?_) h1;have := kV hY (i := (i + j) / 2) (j := C) hCl hC;omega
   ·refine aa (bW (by omega)) ?_
    refine gs ?_
    have e : j = i := by omega
    subst e;refine ah (F3 ..) ?_;refine ah (Re ..) ?_;refine ah (Rg ..) ?_
    have ht : (pl (Y.take j)).length = j := by rw [dB, List.length_take]; omega
    have eY : Y.take j ++ Y.drop j = Y := List.take_append_drop ..
    have b := VV s x.2 (pl (Y.drop j) ++ B) (R := R) (pl (Y.take j)) A H (by omega) (by
     have e2 : A ++ (pl X ++ (pl Y ++ B)) = A ++ x.2 :: (pl (Y.take j) ++ (pl (Y.drop j) ++ B)) := by
      rw [← List.append_assoc (pl (Y.take j)), ← iW, eY, hx]; rfl
     rw [← e2]
     exact hh)
    rw [ht] at b;rw [hXl, show A.length + 1 + j = A.length + j + 1 from by omega];refine pS ?_ b
    rintro v' H' ⟨e1, h3⟩
    refine ⟨Y.take j ++ x :: Y.drop j, e1, ?_⟩;rw [ak, ae.pu];have hYs := de.1 (by rw [eY]; exact hY : kX (Y.take j ++ Y.drop j));have hbel : ∀ y ∈ Y, x.1 < y.1 := fun y hy => hB x (by rw [hx]; exact List.mem_singleton.2 rfl) y hy;refine ⟨⟨de.2 ⟨hYs.1, gP.2 ⟨fun y hy => ?_, hYs.2.1⟩, fun a ha b hb2 => ?_⟩, ?_⟩, ?_⟩
    ·obtain ⟨i, hi, hge, rfl⟩ := ni hy
     have := hhi i hi hge;have := hbel _ (X0 hi);unfold ltT;omega
    ·rcases uj.1 hb2 with e3 | hb2
     ·subst e3
      obtain ⟨i, hi, hlt2, rfl⟩ := nj ha;exact .inl (hlo i hi hlt2)
     ·exact hYs.2.2 a ha b hb2
    ·refine (List.perm_middle (l₁ := Y.take j) (l₂ := Y.drop j) (a := x)).trans ?_
     rw [eY, hx];exact List.Perm.refl _
    ·have e4 : A ++ (pl (Y.take j) ++ x.2 :: (pl (Y.drop j) ++ B)) = A ++ (pl (Y.take j ++ x :: Y.drop j) ++ B) := by simp [pl]
     rw [e4] at h3;exact h3
 have := bin Y.length 0 Y.length H rfl (Nat.zero_le _) (bB _) (fun C hC hl => by omega) (fun C hC hl => by omega) h;exact this
theorem Qe (y : TP) (hy : Y = [y]) {R : SP} {H : AH} (h : ae (ts 7 Pt.cells s (A ++ (pl X ++ (pl Y ++ B))) * R) H) :
 wp (Ku s (vi ((A.length + X.length : Nat) : Int)) mU (vi ((A.length : Nat) : Int)) (vi ((A.length + X.length : Nat) : Int)) H) fun v' H' => ∃ Z : List TP, v' = .tuple #[] ∧ ae (pu (kX Z ∧ Z.Perm (X ++ Y)) * ts 7 Pt.cells s (A ++ (pl Z ++ B)) * R) H' := by
 have hYl : Y.length = 1 := by rw [hy]; rfl
 have hy0 : Y[0]'(by omega) = y := by subst hy; rfl
 refine ah (Q4 ..) ?_;have bin : ∀ (d i j : Nat) (H : AH), j - i = d → i ≤ j → j ≤ X.length → (∀ C, ∀ hC : C < X.length, C < i → ¬ y.2.step < X[C].2.step) → (∀ C, ∀ hC : C < X.length, j ≤ C → y.2.step < X[C].2.step) → ae (ts 7 Pt.cells s (A ++ (pl X ++ (pl Y ++ B))) * R) H →
  wp (xf s (vi ((A.length + X.length : Nat) : Int)) mU (vi ((A.length + i : Nat) : Int)) (vi ((A.length + j : Nat) : Int)) H) fun v' H' => ∃ Z : List TP, v' = .tuple #[] ∧ ae (pu (kX Z ∧ Z.Perm (X ++ Y)) * ts 7 Pt.cells s (A ++ (pl Z ++ B)) * R) H' := by
  intro d
  induction d using Nat.strongRecOn with
  | ind d ih =>
   intro i j H hd hij hj hlo hhi hh;refine ah (Ra ..) ?_
   by_cases hlt : i < j
   ·refine aa (cz (by omega)) ?_
    refine gs ?_;refine ah (Rb ..) ?_;refine Vy rfl rfl (by omega) ?_
    have hm : (A.length + i + (A.length + j)) / 2 = A.length + (i + j) / 2 := by omega
    rw [hm]
    have hc : (i + j) / 2 < X.length := by omega
    refine qq (i := A.length + X.length) rfl hh (an2 A B X Y (C := 0) (by omega) rfl) ?_;refine qq (i := A.length + (i + j) / 2) rfl hh (an1 A B X Y hc rfl) ?_;refine VA hh fun H1 h1 => ?_;rw [hy0]
    by_cases hcmp : y.2.step < X[(i + j) / 2].2.step
    ·refine aa (Bf hcmp) ?_
     refine gs ?_;rw [Bool.not_true];refine gs ?_;refine ih ((i + j) / 2 - i) (by omega) i ((i + j) / 2) H1 rfl (by omega) (by omega) hlo (fun C hC hCl => ?_) h1;have := kV hX (i := (i + j) / 2) (j := C) hCl hC;omega
    ·refine aa (Be hcmp) ?_
     refine gs ?_;rw [Bool.not_false];refine gs ?_;refine aa (aH (by omega) (by omega)) ?_;rw [show ((A.length + (i + j) / 2 : Nat) : Int) + 1 = ((A.length + ((i + j) / 2 + 1) : Nat) : Int) from by omega];refine ih (j - ((i + j) / 2 + 1)) (by omega) ((i + j) / 2 + 1) j H1 rfl (by omega) hj (fun C hC hCl => ?_) hhi h1;have := kV hX (i := C) (j := (i + j) / 2) (by omega) hc;omega
   ·refine aa (bW (by omega)) ?_
    refine gs ?_
    have e : j = i := by omega
    subst e;refine ah (Ks ..) ?_;refine ah (Q5 ..) ?_;refine ah (Q7 ..) ?_
    have ht : (A ++ pl (X.take j)).length = A.length + j := by rw [fL, dB, List.length_take]; omega
    have ht2 : (pl (X.drop j)).length = X.length - j := by rw [dB, List.length_drop]
    have eX : X.take j ++ X.drop j = X := List.take_append_drop ..
    have b := Lp s y.2 (R := R) (X.length - j) (pl (X.drop j)) (A ++ pl (X.take j)) B H ht2 (by rw [ht, ht2]; omega) (by
     have e2 : A ++ (pl X ++ (pl Y ++ B)) = (A ++ pl (X.take j)) ++ (pl (X.drop j) ++ y.2 :: B) := by
      rw [List.append_assoc, ← List.append_assoc (pl (X.take j)), ← iW, eX, hy]; rfl
     rw [← e2]
     exact hh)
    rw [ht, ht2, show A.length + j + (X.length - j) = A.length + X.length from by omega] at b;refine pS ?_ b
    rintro v' H' ⟨e1, h3⟩
    refine ⟨X.take j ++ y :: X.drop j, e1, ?_⟩;rw [ak, ae.pu];have hXs := de.1 (by rw [eX]; exact hX : kX (X.take j ++ X.drop j));have hbel : ∀ x ∈ X, x.1 < y.1 := fun x hx => hB x hx y (by rw [hy]; exact List.mem_singleton.2 rfl);refine ⟨⟨de.2 ⟨hXs.1, gP.2 ⟨fun z hz => ?_, hXs.2.1⟩, fun a ha b hb2 => ?_⟩, ?_⟩, ?_⟩
    ·obtain ⟨i, hi, hge, rfl⟩ := ni hz
     exact .inl (hhi i hi hge)
    ·rcases uj.1 hb2 with e3 | hb2
     ·subst e3
      obtain ⟨i, hi, hlt2, rfl⟩ := nj ha;have := hlo i hi hlt2;have := hbel _ (X0 hi);unfold ltT;omega
     ·exact hXs.2.2 a ha b hb2
    ·refine (List.perm_middle (l₁ := X.take j) (l₂ := X.drop j) (a := y)).trans ?_
     rw [eX, hy];exact (List.perm_append_comm (l₁ := [y]) (l₂ := X))
    ·have e4 : (A ++ pl (X.take j)) ++ y.2 :: (pl (X.drop j) ++ B) = A ++ (pl (X.take j ++ y :: X.drop j) ++ B) := by simp [pl]
     rw [e4] at h3;exact h3
 have := bin X.length 0 X.length H rfl (Nat.zero_le _) (bB _) (fun C hC hl => by omega) (fun C hC hl => by omega) h;rw [Nat.add_zero] at this;exact this
end
def LoP (X Y : List TP) (hf S : Nat) : Prop := ∃ C, C + 1 = S ∧ ∃ (h1 : C < X.length) (h2 : hf - 1 - C < Y.length), X[C].2.step ≤ Y[hf - 1 - C].2.step
def HiP (X Y : List TP) (hf S : Nat) : Prop := ∃ (h1 : S < X.length) (h2 : hf - 1 - S < Y.length), S < hf ∧ Y[hf - 1 - S].2.step < X[S].2.step
theorem HN (s : Value) : ∀ (N : Nat) (A B : List Pt) (X Y : List TP), X.length + Y.length ≤ N → 1 ≤ X.length → 1 ≤ Y.length → kX X → kX Y → z4 X Y → A.length + X.length + Y.length < 1000000 →
 Sp G0 [s, vi ((A.length : Nat) : Int), vi ((A.length + X.length : Nat) : Int), vi ((A.length + X.length + Y.length : Nat) : Int), mU] (ts 7 Pt.cells s (A ++ (pl X ++ (pl Y ++ B)))) (fun _ : List TP => .tuple #[]) (fun Z => pu (kX Z ∧ Z.Perm (X ++ Y)) * ts 7 Pt.cells s (A ++ (pl Z ++ B))) := by
 intro N
 induction N with
 | zero => intro A B X Y hN hX1; omega
 | succ N ih =>
  intro A B X Y hN hX1 hY1 hX hY hB hb;refine bh (apH _ _ _ _ _) fun R H h => ?_;refine aa (bF (by omega) (by omega)) ?_
  by_cases hx1 : X.length = 1
  ·refine aa (bo (by omega)) ?_
   refine ah (EW ..) ?_;refine gs ?_;obtain ⟨x, hx⟩ := List.length_eq_one_iff.1 hx1;exact MQ A B s X Y hX hY hB hb x hx h
  ·refine aa (aG (by omega)) ?_
   refine ah (EW ..) ?_;refine gs ?_;refine ah (YM ..) ?_;refine aa (bF (by omega) (by omega)) ?_
   by_cases hy1 : Y.length = 1
   ·refine aa (bo (by omega)) ?_
    refine ah (EU ..) ?_;refine gs ?_;obtain ⟨y, hy⟩ := List.length_eq_one_iff.1 hy1;exact Qe A B s X Y hX hY hB hb y hy h
   ·refine aa (aG (by omega)) ?_
    refine ah (EU ..) ?_;refine gs ?_;refine ah (YN ..) ?_;refine Vy rfl rfl (by omega) ?_;obtain ⟨hf, hfe⟩ : ∃ hf, hf = (X.length + Y.length) / 2 := ⟨_, rfl⟩;rw [show (A.length + (A.length + X.length + Y.length)) / 2 = A.length + hf from by omega];refine aa (aH (by omega) (by omega)) ?_;refine ah (YO ..) ?_
    -- what is behind the search
    have rest : ∀ (S : Nat) (H : AH), S ≤ X.length → S ≤ hf → hf - S ≤ Y.length →
     (LoP X Y hf S ∨ S = 0 ∨ hf - S = Y.length) →
     (HiP X Y hf S ∨ S = X.length ∨ S = hf) →
     ae (ts 7 Pt.cells s (A ++ (pl X ++ (pl Y ++ B))) * R) H →
     wp (Q3 s (vi ((A.length : Nat) : Int)) (vi ((A.length + X.length : Nat) : Int)) (vi ((A.length + X.length + Y.length : Nat) : Int)) mU (vi ((A.length + hf : Nat) : Int)) (vi (((A.length + hf : Nat) : Int) + ((A.length + X.length : Nat) : Int))) (vi ((A.length + S : Nat) : Int)) H)
      fun v' H' => ∃ Z : List TP, v' = .tuple #[] ∧ ae (pu (kX Z ∧ Z.Perm (X ++ Y)) * ts 7 Pt.cells s (A ++ (pl Z ++ B)) * R) H' := by
     intro S H hSX hSf hSY hlo hhi hh;obtain ⟨E, hE⟩ : ∃ E, E = hf - S := ⟨_, rfl⟩;have eX : X.take S ++ X.drop S = X := List.take_append_drop ..;have eY : Y.take E ++ Y.drop E = Y := List.take_append_drop ..
     have l1 : (X.take S).length = S := by rw [List.length_take]; omega
     have l2 : (X.drop S).length = X.length - S := List.length_drop
     have l3 : (Y.take E).length = E := by rw [List.length_take]; omega
     have l4 : (Y.drop E).length = Y.length - E := List.length_drop
     have c1 : ∀ x ∈ X.take S, ∀ y ∈ Y.drop E, x.2.step ≤ y.2.step := by
      clear hhi
      intro x hx y hy;obtain ⟨i, hi, hiS, rfl⟩ := nj hx;obtain ⟨j, hj, hjE, rfl⟩ := ni hy
      rcases hlo with ⟨C, hC, h1, h2, h3⟩ | h0 | h0
      ·have a1 := kV hX (i := i) (j := C) (by omega) h1
       have a2 := kV hY (i := hf - 1 - C) (j := j) (by omega) hj;omega
      ·omega
      ·omega
     have c2 : ∀ y ∈ Y.take E, ∀ x ∈ X.drop S, y.2.step < x.2.step := by
      clear hlo
      intro y hy x hx;obtain ⟨i, hi, hiS, rfl⟩ := ni hx;obtain ⟨j, hj, hjE, rfl⟩ := nj hy
      rcases hhi with ⟨h1, h2, h4, h3⟩ | h0 | h0
      ·have a1 := kV hX (i := S) (j := i) (by omega) hi
       have a2 := kV hY (i := j) (j := hf - 1 - S) (by omega) h2;omega
      ·omega
      ·omega
     clear hlo hhi
     have sX := de.1 (by rw [eX]; exact hX : kX (X.take S ++ X.drop S));have sY := de.1 (by rw [eY]; exact hY : kX (Y.take E ++ Y.drop E))
     have hB' : z4 (X.take S ++ X.drop S) (Y.take E ++ Y.drop E) := by rw [eX, eY]; exact hB
     have b11 : z4 (X.take S) (Y.take E) := hB'.sub (fun x => List.mem_append_left _) (fun x => List.mem_append_left _);have b22 : z4 (X.drop S) (Y.drop E) := hB'.sub (fun x => List.mem_append_right _) (fun x => List.mem_append_right _);refine ah (YP ..) ?_;refine aa (bF (by omega) (by omega)) ?_;rw [show ((A.length + hf : Nat) : Int) + ((A.length + X.length : Nat) : Int) - ((A.length + S : Nat) : Int) = ((A.length + X.length + E : Nat) : Int) from by omega];refine ah (YQ ..) ?_
     -- the second halves
     have part2 : ∀ (Z1 : List TP) (H : AH), kX Z1 → Z1.Perm (X.take S ++ Y.take E) → ae (ts 7 Pt.cells s (A ++ (pl Z1 ++ (pl (X.drop S) ++ (pl (Y.drop E) ++ B)))) * R) H →
      wp (Kw s (vi ((A.length + X.length + Y.length : Nat) : Int)) mU (vi ((A.length + hf : Nat) : Int)) (vi ((A.length + X.length + E : Nat) : Int)) H)
       fun v' H' => ∃ Z : List TP, v' = .tuple #[] ∧ ae (pu (kX Z ∧ Z.Perm (X ++ Y)) * ts 7 Pt.cells s (A ++ (pl Z ++ B)) * R) H' := by
      intro Z1 H hz1 hp1 h1;have lz := hp1.length_eq;rw [fL, l1, l3] at lz;have done : ∀ (Z2 : List TP) (H : AH), kX Z2 → Z2.Perm (X.drop S ++ Y.drop E) → ae (ts 7 Pt.cells s ((A ++ pl Z1) ++ (pl Z2 ++ B)) * R) H →
       ∃ Z : List TP, (.tuple #[] : Value) = .tuple #[] ∧ ae (pu (kX Z ∧ Z.Perm (X ++ Y)) * ts 7 Pt.cells s (A ++ (pl Z ++ B)) * R) H := by
       intro Z2 H hz2 hp2 h2;have cut := al1 (by rw [eX]; exact hX) (by rw [eY]; exact hY) hB' c1 c2 hz1 hz2 hp1 hp2;rw [eX, eY] at cut;refine ⟨Z1 ++ Z2, rfl, ?_⟩;rw [ak, ae.pu];refine ⟨cut, ?_⟩;rw [iW, List.append_assoc];rw [List.append_assoc] at h2;exact h2
      refine ah (YS ..) ?_
      by_cases g1 : hf < X.length + E
      ·refine aa (cz (by omega)) ?_
       refine gs ?_
       by_cases g2 : E < Y.length
       ·refine aa (cz (by omega)) ?_
        refine gs ?_;have m := ih (A ++ pl Z1) B (X.drop S) (Y.drop E) (by omega) (by omega) (by omega) sX.2.1 sY.2.1 b22 (by rw [fL, dB]; omega);rw [fL, dB, lz, l2, l4, show A.length + (S + E) = A.length + hf from by omega, show A.length + hf + (X.length - S) = A.length + X.length + E from by omega, show A.length + X.length + E + (Y.length - E) = A.length + X.length + Y.length from by omega] at m
        have h2 : ae (ts 7 Pt.cells s ((A ++ pl Z1) ++ (pl (X.drop S) ++ (pl (Y.drop E) ++ B))) * R) H := by rw [List.append_assoc]; exact h1
        refine af h2 m fun Z2 H3 h3 => ?_;rw [ak, ae.pu] at h3;exact aq (done Z2 H3 h3.1.1 h3.1.2 h3.2.to)
       ·refine aa (bW (by omega)) ?_
        refine gs ?_;have e0 : Y.drop E = [] := List.eq_nil_of_length_eq_zero (by omega);exact aq (done (X.drop S) H sX.2.1 (by rw [e0, List.append_nil]) (by rw [e0] at h1; rw [List.append_assoc]; exact h1))
      ·refine aa (bW (by omega)) ?_
       refine gs ?_;have e0 : X.drop S = [] := List.eq_nil_of_length_eq_zero (by omega);exact aq (done (Y.drop E) H sY.2.1 (by rw [e0, List.nil_append]) (by rw [e0] at h1; rw [List.append_assoc]; exact h1))
     -- the first halves
     have part1 : ∀ (H : AH), ae (ts 7 Pt.cells s (A ++ (pl (X.take S) ++ (pl (Y.take E) ++ (pl (X.drop S) ++ (pl (Y.drop E) ++ B))))) * R) H →
      wp (Kv s (vi ((A.length : Nat) : Int)) (vi ((A.length + X.length + Y.length : Nat) : Int)) mU (vi ((A.length + hf : Nat) : Int)) (vi ((A.length + S : Nat) : Int)) (vi ((A.length + X.length + E : Nat) : Int)) H)
       fun v' H' => ∃ Z : List TP, v' = .tuple #[] ∧ ae (pu (kX Z ∧ Z.Perm (X ++ Y)) * ts 7 Pt.cells s (A ++ (pl Z ++ B)) * R) H' := by
      intro H h1;refine ah (YR ..) ?_
      by_cases g1 : 0 < S
      ·refine aa (cz (by omega)) ?_
       refine gs ?_
       by_cases g2 : S < hf
       ·refine aa (cz (by omega)) ?_
        refine gs ?_;have m := ih A (pl (X.drop S) ++ (pl (Y.drop E) ++ B)) (X.take S) (Y.take E) (by omega) (by omega) (by omega) sX.1 sY.1 b11 (by omega);rw [l1, l3, show A.length + S + E = A.length + hf from by omega] at m;refine af h1 m fun Z1 H3 h3 => ?_;rw [ak, ae.pu] at h3;exact part2 Z1 H3 h3.1.1 h3.1.2 h3.2.to
       ·refine aa (bW (by omega)) ?_
        refine gs ?_;have e0 : Y.take E = [] := List.eq_nil_of_length_eq_zero (by omega);exact part2 (X.take S) H sX.1 (by rw [e0, List.append_nil]) (by rw [e0] at h1; exact h1)
      ·refine aa (bW (by omega)) ?_
       refine gs ?_;have e0 : X.take S = [] := List.eq_nil_of_length_eq_zero (by omega);exact part2 (Y.take E) H sY.1 (by rw [e0, List.nil_append]) (by rw [e0] at h1; exact h1)
     have e3 : A ++ (pl X ++ (pl Y ++ B)) = (A ++ pl (X.take S)) ++ (pl (X.drop S) ++ (pl (Y.take E) ++ (pl (Y.drop E) ++ B))) := by
      have p1 : pl X = pl (X.take S) ++ pl (X.drop S) := by rw [← iW, eX]
      have p2 : pl Y = pl (Y.take E) ++ pl (Y.drop E) := by rw [← iW, eY]
      rw [p1, p2];simp only [List.append_assoc]
     rw [e3] at hh
     by_cases g1 : S < X.length
     ·refine aa (cz (by omega)) ?_
      refine gs ?_
      by_cases g2 : 0 < E
      ·refine aa (cz (by omega)) ?_
       refine gs ?_;have m := QW s mU (A ++ pl (X.take S)) (pl (X.drop S)) (pl (Y.take E)) (pl (Y.drop E) ++ B) (by rw [dB]; omega) (by rw [dB]; omega) (by rw [fL, dB, dB, dB]; omega);rw [fL, dB, dB, dB, l1, l2, l3, show A.length + S + (X.length - S) = A.length + X.length from by omega] at m;refine af hh m fun _ H3 h3 => ?_;refine part1 H3 ?_
       have e4 : (A ++ pl (X.take S)) ++ (pl (Y.take E) ++ (pl (X.drop S) ++ (pl (Y.drop E) ++ B))) = A ++ (pl (X.take S) ++ (pl (Y.take E) ++ (pl (X.drop S) ++ (pl (Y.drop E) ++ B)))) := by simp only [List.append_assoc]
       rw [← e4];exact h3.to
      ·refine aa (bW (by omega)) ?_
       refine gs ?_;have e0 : Y.take E = [] := List.eq_nil_of_length_eq_zero (by omega);refine part1 H ?_;rw [e0] at hh ⊢
       simpa only [pl, List.map_nil, List.nil_append, List.append_assoc] using hh
     ·refine aa (bW (by omega)) ?_
      refine gs ?_;have e0 : X.drop S = [] := List.eq_nil_of_length_eq_zero (by omega);refine part1 H ?_;rw [e0] at hh ⊢
      simpa only [pl, List.map_nil, List.nil_append, List.append_assoc] using hh
    -- the search
    have bin : ∀ (lo hi : Nat), hi ≤ X.length → hi ≤ hf → hf - lo ≤ Y.length → (lo = 0 ∨ hf - lo = Y.length) → (hi = X.length ∨ hi = hf) →
     ∀ (d i j : Nat) (H : AH), j - i = d → lo ≤ i → i ≤ j → j ≤ hi →
     (LoP X Y hf i ∨ i = lo) →
     (HiP X Y hf j ∨ j = hi) →
     ae (ts 7 Pt.cells s (A ++ (pl X ++ (pl Y ++ B))) * R) H →
     wp (xe s (vi ((A.length : Nat) : Int)) (vi ((A.length + X.length : Nat) : Int)) (vi ((A.length + X.length + Y.length : Nat) : Int)) mU (vi ((A.length + hf : Nat) : Int)) (vi (((A.length + hf : Nat) : Int) + ((A.length + X.length : Nat) : Int))) (vi ((A.length + i : Nat) : Int)) (vi ((A.length + j : Nat) : Int)) (vi (((A.length + hf : Nat) : Int) + ((A.length + X.length : Nat) : Int) - 1)) H)
      fun v' H' => ∃ Z : List TP, v' = .tuple #[] ∧ ae (pu (kX Z ∧ Z.Perm (X ++ Y)) * ts 7 Pt.cells s (A ++ (pl Z ++ B)) * R) H' := by
     intro lo hi hhiX hhif hloY hlo0 hhi0 d
     induction d using Nat.strongRecOn with
     | ind d ihd =>
      intro i j H hd hli hij hjh hlow hhigh hh;refine ah (QZ ..) ?_
      by_cases hlt : i < j
      ·refine aa (cz (by omega)) ?_
       refine gs ?_;refine ah (Q2 ..) ?_;refine Vy rfl rfl (by omega) ?_;rw [show (A.length + i + (A.length + j)) / 2 = A.length + (i + j) / 2 from by omega];refine aa (bF (by omega) (by omega)) ?_
       have hcX : (i + j) / 2 < X.length := by omega
       have hcY : hf - 1 - (i + j) / 2 < Y.length := by omega
       refine qq (i := A.length + X.length + (hf - 1 - (i + j) / 2)) (by omega) hh (an2 A B X Y hcY rfl) ?_;refine qq (i := A.length + (i + j) / 2) rfl hh (an1 A B X Y hcX rfl) ?_;refine VA hh fun H1 h1 => ?_
       by_cases hcmp : Y[hf - 1 - (i + j) / 2].2.step < X[(i + j) / 2].2.step
       ·refine aa (Bf hcmp) ?_
        refine gs ?_;rw [Bool.not_true];refine gs ?_;exact ihd ((i + j) / 2 - i) (by omega) i ((i + j) / 2) H1 rfl hli (by omega) (by omega) hlow (.inl ⟨hcX, hcY, by omega, hcmp⟩) h1
       ·refine aa (Be hcmp) ?_
        refine gs ?_;rw [Bool.not_false];refine gs ?_;refine aa (aH (by omega) (by omega)) ?_;rw [show ((A.length + (i + j) / 2 : Nat) : Int) + 1 = ((A.length + ((i + j) / 2 + 1) : Nat) : Int) from by omega];exact ihd (j - ((i + j) / 2 + 1)) (by omega) ((i + j) / 2 + 1) j H1 rfl (by omega) (by omega) hjh (.inl ⟨(i + j) / 2, rfl, hcX, hcY, by omega⟩) hhigh h1
      ·refine aa (bW (by omega)) ?_
       refine gs ?_
       have e : j = i := by omega
       subst e;refine ah (Kq ..) ?_;refine rest j H (by omega) (by omega) (by omega) ?_ ?_ hh
       ·rcases hlow with h1 | h1
        ·exact .inl h1
        ·rcases hlo0 with h2 | h2
         ·exact .inr (.inl (by omega))
         ·exact .inr (.inr (by rw [h1]; exact h2))
       ·rcases hhigh with h1 | h1
        ·exact .inl h1
        ·rcases hhi0 with h2 | h2
         ·exact .inr (.inl (by omega))
         ·exact .inr (.inr (by omega))
    by_cases hmid : hf < X.length
    ·refine aa (kN (by omega)) ?_
     refine gs ?_;refine aa (bF (by omega) (by omega)) ?_;refine ah (Hy ..) ?_;refine aa (bF (by omega) (by omega)) ?_;refine ah (Hz ..) ?_;rw [show ((A.length + hf : Nat) : Int) + ((A.length + X.length : Nat) : Int) - ((A.length + X.length + Y.length : Nat) : Int) = ((A.length + (hf - Y.length) : Nat) : Int) from by omega];exact bin (hf - Y.length) hf (by omega) (bB _) (by omega) (.inr (by omega)) (.inr rfl) _ (hf - Y.length) hf H rfl (bB _) (by omega) (bB _) (.inr rfl) (.inr rfl) h
    ·refine aa (fQ (by omega)) ?_
     refine gs ?_;refine ah (Hy ..) ?_;refine aa (bF (by omega) (by omega)) ?_;refine ah (Hz ..) ?_;have := bin 0 X.length (bB _) (by omega) (by omega) (.inl rfl) (.inl rfl) _ 0 X.length H rfl (bB _) (by omega) (bB _) (.inr rfl) (.inr rfl) h;rw [Nat.add_zero] at this;exact this
theorem MR (s : Value) (bs : Nat) (h0 : 1 ≤ bs) {R : SP} (T : Nat) (hT : T < 1000000) (hbs : bs < 1000000) {Q : Value → AH → Prop} :
 ∀ (N : Nat) (L D : List TP) (H : AH), L.length ≤ N → D.length + L.length = T → RQ bs L → ae (ts 7 Pt.cells s (pl D ++ pl L) * R) H →
 (∀ (Z : List TP) (H : AH), Z.Perm L → RQ (2 * bs) Z → ae (ts 7 Pt.cells s (pl D ++ pl Z) * R) H → wp (KB s (vi (T : Int)) mU (vi (bs : Int)) H) Q) →
 wp (BK s (vi (T : Int)) mU (vi (bs : Int)) (vi (D.length : Int)) (vi (((D.length + 2 * bs : Nat)) : Int)) H) Q := by
 intro N
 induction N using Nat.strongRecOn with
 | ind N ih =>
  intro L D H hN hDL hC hh hk;refine ah (Rj ..) ?_
  by_cases hle : 2 * bs ≤ L.length
  ·refine aa (ML (by omega)) ?_
   refine gs ?_;obtain ⟨X, L2, rfl, hXl, hXs, hXB, hC2⟩ := hC.split (by omega);rw [fL] at hle hN hDL;obtain ⟨Y, L3, rfl, hYl, hYs, hYB, hC3⟩ := hC2.split (by omega);rw [fL] at hle hN hDL;have hB := z4.append_right.1 hXB;refine ah (Rk ..) ?_;refine aa (aH (by omega) (by omega)) ?_;have m := HN s _ (pl D) (pl L3) X Y (bB _) (by omega) (by omega) hXs hYs hB.1 (by rw [dB]; omega);rw [dB, hXl, hYl] at m;rw [show ((D.length : Nat) : Int) + ((bs : Nat) : Int) = ((D.length + bs : Nat) : Int) from by omega, show D.length + 2 * bs = D.length + bs + bs from by omega]
   have e1 : pl D ++ pl (X ++ (Y ++ L3)) = pl D ++ (pl X ++ (pl Y ++ pl L3)) := by rw [iW, iW]
   rw [e1] at hh;refine af hh m fun Z H1 h1 => ?_;rw [ak, ae.pu] at h1;obtain ⟨⟨hZs, hZp⟩, h1⟩ := h1;have hZl := hZp.length_eq;rw [fL] at hZl;refine aa (oh (by omega) (by omega)) ?_;refine aa (aH (by omega) (by omega)) ?_
   have := ih L3.length (by omega) L3 (D ++ Z) H1 (bB _) (by rw [fL]; omega) hC3 (by
    rw [iW, List.append_assoc]; exact h1.to) (fun Z2 H2 hp2 hc2 h2 => by
    refine hk (Z ++ Z2) H2 ?_ (.cons (by omega) hZs ?_ hc2) ?_
    ·rw [← List.append_assoc]
     exact hZp.append hp2
    ·have hb3 : z4 (X ++ Y) L3 := fun x hx y hy => (List.mem_append.1 hx).elim (fun q => hB.2 x q y hy) (fun q => hYB x q y hy)
     exact hb3.perm hZp hp2
    ·rw [iW, ← List.append_assoc, ← iW D Z]
     exact h2)
   rw [fL, hZl, hXl, hYl] at this;rw [show ((D.length + bs + bs : Nat) : Int) + 2 * ((bs : Nat) : Int) = ((D.length + (bs + bs) + 2 * bs : Nat) : Int) from by omega, show D.length + bs + bs = D.length + (bs + bs) from by omega];exact this
  ·refine aa (MK (by omega)) ?_
   refine gs ?_;refine ah (Ky ..) ?_;refine ah (Y5 ..) ?_;refine aa (aH (by omega) (by omega)) ?_
   by_cases hlt : bs < L.length
   ·refine aa (cz (by omega)) ?_
    refine gs ?_;obtain ⟨X, Y, rfl, hXl, hXs, hXB, hC2⟩ := hC.split (by omega);rw [fL] at hle hN hDL hlt;have m := HN s _ (pl D) [] X Y (bB _) (by omega) (by omega) hXs (hC2.short (by omega)) hXB (by rw [dB]; omega);rw [dB, hXl, List.append_nil, show D.length + bs + Y.length = T from by omega] at m;rw [show ((D.length : Nat) : Int) + ((bs : Nat) : Int) = ((D.length + bs : Nat) : Int) from by omega]
    have e1 : pl D ++ pl (X ++ Y) = pl D ++ (pl X ++ pl Y) := by rw [iW]
    rw [e1] at hh;refine af hh m fun Z H1 h1 => ?_;rw [ak, ae.pu] at h1;obtain ⟨⟨hZs, hZp⟩, h1⟩ := h1;have hZl := hZp.length_eq;rw [fL] at hZl;rw [List.append_nil] at h1;exact hk Z H1 hZp (.last (by omega) hZs) h1.to
   ·refine aa (bW (by omega)) ?_
    refine gs ?_;exact hk L H (List.Perm.refl _) (.last (by omega) (hC.short (by omega))) hh
theorem X6 (s : Value) {R : SP} (L0 : List TP) (hT : L0.length < 400000) : ∀ (N : Nat) (bs : Nat) (L : List TP) (H : AH), 1 ≤ bs → bs < 1000000 → L0.length - bs ≤ N → L.Perm L0 → RQ bs L → ae (ts 7 Pt.cells s (pl L) * R) H →
 wp (KA s (vi (L0.length : Int)) mU (vi (bs : Int)) H) fun v' H' => ∃ Z : List TP, v' = .tuple #[] ∧ ae (pu (kX Z ∧ Z.Perm L0) * ts 7 Pt.cells s (pl Z) * R) H' := by
 intro N
 induction N using Nat.strongRecOn with
 | ind N ih =>
  intro bs L H h0 hbs hN hp hC hh;have hl := hp.length_eq;refine ah (Y0 ..) ?_
  by_cases hlt : bs < L0.length
  ·refine aa (cz (by omega)) ?_
   refine gs ?_;refine ah (Y3 ..) ?_;refine aa (oh (by omega) (by omega)) ?_;refine ah (Y4 ..) ?_
   have := MR s bs h0 (R := R) L0.length (by omega) hbs (Q := fun v' H' => ∃ Z : List TP, v' = .tuple #[] ∧ ae (pu (kX Z ∧ Z.Perm L0) * ts 7 Pt.cells s (pl Z) * R) H') L.length L [] H (bB _) (by simpa using hl) hC (by simpa using hh) (fun Z H1 hp1 hc1 h1 => by
    refine ah (Y6 ..) ?_;refine aa (oh (by omega) (by omega)) ?_;rw [show ((bs : Nat) : Int) * 2 = ((2 * bs : Nat) : Int) from by omega]
    exact ih (L0.length - 2 * bs) (by omega) (2 * bs) Z H1 (by omega) (by omega) (bB _) (hp1.trans hp) hc1 (by simpa using h1))
   rw [List.length_nil, Nat.zero_add] at this;rw [show 2 * ((bs : Nat) : Int) = ((2 * bs : Nat) : Int) from by omega];exact this
  ·refine aa (bW (by omega)) ?_
   refine gs ?_;refine ah (Ny ..) ?_;refine aq ⟨L, rfl, ?_⟩;rw [ak, ae.pu];exact ⟨⟨hC.short (by omega), hp⟩, hh⟩
theorem an5 (s : Value) (T : Nat) (hT : T < 400000) {R : SP} {Q : Value → AH → Prop} : ∀ (N : Nat) (L D : List TP) (H : AH), L.length ≤ N → D.length + L.length = T → Asc L → ae (ts 7 Pt.cells s (pl D ++ pl L) * R) H →
 (∀ (Z : List TP) (H : AH), Z.Perm L → RQ 20 Z → ae (ts 7 Pt.cells s (pl D ++ pl Z) * R) H → wp (Rl s (vi (T : Int)) mU (vi 20) H) Q) →
 wp (BL s (vi (T : Int)) mU (vi 20) (vi (D.length : Int)) (vi ((D.length + 20 : Nat) : Int)) H) Q := by
 intro N
 induction N using Nat.strongRecOn with
 | ind N ih =>
  intro L D H hN hDL hA hh hk;refine ah (Rm ..) ?_
  by_cases hle : 20 ≤ L.length
  ·refine aa (ML (by omega)) ?_
   refine gs ?_;refine ah (Rn ..) ?_;have eL : L.take 20 ++ L.drop 20 = L := List.take_append_drop ..
   have l1 : (L.take 20).length = 20 := by rw [List.length_take]; omega
   have l2 : (L.drop 20).length = L.length - 20 := List.length_drop;obtain ⟨a1, a2, a3⟩ := Ol.1 (by rw [eL]; exact hA : Asc (L.take 20 ++ L.drop 20));have m := GU (pl D) (pl (L.drop 20)) s (L.take 20) a1 (by rw [dB]; omega);rw [dB, l1] at m
   have e1 : pl D ++ pl L = pl D ++ (pl (L.take 20) ++ pl (L.drop 20)) := by rw [← iW (L.take 20), eL]
   rw [e1] at hh;refine af hh m fun Z H1 h1 => ?_;rw [ak, ae.pu] at h1;obtain ⟨⟨hZs, hZp⟩, h1⟩ := h1;have hZl := hZp.length_eq;refine aa (aH (by omega) (by omega)) ?_
   have := ih (L.drop 20).length (by omega) (L.drop 20) (D ++ Z) H1 (bB _) (by rw [fL]; omega) a2 (by
    rw [iW, List.append_assoc]; exact h1.to) (fun Z2 H2 hp2 hc2 h2 => by
    refine hk (Z ++ Z2) H2 ?_ (.cons (by omega) hZs (a3.perm hZp hp2) hc2) ?_
    ·have := hZp.append hp2
     rw [eL] at this;exact this
    ·rw [iW, ← List.append_assoc, ← iW D Z]
     exact h2)
   rw [fL, hZl, l1] at this;rw [show ((D.length + 20 : Nat) : Int) + 20 = ((D.length + 20 + 20 : Nat) : Int) from by omega];exact this
  ·refine aa (MK (by omega)) ?_
   refine gs ?_;refine ah (Kz ..) ?_;refine ah (YY ..) ?_;have m := GU (pl D) [] s L hA (by rw [dB]; omega);rw [dB, hDL, List.append_nil] at m;refine af hh m fun Z H1 h1 => ?_;rw [ak, ae.pu, List.append_nil] at h1;obtain ⟨⟨hZs, hZp⟩, h1⟩ := h1;have hZl := hZp.length_eq;exact hk Z H1 hZp (.last (by omega) hZs) h1.to
theorem ahV (s : Value) (l : List Pt) (hl : l.length < 400000) : Sp afN [s, mU] (ts 7 Pt.cells s l) (fun _ : Unit => .tuple #[]) (fun _ => ts 7 Pt.cells s (bC l)) := by
 have stable : Sp afO [s, vi l.length, mU] (ts 7 Pt.cells s l) (fun _ : List TP => .tuple #[]) (fun Z => pu (kX Z ∧ Z.Perm (qv 0 l)) * ts 7 Pt.cells s (pl Z)) := by
  refine bh (apK _ _ _) fun R H h => ?_;refine ah (YX ..) ?_
  have ln : (qv 0 l).length = l.length := by rw [← dB, UA]
  have := an5 s l.length hl (R := R) (Q := fun v' H' => ∃ Z : List TP, v' = .tuple #[] ∧ ae (pu (kX Z ∧ Z.Perm (qv 0 l)) * ts 7 Pt.cells s (pl Z) * R) H') l.length (qv 0 l) [] H (by omega) (by simpa using ln) (MU l 0) (by
   rw [UA]; simpa using h) (fun Z H1 hp hc h1 => by
   refine ah (YZ ..) ?_;have := X6 s (R := R) (qv 0 l) (by omega) _ 20 Z H1 (by omega) (by omega) (bB _) hp hc (by simpa using h1);rw [ln] at this
   exact this)
  exact this
 refine bh (apJ _ _) fun R H h => ?_;refine oa (s := s) (l := l) h ?_;refine af h stable fun Z H1 h1 => ?_;rw [ak, ae.pu] at h1;obtain ⟨⟨hZs, hZp⟩, h1⟩ := h1;rw [VW hZs hZp] at h1;exact aq ⟨(), rfl, h1.to⟩
theorem Qr (p : Nat) (rp : List Nat) (σ : aS) (hl : σ.pts.length < 400000) : Sp afF [vp p] (bk p rp σ) (fun v : Value => v) (fun v => ts 7 Pt.cells v (bC σ.pts) * bk p rp σ) := by
 have hbl := tX σ.pts;refine aK fun R H h => ?_;obtain ⟨g, hrp, hg, h0⟩ := dY h;unfold aD at h0;refine bm (fun r => ao3 _ H) ?_;refine ap h0 ac rfl ?_;refine af h0 (y5 g.pv σ.pts (by omega)) fun v H1 h1 => ?_;refine af h1 (ahV v σ.pts hl) fun _ H2 h2 => ?_;refine ah (Ya _ _ _ H2) ?_;refine oa (s := v) (l := bC σ.pts) h2 ?_;refine ah (Yc _ _ _ _ _ H2) ?_
 have h3 : ae (bk p rp σ * (ts 7 Pt.cells v (bC σ.pts) * R)) H2 := by
  refine bG g hrp hg ?_;unfold aD;exact h2.to
 have h4 := f6 7 Pt.cells h3
 have h5 : ae (ts 7 Pt.cells (.slice none 0 0) ((bC σ.pts).take 0) * (ts 7 Pt.cells v (bC σ.pts) * bk p rp σ) * R) H2 := by rw [List.take_zero]; exact h4.to
 refine pS ?_ (M7 (.slice none 0 0) v (bC σ.pts) (by omega) (bC σ.pts).length 0 (.slice none 0 0) H2 (by omega) h5)
 rintro v' H' ⟨o, rfl, h6⟩
 exact ⟨_, rfl, h6.to⟩
theorem Ii (s : Value) (l : List Ev) (hl : l.length ≤ 1000000) : Sp afK [s] (ts 5 Ev.cells s l) (fun v : Value => v) (fun v => ts 5 Ev.cells v l * ts 5 Ev.cells s l) := by
 refine bh (apE _) fun R H h => ?_
 rcases nK h (enc := Ev.cells) (s := s) with ⟨rfl, rfl, h1⟩ | ⟨b, rfl, h1⟩
 ·refine aa (v := vb true) rfl ?_
  refine gs ?_;exact aq ⟨_, rfl, by have := f6 5 Ev.cells (f6 5 Ev.cells h1); exact this.to⟩
 ·refine aa (v := vb false) rfl ?_
  refine gs ?_;refine NW (cs := []) h rfl fun b2 H2 h2 => ?_;have h3 := xt (e := 5) (enc := Ev.cells) (l := []) h2;refine Ft (s := vs b2 0 5) (l := ([] : List Ev)) (m := l) h3 ?_ (by omega) fun v H4 h4 => ?_
  ·unfold dr; simp; omega
  rw [List.nil_append] at h4;exact aq ⟨v, rfl, h4.to⟩
theorem Qd (m : Nat) (μ : Mu) (hE : μ.E.length ≤ 1000000) : Sp gW [vp m] (bL m μ) (fun v : Value => v) (fun v => ts 5 Ev.cells v μ.E * bL m μ) := by
 refine aK fun R H h => ?_;obtain ⟨⟨c, l, al, es, ck⟩, h1⟩ := ae.ex.1 h;rw [ak, ae.pu] at h1;obtain ⟨hp, h1⟩ := h1;dsimp only at h1;have h2 : ae (blk m (.cells false [.map (some c), l]) * (blk c (.map es ck) * ts 5 Ev.cells l μ.E) * R) H := h1;refine bm (fun r => wl _ H) ?_;refine ap h2 ac rfl ?_;refine af h2 (Ii l μ.E hE) fun v H3 h3 => ?_;refine aq ⟨v, rfl, ?_⟩
 have h4 : ae (bL m μ * (ts 5 Ev.cells v μ.E * R)) H3 := by
  refine ae.ex.2 ⟨(c, l, al, es, ck), ?_⟩;rw [ak, ae.pu];refine ⟨hp, ?_⟩;have h5 : ae (blk m (.cells false [.map (some c), l]) * (blk c (.map es ck) * ts 5 Ev.cells l μ.E) * (ts 5 Ev.cells v μ.E * R)) H3 := h3.to;exact h5
 exact h4.to
theorem OU (x : Ev) : Sp ca [.agg (Ev.cells x).toArray, .agg (Ev.cells x).toArray] emp (fun _ : Unit => vb true) (fun _ => emp) := by
 refine bh (nS _ _) fun R H h => ?_;refine aX (l := [vi x.who, vi x.kind, vi x.loc.1, vi x.loc.2.1, vi x.loc.2.2]) h fun b1 H1 h1 => ?_;refine aX (l := [vi x.who, vi x.kind, vi x.loc.1, vi x.loc.2.1, vi x.loc.2.2]) h1 fun b2 H2 h2 => ?_;refine aR h2 ?_;refine aR h2 ?_;refine aa (v := vb true) ?_ ?_
 ·show (pJ (.flat 5) (.agg #[vi x.who, vi x.kind, vi x.loc.1, vi x.loc.2.1, vi x.loc.2.2]) (.agg #[vi x.who, vi x.kind, vi x.loc.1, vi x.loc.2.1, vi x.loc.2.2])).map (fun b => Value.bool b) = _
  simp only [pJ];rw [if_pos ⟨rfl, rfl⟩];simp [bQ]
 exact aq ⟨(), rfl, h2.to⟩
theorem LI {P : SP} (s1 s2 : Value) (l : List Ev) (hl : l.length ≤ 1000000) [r1 : Rd P s1 5 Ev.cells l] [r2 : Rd P s2 5 Ev.cells l] {H : AH} (h : ae P H) {k : Value × AH → OV} {Q : Value → AH → Prop} (hk : ∀ H', ae P H' → wp (k (vb true, H')) Q) :
 wp ((FF eg [s1, s2] H).bind k) Q := by
 have same : Sp um [s1, s2, .func (.func ca) #[] #[]] P (fun _ : Unit => vb true) (fun _ => P) := by
  refine bh (Mz _ _ _) fun R H h => ?_;refine i0 (s := s1) (l := l) h ?_;refine i0 (s := s2) (l := l) h ?_;refine aa (rJ rfl) ?_;refine gs ?_;refine ah (DK ..) ?_;refine ah (DM ..) ?_
  have loop : ∀ (d i : Nat) (H : AH), i + d = l.length → ae (P * R) H → wp (ne s1 s2 (.func (.func ca) #[] #[]) (vb false) (vi (i : Int)) H) fun v' H' => ∃ x : Unit, v' = vb true ∧ ae (P * R) H' := by
   intro d
   induction d with
   | zero =>
    intro i H hi hh;refine ah (ra ..) ?_;refine i0 (s := s1) (l := l) hh ?_;refine aa (bW (by omega)) ?_;refine gs ?_;refine ah (yd ..) ?_;refine ah (DL ..) ?_;exact aq ⟨(), rfl, hh⟩
   | succ d ih =>
    intro i H hi hh
    have hil : i < l.length := by omega
    refine ah (ra ..) ?_;refine i0 (s := s1) (l := l) hh ?_;refine aa (cz (by omega)) ?_;refine gs ?_;refine ah (DN ..) ?_;refine y9 (s := s1) (l := l) hh hil ?_;refine y9 (s := s2) (l := l) hh hil ?_;refine ah (show ((cf (.func (.func ca) #[] #[]) [.agg (Ev.cells l[i]).toArray, .agg (Ev.cells l[i]).toArray]).bind fun c => FF c.1 c.2 H).bind _ = (FF ca [.agg (Ev.cells l[i]).toArray, .agg (Ev.cells l[i]).toArray] H).bind _ from rfl) ?_;refine af hh (OU l[i]) fun _ H1 h1 => ?_;refine gs ?_;rw [Bool.not_true];refine gs ?_;refine ah (DO ..) ?_;refine aa (aH (by omega) (by omega)) ?_;exact ih (i + 1) H1 (by omega) h1.to
  exact loop l.length 0 H (by omega) h
 obtain ⟨x, H', e, h'⟩ := (aK (f := eg) (args := [s1, s2]) (P := P) (v := fun _ : Unit => vb true) (Q := fun _ => P) fun R H h => by
  refine bm (fun r => pB _ _ H) ?_;refine af h same fun _ H1 h1 => ?_
  exact aq ⟨(), rfl, h1.to⟩) emp H (by rw [f5]; exact h)
 rw [e];rw [f5] at h';exact hk H' h'
theorem M8 {P : SP} (s1 s2 : Value) (l : List Pt) (hl : l.length ≤ 1000000) [r1 : Rd P s1 7 Pt.cells l] [r2 : Rd P s2 7 Pt.cells l] {H : AH} (h : ae P H) {k : Value × AH → OV} {Q : Value → AH → Prop} (hk : ∀ H', ae P H' → wp (k (vb true, H')) Q) :
 wp ((FF pE [s1, s2, .func (.func eM) #[] #[]] H).bind k) Q := by
 have same : Sp pE [s1, s2, .func (.func eM) #[] #[]] P (fun _ : Unit => vb true) (fun _ => P) := by
  refine bh (MA _ _ _) fun R H h => ?_;refine i0 (s := s1) (l := l) h ?_;refine i0 (s := s2) (l := l) h ?_;refine aa (rJ rfl) ?_;refine gs ?_;refine ah (DP ..) ?_;refine ah (DR ..) ?_
  have loop : ∀ (d i : Nat) (H : AH), i + d = l.length → ae (P * R) H → wp (ng s1 s2 (.func (.func eM) #[] #[]) (vb false) (vi (i : Int)) H) fun v' H' => ∃ x : Unit, v' = vb true ∧ ae (P * R) H' := by
   intro d
   induction d with
   | zero =>
    intro i H hi hh;refine ah (rg ..) ?_;refine i0 (s := s1) (l := l) hh ?_;refine aa (bW (by omega)) ?_;refine gs ?_;refine ah (ye ..) ?_;refine ah (DQ ..) ?_;exact aq ⟨(), rfl, hh⟩
   | succ d ih =>
    intro i H hi hh
    have hil : i < l.length := by omega
    refine ah (rg ..) ?_;refine i0 (s := s1) (l := l) hh ?_;refine aa (cz (by omega)) ?_;refine gs ?_;refine ah (DS ..) ?_;refine y9 (s := s1) (l := l) hh hil ?_;refine y9 (s := s2) (l := l) hh hil ?_;refine ah (show ((cf (.func (.func eM) #[] #[]) [.agg (Pt.cells l[i]).toArray, .agg (Pt.cells l[i]).toArray]).bind fun c => FF c.1 c.2 H).bind _ = (FF eM [.agg (Pt.cells l[i]).toArray, .agg (Pt.cells l[i]).toArray] H).bind _ from rfl) ?_;refine af hh (PZ l[i]) fun _ H1 h1 => ?_;refine gs ?_;rw [Bool.not_true];refine gs ?_;refine ah (DT ..) ?_;refine aa (aH (by omega) (by omega)) ?_;exact ih (i + 1) H1 (by omega) h1.to
  exact loop l.length 0 H (by omega) h
 obtain ⟨x, H', e, h'⟩ := same emp H (by rw [f5]; exact h);rw [e];rw [f5] at h';exact hk H' h'
theorem ZM {p : Nat} {g : PIds} {σ : aS} (hE : σ.μ.E.length ≤ 1000000) : Sp gW [vp g.m] (aD p g σ) (fun v : Value => v) (fun v => ts 5 Ev.cells v σ.μ.E * aD p g σ) := by
 intro R H h;unfold aD at h;obtain ⟨x, H', h1, h2⟩ := Qd g.m σ.μ hE _ H (ae.fr (A := bL g.m σ.μ) h);refine ⟨x, H', h1, ?_⟩;unfold aD;exact h2.to
theorem G7 {x : Nat} {g : XIds} {σ : aS} {R : SP} {H : AH} (h : ae (aw x g σ * R) H) : ∃ (kv vv ev : Value) (Z : SP), ae (blk g.m (.cells false [kv, vv, ev]) * (ts 5 Ev.cells ev σ.μ.E * (blk x (.cells false [vi σ.c.sh, vi σ.c.sl, vi σ.c.wk, vi σ.c.wd, vu σ.c.un, vp g.m, vp g.ib, vp g.tb, vp g.po, vp g.co, g.ov, g.rv, g.wv, g.pv]) * (Z * R)))) H ∧
 ∀ {R' : SP} {H' : AH}, ae (blk g.m (.cells false [kv, vv, ev]) * (ts 5 Ev.cells ev σ.μ.E * (blk x (.cells false [vi σ.c.sh, vi σ.c.sl, vi σ.c.wk, vi σ.c.wd, vu σ.c.un, vp g.m, vp g.ib, vp g.tb, vp g.po, vp g.co, g.ov, g.rv, g.wv, g.pv]) * (Z * R')))) H' → ae (aw x g σ * R') H' := by
 unfold aw at h
 have h1 : ae (bT g.m σ.μ * (blk x (.cells false [vi σ.c.sh, vi σ.c.sl, vi σ.c.wk, vi σ.c.wd, vu σ.c.un, vp g.m, vp g.ib, vp g.tb, vp g.po, vp g.co, g.ov, g.rv, g.wv, g.pv]) * ((iS g.ib g.m σ.c.sh σ.nx σ.μ.N * (tab g.tb g.m σ.c.sh.toNat σ.c.sl.toNat *
  (ts 3 tB g.ov (σ.obs.map fun x => x.1) * (ts 1 pX g.rv g.rp * (jF g.m 0 (g.rp.zip (σ.obs.map fun x => x.2)) * (ts 1 lH g.wv (fI g.ws) * ts 7 Pt.cells g.pv (bC σ.pts))))))) * R))) H := h.to
 obtain ⟨al, h2⟩ := ae.ex.1 h1;rw [ak, ae.pu] at h2;obtain ⟨hp, h2⟩ := h2;obtain ⟨⟨kv, vv, ev⟩, h3⟩ := ae.ex.1 h2;dsimp only at h3
 refine ⟨kv, vv, ev, (ts 3 Iq kv al * ts 1 LF vv al) * (iS g.ib g.m σ.c.sh σ.nx σ.μ.N * (tab g.tb g.m σ.c.sh.toNat σ.c.sl.toNat *
  (ts 3 tB g.ov (σ.obs.map fun x => x.1) * (ts 1 pX g.rv g.rp * (jF g.m 0 (g.rp.zip (σ.obs.map fun x => x.2)) * (ts 1 lH g.wv (fI g.ws) * ts 7 Pt.cells g.pv (bC σ.pts))))))), h3.to, fun {R' H'} h4 => ?_⟩
 unfold aw
 have h5 : ae (bT g.m σ.μ * (blk x (.cells false [vi σ.c.sh, vi σ.c.sl, vi σ.c.wk, vi σ.c.wd, vu σ.c.un, vp g.m, vp g.ib, vp g.tb, vp g.po, vp g.co, g.ov, g.rv, g.wv, g.pv]) * ((iS g.ib g.m σ.c.sh σ.nx σ.μ.N * (tab g.tb g.m σ.c.sh.toNat σ.c.sl.toNat *
  (ts 3 tB g.ov (σ.obs.map fun x => x.1) * (ts 1 pX g.rv g.rp * (jF g.m 0 (g.rp.zip (σ.obs.map fun x => x.2)) * (ts 1 lH g.wv (fI g.ws) * ts 7 Pt.cells g.pv (bC σ.pts))))))) * R'))) H' := by
  refine ae.ex.2 ⟨al, ?_⟩;rw [ak, ae.pu];refine ⟨hp, ae.ex.2 ⟨(kv, vv, ev), ?_⟩⟩;dsimp only;exact h4.to
 exact h5.to
theorem Yg (p x : Nat) (rp : List Nat) (σ : aS) (hE : σ.μ.E.length ≤ 1000000) (hp : σ.pts.length < 400000) :
 Sp lc [.agg [vp p, vp x].toArray] (bk p rp σ * aM x σ) (fun _ : Unit => vb true) (fun _ => bk p rp σ * aM x σ) := by
 refine bh (yi _) fun R H h => ?_;refine aX (l := [vp p, vp x]) h fun b H1 h1 => ?_;obtain ⟨g, rfl, hg, k1⟩ := dY (p := p) (rp := rp) (σ := σ) (R := aM x σ * (blk b (.cells false [vp p, vp x]) * R)) (H := H1) h1.to;obtain ⟨gx, hgx, l1⟩ := fc (p := x) (σ := σ) (R := aD p g σ * (blk b (.cells false [vp p, vp x]) * R)) (H := H1) k1.to;obtain ⟨kv, vv, ev, Z, m1, back⟩ := G7 (x := x) (g := gx) (σ := σ) (R := aD p g σ * (blk b (.cells false [vp p, vp x]) * R)) (H := H1) l1.to;refine ap m1 aE rfl ?_;refine ap m1 ac rfl ?_;refine af m1 (ZM (p := p) (g := g) (σ := σ) hE) fun v H2 m2 => ?_;refine bE aE ?_;refine aQ m2 rfl ?_;refine aJ m1 m2 (by rfl) ?_;refine bE ac ?_;refine aQ m2 rfl ?_;refine aJ m1 m2 (by rfl) ?_;refine bE ac ?_;refine aQ m2 rfl ?_;refine aJ m1 m2 (by rfl) ?_;refine LI v ev σ.μ.E hE m2 fun H3 m3 => ?_;refine gs ?_;refine ap m3 aE rfl ?_;have m4 := back (R' := ts 5 Ev.cells v σ.μ.E * (aD p g σ * (blk b (.cells false [vp p, vp x]) * R))) (H' := H3) m3.to;have n3 := bG (p := p) (rp := g.rp) (σ := σ) (R := aw x gx σ * (ts 5 Ev.cells v σ.μ.E * (blk b (.cells false [vp p, vp x]) * R))) (H := H3) g rfl hg m4.to;refine xu ?_;refine af n3 (Qr p g.rp σ hp) fun pv H4 n4 => ?_;refine kW ?_;refine bE aE ?_;refine hZ ?_;refine aQ n4 rfl ?_;refine aJ n3 n4 (by rfl) ?_;refine kW ?_;refine bE ac ?_;refine hZ ?_;refine aQ n4 rfl ?_;refine aJ n3 n4 (by rfl) ?_;refine xu ?_;have n5 := n4;unfold aw at n5;refine M8 pv gx.pv (bC σ.pts) (by rw [tX]; omega) n5 fun H5 n6 => ?_;refine aa (Qo _ _) ?_;refine aq ⟨(), rfl, ?_⟩
 have n7 : ae (aw x gx σ * (bk p g.rp σ * R)) H5 := by
  unfold aw;exact n6.to
 have n8 := dc (p := x) (σ := σ) (R := bk p g.rp σ * R) gx hgx n7;exact n8.to
theorem aiH {w how n : Nat} (h : aY w how = some n) : n < 18446744073709551616 := by
 have := eG w;unfold aY at h
 split at h
 ·split at h
  ·have := iu h; omega
  ·cases h
 ·split at h
  ·have := iu h; omega
  ·cases h
 ·split at h
  ·have := iu h; omega
  ·cases h
 ·cases h
structure SI (σ : aS) (k : Nat) : Prop where
 c : cI σ.c = true
 N : σ.μ.N ≤ k
 E : σ.μ.E.length ≤ k
 pts : σ.pts.length ≤ k
 V : ∀ l, σ.μ.V l < 18446744073709551616
 obs : σ.obs.length ≤ k
 cells : ∀ o, o < σ.obs.length → 1 ≤ (ay σ o).length ∧ (ay σ o).length < 1000
 slot : ∀ s i, σ.μ.V (10, s, i) ≠ 0 → σ.μ.V (10, s, i) % 4294967296 < σ.obs.length
 head : ∀ o, σ.μ.V (12, o, 0) ≤ k
theorem SI.ok {σ : aS} {k : Nat} (h : SI σ k) (hk : k < 300000) : SOk σ :=
 ⟨h.c, by have := h.N; omega, by have := h.pts; omega, h.V, by have := h.obs; omega, h.cells, h.slot⟩
theorem SI.mono {σ : aS} {k k' : Nat} (h : SI σ k) (hk : k ≤ k') : SI σ k' :=
 ⟨h.c, fT h.N hk, fT h.E hk, fT h.pts hk, h.V, fT h.obs (by omega), h.cells, h.slot, fun o => fT (h.head o) hk⟩
theorem SI.acc {σ : aS} {k : Nat} (h : SI σ k) (who kd : Int) (l : cO) : SI (σ.mem (σ.μ.acc who kd l)) (k + 2) :=
 ⟨h.c, by have := h.N; show σ.μ.N + 2 ≤ _; omega, by have := h.E; show (σ.μ.E ++ [_]).length ≤ _; simp; omega, fT h.pts (by omega), h.V, fT h.obs (by omega), h.cells, h.slot, fun o => fT (h.head o) (by omega)⟩
theorem SI.put {σ : aS} {k : Nat} (h : SI σ k) (l : cO) (v : Nat) (hv : v < 18446744073709551616) (h1 : l.1 ≠ 10) (h2 : l.1 ≠ 12 ∨ v ≤ k) : SI (σ.mem (σ.μ.put l v)) k := by
 refine ⟨h.c, h.N, h.E, h.pts, fun x => ?_, h.obs, h.cells, fun s i => ?_, fun o => ?_⟩
 ·show (if x = l then v else σ.μ.V x) < _
  split
  ·exact hv
  ·exact h.V x
 ·show (if (10, s, i) = l then v else σ.μ.V (10, s, i)) ≠ 0 → (if (10, s, i) = l then v else σ.μ.V (10, s, i)) % _ < _
  rw [if_neg (fun e => h1 (by rw [← e]))];exact h.slot s i
 ·show (if (12, o, 0) = l then v else σ.μ.V (12, o, 0)) ≤ _
  split
  ·rename_i e
   rcases h2 with h2 | h2
   ·exact absurd (by rw [← e]) h2
   ·exact h2
  ·exact h.head o
theorem SI.swp {σ : aS} {k : Nat} (h : SI σ k) (who : Int) (l : cO) (was now : Nat) (hv : now < 18446744073709551616) (h1 : l.1 ≠ 10) (h2 : l.1 ≠ 12) : SI (σ.mem (σ.μ.swp who l was now)) (k + 2) := by
 have e : σ.μ.swp who l was now = (if σ.μ.V l = was then (σ.μ.acc who 3 l).put l now else σ.μ.acc who 4 l) := by
  show (⟨_, _, _⟩ : Mu) = _;unfold Mu.swap
  split <;> rfl
 rw [e]
 split
 ·exact (h.acc who 3 l).put l now hv h1 (.inl h2)
 ·exact h.acc who 4 l
theorem SI.turn {σ : aS} {k : Nat} (h : SI σ k) (who : Int) (o w how : Nat) : SI (σ.mem (σ.μ.turn who o w (aY w how))) (k + 2) := by
 cases e : aY w how with
 | none => exact h.mono (by omega)
 | some n => exact h.swp who (11, (o : Int), 0) w n (aiH e) (by simp) (by simp)
theorem SI.cnt {σ : aS} {k : Nat} (h : SI σ k) (who : Int) (l : cO) (n : Nat) (h1 : l.1 ≠ 10) (h2 : l.1 ≠ 12) : SI (σ.mem (σ.μ.cnt who l n)) (k + 2) :=
 (h.acc who 3 l).put l _ (Nat.mod_lt _ (by omega)) h1 (.inl h2)
theorem SI.note {σ : aS} {k : Nat} (h : SI σ k) (step who e : Int) : SI (σ.note step who e) (k + 1) :=
 ⟨h.c, fT h.N (by omega), fT h.E (by omega), by have := h.pts; show (σ.pts ++ [_]).length ≤ _; simp; omega, h.V, fT h.obs (by omega), h.cells, h.slot, fun o => fT (h.head o) (by omega)⟩
theorem SI.link {σ : aS} {k : Nat} (h : SI σ k) (who : Int) (l : cO) (nx : Int → Option Nat) : SI { σ with μ := σ.μ.acc who 6 l, nx := nx } (k + 2) := by
 have := h.acc who 6 l;exact ⟨this.c, this.N, this.E, this.pts, this.V, this.obs, this.cells, this.slot, this.head⟩
theorem SI.begin {σ : aS} {k : Nat} (h : SI σ k) (who place : Int) : SI (σ.begin who place) (k + 1) :=
 ⟨h.c, by have := h.N; show σ.μ.N + 1 ≤ _; omega, fT h.E (by omega), fT h.pts (by omega), h.V, fT h.obs (by omega), h.cells, h.slot, fun o => fT (h.head o) (by omega)⟩
theorem SI.lay {σ : aS} {k : Nat} (h : SI σ k) (t : Tk) : SI (rr σ t) (k + 2) := by
 have ha := h.acc t.who 6 (16, (t.obj : Int), ((aL t.w % (ay σ t.obj).length : Nat) : Int));rw [BB]
 have hl : (σ.obs.modify t.obj fun q => (q.1, (ay σ t.obj).set (aL t.w % (ay σ t.obj).length) (⟨t.x.flow, t.x.a, t.x.b⟩ : Pk))).length = σ.obs.length := by simp
 refine ⟨ha.c, ha.N, ha.E, ha.pts, ha.V, by rw [hl]; exact fT h.obs (by omega), fun o ho => ?_, fun s i hs => by show _ < List.length _; rw [hl]; exact h.slot s i hs, ha.head⟩
 have ho' : o < σ.obs.length := by
  have : o < (σ.obs.modify t.obj fun q => (q.1, (ay σ t.obj).set (aL t.w % (ay σ t.obj).length) (⟨t.x.flow, t.x.a, t.x.b⟩ : Pk))).length := ho
  rwa [hl] at this
 have hc := h.cells o ho';rw [vl ho'] at hc
 have hx : ∀ z : Ob × List Pk, z.2.length = (σ.obs[o]).2.length → 1 ≤ z.2.length ∧ z.2.length < 1000 := fun z hz => by rw [hz]; exact hc
 unfold ay;rw [List.getElem?_modify, cT ho'];refine hx (if t.obj = o then ((σ.obs[o]).1, (ay σ t.obj).set (aL t.w % (ay σ t.obj).length) ⟨t.x.flow, t.x.a, t.x.b⟩) else σ.obs[o]) ?_
 split
 ·rename_i e
  subst e;rw [vl ho', P5]
 ·rfl
theorem ia.mono {σ σ' : aS} {t : Tk} (T : ia σ t) (hc : σ'.c = σ.c) (ho : σ'.obs.length = σ.obs.length) : ia σ' t :=
 ⟨fun h => by rw [ho]; exact T.obj h, by rw [hc]; exact T.s, by rw [hc]; exact T.i, T.w, T.c5, T.c0, T.ats⟩
abbrev Tk.new (c : i6) (who : Int) (x : Cl) : Tk := ⟨who, x, (x.flow.tmod c.sh + c.sh).tmod c.sh, 0, 0, 0, false, 0, 0, 0, 0, 0⟩
theorem ia.new {σ : aS} (hc : cI σ.c = true) (who : Int) (x : Cl) : ia σ (Tk.new σ.c who x) := by
 have := bD.1 hc;exact ⟨fun h => by simp at h, rfl, fun _ _ => by simp; omega, by simp, fun h => by simp at h, fun h => by simp at h, .inl rfl⟩
theorem Uu (σ : aS) (t : Tk) : ((rr σ t).obs.map fun q => q.1) = σ.obs.map fun q => q.1 := by
 unfold rr;apply List.ext_getElem?;intro j;simp only [yj, List.getElem?_modify]
 cases σ.obs[j]? with
 | none => rfl
 | some q =>
  show some (if t.obj = j then _ else q).1 = some q.1
  split <;> rfl
structure Kept (σ : aS) (t : Tk) (r : aS × Tk × Bool) (k : Nat) : Prop where
 si : SI r.1 (k + 3)
 c : r.1.c = σ.c
 obs : r.1.obs.length = σ.obs.length
 hd : (r.1.obs.map fun q => q.1) = σ.obs.map fun q => q.1
 pts : r.1.pts.length ≤ σ.pts.length + 1
 who : r.2.1.who = t.who
 x : r.2.1.x = t.x
 ok : r.2.2 = false → ia r.1 r.2.1
theorem HG {σ : aS} {t : Tk} {k : Nat} (h : SI σ k) (T : ia σ t) (hat : t.at' = 0 ∨ t.at' = 2) : Kept σ t (gC σ t) k := by
 refine ⟨(h.acc _ _ _).mono (by omega), rfl, rfl, rfl, Nat.le_succ _, rfl, rfl, fun _ => ?_⟩;have hi := T.i (by omega) (by omega);refine ⟨fun hh => ?_, T.s, fun h1 h2 => ?_, T.w, fun hh => ?_, fun hh => ?_, ?_⟩
 ·show (aN σ t).obj < σ.obs.length
  have hf : (aN σ t).found = true := by
   cases hf : (aN σ t).found with
   | true => rfl
   | false =>
    have hh' : 6 ≤ (if (aN σ t).found = true then 6 else if bO σ (aN σ t) = true then 3 else 2 : Nat) ∨ (if (aN σ t).found = true then 6 else if bO σ (aN σ t) = true then 3 else 2 : Nat) = 5 ∧ _ := hh;rw [hf, if_neg (by simp)] at hh'
    rcases hh' with q | q
    ·split at q <;> omega
    ·have q := q.1
     split at q <;> omega
  have hf' : gf (σ.μ.V (10, t.s, (t.i : Int))) t.x.flow = true := hf;have e : (aN σ t).obj = σ.μ.V (10, t.s, (t.i : Int)) % 4294967296 := if_pos hf';rw [e];have hv := (of_decide_eq_true hf').1;exact h.slot _ _ hv
 ·have h1 : (if (aN σ t).found = true then 6 else if bO σ (aN σ t) = true then 3 else 2 : Nat) < 5 := h1
  have h2 : (if (aN σ t).found = true then 6 else if bO σ (aN σ t) = true then 3 else 2 : Nat) ≠ 3 := h2
  have hl : ¬ bO σ (aN σ t) = true := by
   intro hl;rw [if_pos hl] at h1 h2
   split at h1
   ·omega
   ·rename_i hn
    rw [if_neg hn] at h2;exact h2 rfl
  have : ¬ (σ.c.sl ≤ ((t.i + 1 : Nat) : Int)) := fun q => hl (d4 q);show ((t.i + 1 : Nat) : Int) < σ.c.sl;omega
 ·have hh : (if (aN σ t).found = true then 6 else if bO σ (aN σ t) = true then 3 else 2 : Nat) = 5 := hh
  split at hh
  ·omega
  ·split at hh <;> omega
 ·have hh : (if (aN σ t).found = true then 6 else if bO σ (aN σ t) = true then 3 else 2 : Nat) = 10 ∨ (if (aN σ t).found = true then 6 else if bO σ (aN σ t) = true then 3 else 2 : Nat) = 11 ∨ (if (aN σ t).found = true then 6 else if bO σ (aN σ t) = true then 3 else 2 : Nat) = 14 ∨ 21 ≤ (if (aN σ t).found = true then 6 else if bO σ (aN σ t) = true then 3 else 2 : Nat) := hh
  split at hh
  ·omega
  ·split at hh <;> omega
 ·show (if (aN σ t).found = true then 6 else if bO σ (aN σ t) = true then 3 else 2 : Nat) = 0 ∨ _
  simp only [gC]
  split
  ·simp
  ·split <;> simp
theorem Zj {σ : aS} {t : Tk} {k : Nat} (now : Int) (hk : k < 300000) (h : SI σ k) (T : ia σ t) : Kept σ t (aj σ t now) k := by
 rcases T.ats with hat | hat | hat | hat | hat | hat | hat | hat | hat | hat | hat | hat | hat | hat | hat | hat | hat | hat | hat | hat | hat | hat | hat | hat
 ·-- 0
  cases hx : dd t.x with
  | some e =>
   have hs : aj σ t now = (σ.note now t.who e, { t with code := e }, true) := by simp only [aj, hat, hx]
   rw [hs];exact ⟨(h.note _ _ _).mono (by omega), rfl, rfl, rfl, (by simp [aS.note]), rfl, rfl, fun h => by simp at h⟩
  | none =>
   have hs : aj σ t now = gC σ t := by simp only [aj, hat, hx, gC]
   rw [hs];exact HG h T (.inl hat)
 ·-- 2
  have hs : aj σ t now = gC σ t := by simp only [aj, hat, gC]
  rw [hs];exact HG h T (.inr hat)
 ·-- 3
  by_cases hw : σ.μ.V (8, t.s, 0) = 0
  ·have hs : aj σ t now = (σ.mem (σ.μ.swp t.who (8, t.s, 0) 0 1), { t with at' := 4, i := 0 }, false) := by simp only [aj, hat]; rw [if_pos hw]
   rw [hs];exact ⟨(h.swp _ _ _ _ (by omega) (by simp) (by simp)).mono (by omega), rfl, rfl, rfl, Nat.le_succ _, rfl, rfl, fun _ => ⟨fun _ => (by rename_i hh; simp at hh), T.s, (fun _ _ => by have := bD.1 h.c; show ((0 : Nat) : Int) < σ.c.sl; omega), T.w, (fun h => by simp at h), (fun h => by simp at h), (by simp)⟩⟩
  ·have hs : aj σ t now = (σ.mem (σ.μ.swp t.who (8, t.s, 0) 0 1), t, false) := by simp only [aj, hat]; rw [if_neg hw]
   rw [hs];exact ⟨(h.swp _ _ _ _ (by omega) (by simp) (by simp)).mono (by omega), rfl, rfl, rfl, Nat.le_succ _, rfl, rfl, fun _ => T.mono rfl rfl⟩
 ·-- 4
  have hi := T.i (by omega) (by omega)
  cases hf : (aN σ t).found with
  | true =>
   have hs : aj σ t now = (aW σ t, { aN σ t with at' := 5 }, false) := by simp only [aj, hat, hf]; rfl
   rw [hs];have hf' : gf (σ.μ.V (10, t.s, (t.i : Int))) t.x.flow = true := hf;have e : (aN σ t).obj = σ.μ.V (10, t.s, (t.i : Int)) % 4294967296 := if_pos hf'
   have ho : (aN σ t).obj < σ.obs.length := by rw [e]; exact h.slot _ _ (of_decide_eq_true hf').1
   exact ⟨(h.acc _ _ _).mono (by omega), rfl, rfl, rfl, Nat.le_succ _, rfl, rfl, fun _ => ⟨fun _ => ho, T.s, (fun h1 h2 => by simp at h1), T.w, (fun _ h2 => by rw [show (aN σ t).found = false from h2] at hf; cases hf), (fun h => by simp at h), (by simp)⟩⟩
  | false =>
   cases hla : bO σ (aN σ t) with
   | true =>
    have hs : aj σ t now = ((aW σ t).note now t.who 5, { aN σ t with at' := 5, code := 5 }, false) := by simp only [aj, hat, hf, hla]; rfl
    rw [hs];exact ⟨((h.acc _ _ _).note _ _ _).mono (by omega), rfl, rfl, rfl, (by simp [aS.note]), rfl, rfl, fun _ => ⟨fun _ => (by rename_i hh; rw [show (aN σ t).found = false from hf] at hh; simp at hh), T.s, (fun h1 h2 => by simp at h1), T.w, (fun _ _ => rfl), (fun h => by simp at h), (by simp)⟩⟩
   | false =>
    have hs : aj σ t now = (aW σ t, aN σ t, false) := by simp only [aj, hat, hf, hla]; rfl
    rw [hs]
    have hl : ¬ (σ.c.sl ≤ ((t.i + 1 : Nat) : Int)) := fun q => by rw [show bO σ (aN σ t) = true from d4 q] at hla; cases hla
    have ea : (aN σ t).at' = 4 := hat;exact ⟨(h.acc _ _ _).mono (by omega), rfl, rfl, rfl, Nat.le_succ _, rfl, rfl, fun _ => ⟨fun _ => (by rename_i hh; rw [ea] at hh; simp at hh), T.s, (fun _ _ => by show ((t.i + 1 : Nat) : Int) < σ.c.sl; omega), T.w, (fun h => by rw [ea] at h; simp at h), (fun h => by rw [ea] at h; simp at h), (by rw [ea]; simp)⟩⟩
 ·-- 5
  cases hf : t.found with
  | false =>
   have hs : aj σ t now = (σ.mem ((σ.μ.acc t.who 2 (8, t.s, 0)).put (8, t.s, 0) 0), { t with at' := 6 }, true) := by simp only [aj, hat, hf]; rfl
   rw [hs];exact ⟨((h.acc _ _ _).put _ _ (by omega) (by simp) (.inl (by simp))).mono (by omega), rfl, rfl, rfl, Nat.le_succ _, rfl, rfl, fun h => by simp at h⟩
  | true =>
   have hs : aj σ t now = (σ.mem ((σ.μ.acc t.who 2 (8, t.s, 0)).put (8, t.s, 0) 0), { t with at' := 6 }, false) := by simp only [aj, hat, hf]; rfl
   rw [hs];exact ⟨((h.acc _ _ _).put _ _ (by omega) (by simp) (.inl (by simp))).mono (by omega), rfl, rfl, rfl, Nat.le_succ _, rfl, rfl, fun _ => ⟨fun _ => T.obj (.inr ⟨hat, hf⟩), T.s, (fun h1 h2 => by simp at h1), T.w, (fun h => by simp at h), (fun h => by simp at h), (by simp)⟩⟩
 ·-- 6
  have hs : aj σ t now = (σ.mem (σ.μ.acc t.who 5 (13, (t.obj : Int), 0)), { t with at' := 7 }, false) := by simp only [aj, hat]
  rw [hs];exact ⟨(h.acc _ _ _).mono (by omega), rfl, rfl, rfl, Nat.le_succ _, rfl, rfl, fun _ => ⟨fun _ => T.obj (.inl (by omega)), T.s, (fun h1 h2 => by simp at h1), T.w, (fun h => by simp at h), (fun h => by simp at h), (by simp)⟩⟩
 ·-- 7
  by_cases hw : ba (σ.μ.V (11, (t.obj : Int), 0)) = 2
  ·have hs : aj σ t now = (dh σ t, { t with w := σ.μ.V (11, (t.obj : Int), 0), at' := 3 }, false) := by simp only [aj, hat]; rw [if_pos hw]
   rw [hs];exact ⟨(h.acc _ _ _).mono (by omega), rfl, rfl, rfl, Nat.le_succ _, rfl, rfl, fun _ => ⟨fun _ => (by rename_i hh; simp at hh), T.s, (fun _ h2 => by simp at h2), h.V _, (fun h => by simp at h), (fun h => by simp at h), (by simp)⟩⟩
  ·have hs : aj σ t now = (dh σ t, { t with w := σ.μ.V (11, (t.obj : Int), 0), at' := 8 }, false) := by simp only [aj, hat]; rw [if_neg hw]
   rw [hs];exact ⟨(h.acc _ _ _).mono (by omega), rfl, rfl, rfl, Nat.le_succ _, rfl, rfl, fun _ => ⟨fun _ => T.obj (.inl (by omega)), T.s, (fun h1 h2 => by simp at h1), h.V _, (fun h => by simp at h), (fun h => by simp at h), (by simp)⟩⟩
 ·-- 8
  cases hf : jP σ t with
  | true =>
   have hs : aj σ t now = (jl σ t, { t with at' := 15 }, false) := by simp only [aj, hat, hf]; rfl
   rw [hs];exact ⟨(h.acc _ _ _).mono (by omega), rfl, rfl, rfl, Nat.le_succ _, rfl, rfl, fun _ => ⟨fun _ => T.obj (.inl (by omega)), T.s, (fun h1 h2 => by simp at h1), T.w, (fun h => by simp at h), (fun h => by simp at h), (by simp)⟩⟩
  | false =>
   by_cases hw : ba t.w = 1
   ·have hs : aj σ t now = (jl σ t, { t with at' := 9 }, false) := by simp only [aj, hat, hf]; rw [if_pos hw]; rfl
    rw [hs];exact ⟨(h.acc _ _ _).mono (by omega), rfl, rfl, rfl, Nat.le_succ _, rfl, rfl, fun _ => ⟨fun _ => T.obj (.inl (by omega)), T.s, (fun h1 h2 => by simp at h1), T.w, (fun h => by simp at h), (fun h => by simp at h), (by simp)⟩⟩
   ·have hs : aj σ t now = (jl σ t, { t with at' := 12 }, false) := by simp only [aj, hat, hf]; rw [if_neg hw]; rfl
    rw [hs];exact ⟨(h.acc _ _ _).mono (by omega), rfl, rfl, rfl, Nat.le_succ _, rfl, rfl, fun _ => ⟨fun _ => T.obj (.inl (by omega)), T.s, (fun h1 h2 => by simp at h1), T.w, (fun h => by simp at h), (fun h => by simp at h), (by simp)⟩⟩
 ·-- 9
  cases hw : fi σ.μ t.obj t.w (aY t.w 0) with
  | true =>
   have hs : aj σ t now = ((σ.mem (σ.μ.turn t.who t.obj t.w (aY t.w 0))).note now t.who 0, { t with at' := 10, code := 0 }, false) := by simp only [aj, hat, hw]; rfl
   rw [hs];exact ⟨((h.turn _ _ _ _).note _ _ _).mono (by omega), rfl, rfl, rfl, (by simp [aS.note]), rfl, rfl, fun _ => ⟨fun _ => T.obj (.inl (by omega)), T.s, (fun h1 h2 => by simp at h1), T.w, (fun h => by simp at h), (fun _ => rfl), (by simp)⟩⟩
  | false =>
   have hs : aj σ t now = (σ.mem (σ.μ.turn t.who t.obj t.w (aY t.w 0)), { t with at' := 7 }, false) := by simp only [aj, hat, hw]; rfl
   rw [hs];exact ⟨(h.turn _ _ _ _).mono (by omega), rfl, rfl, rfl, Nat.le_succ _, rfl, rfl, fun _ => ⟨fun _ => T.obj (.inl (by omega)), T.s, (fun h1 h2 => by simp at h1), T.w, (fun h => by simp at h), (fun h => by simp at h), (by simp)⟩⟩
 ·-- 10
  have hs : aj σ t now = (rr σ t, { t with at' := 11 }, false) := by simp only [aj, hat]
  rw [hs];exact ⟨(h.lay t).mono (by omega), rfl, jn σ t, Uu σ t, Nat.le_succ _, rfl, rfl, fun _ => (by have := jn σ t; exact ⟨fun _ => (by rw [this]; exact T.obj (.inl (by omega))), T.s, (fun h1 h2 => by simp at h1), T.w, (fun h => by simp at h), (fun _ => T.c0 (by omega)), (by simp)⟩)⟩
 ·-- 11
  have hs : aj σ t now = (sd σ t, t, true) := by simp only [aj, hat]
  rw [hs];exact ⟨((h.acc _ _ _).put _ _ (by have := eG t.w; omega) (by simp) (.inl (by simp))).mono (by omega), rfl, rfl, rfl, Nat.le_succ _, rfl, rfl, fun h => by simp at h⟩
 ·-- 12
  have hs : aj σ t now = (σ.mem (σ.μ.cnt t.who (3, 0, 0) 4294967296), { t with at' := 13 }, false) := by simp only [aj, hat]
  rw [hs];exact ⟨(h.cnt _ _ _ (by simp) (by simp)).mono (by omega), rfl, rfl, rfl, Nat.le_succ _, rfl, rfl, fun _ => ⟨fun _ => T.obj (.inl (by omega)), T.s, (fun h1 h2 => by simp at h1), T.w, (fun h => by simp at h), (fun h => by simp at h), (by simp)⟩⟩
 ·-- 13
  cases hw : fi σ.μ t.obj t.w (aY t.w 0) with
  | true =>
   have hs : aj σ t now = ((σ.mem (σ.μ.turn t.who t.obj t.w (aY t.w 0))).note now t.who 0, { t with at' := 14, code := 0 }, false) := by simp only [aj, hat, hw]; rfl
   rw [hs];exact ⟨((h.turn _ _ _ _).note _ _ _).mono (by omega), rfl, rfl, rfl, (by simp [aS.note]), rfl, rfl, fun _ => ⟨fun _ => T.obj (.inl (by omega)), T.s, (fun h1 h2 => by simp at h1), T.w, (fun h => by simp at h), (fun _ => rfl), (by simp)⟩⟩
  | false =>
   have hs : aj σ t now = (σ.mem (σ.μ.turn t.who t.obj t.w (aY t.w 0)), { t with at' := 20 }, false) := by simp only [aj, hat, hw]; rfl
   rw [hs];exact ⟨(h.turn _ _ _ _).mono (by omega), rfl, rfl, rfl, Nat.le_succ _, rfl, rfl, fun _ => ⟨fun _ => T.obj (.inl (by omega)), T.s, (fun h1 h2 => by simp at h1), T.w, (fun h => by simp at h), (fun h => by simp at h), (by simp)⟩⟩
 ·-- 14
  have hs : aj σ t now = (rr σ t, { t with at' := 21 }, false) := by simp only [aj, hat]
  rw [hs];exact ⟨(h.lay t).mono (by omega), rfl, jn σ t, Uu σ t, Nat.le_succ _, rfl, rfl, fun _ => (by have := jn σ t; exact ⟨fun _ => (by rw [this]; exact T.obj (.inl (by omega))), T.s, (fun h1 h2 => by simp at h1), T.w, (fun h => by simp at h), (fun _ => T.c0 (by omega)), (by simp)⟩)⟩
 ·-- 15
  by_cases hw : σ.μ.V (2, 0, 0) % 2 = 1
  ·have hs : aj σ t now = (ez σ t, { t with q := σ.μ.V (2, 0, 0), at' := 7 }, false) := by simp only [aj, hat]; rw [if_pos hw]
   rw [hs];exact ⟨(h.acc _ _ _).mono (by omega), rfl, rfl, rfl, Nat.le_succ _, rfl, rfl, fun _ => ⟨fun _ => T.obj (.inl (by omega)), T.s, (fun h1 h2 => by simp at h1), T.w, (fun h => by simp at h), (fun h => by simp at h), (by simp)⟩⟩
  ·have hs : aj σ t now = (ez σ t, { t with q := σ.μ.V (2, 0, 0), at' := 16 }, false) := by simp only [aj, hat]; rw [if_neg hw]
   rw [hs];exact ⟨(h.acc _ _ _).mono (by omega), rfl, rfl, rfl, Nat.le_succ _, rfl, rfl, fun _ => ⟨fun _ => T.obj (.inl (by omega)), T.s, (fun h1 h2 => by simp at h1), T.w, (fun h => by simp at h), (fun h => by simp at h), (by simp)⟩⟩
 ·-- 16
  by_cases hw : ba (σ.μ.V (11, (t.obj : Int), 0)) = 2
  ·have hs : aj σ t now = (dh σ t, { t with w := σ.μ.V (11, (t.obj : Int), 0), at' := 3 }, false) := by simp only [aj, hat]; rw [if_pos hw]
   rw [hs];exact ⟨(h.acc _ _ _).mono (by omega), rfl, rfl, rfl, Nat.le_succ _, rfl, rfl, fun _ => ⟨fun _ => (by rename_i hh; simp at hh), T.s, (fun _ h2 => by simp at h2), h.V _, (fun h => by simp at h), (fun h => by simp at h), (by simp)⟩⟩
  ·have hs : aj σ t now = (dh σ t, { t with w := σ.μ.V (11, (t.obj : Int), 0), at' := 17 }, false) := by simp only [aj, hat]; rw [if_neg hw]
   rw [hs];exact ⟨(h.acc _ _ _).mono (by omega), rfl, rfl, rfl, Nat.le_succ _, rfl, rfl, fun _ => ⟨fun _ => T.obj (.inl (by omega)), T.s, (fun h1 h2 => by simp at h1), h.V _, (fun h => by simp at h), (fun h => by simp at h), (by simp)⟩⟩
 ·-- 17
  cases hf : jP σ t with
  | true =>
   have hs : aj σ t now = (jl σ t, { t with at' := 18, mark := now }, false) := by simp only [aj, hat, hf]; rfl
   rw [hs];exact ⟨(h.acc _ _ _).mono (by omega), rfl, rfl, rfl, Nat.le_succ _, rfl, rfl, fun _ => ⟨fun _ => T.obj (.inl (by omega)), T.s, (fun h1 h2 => by simp at h1), T.w, (fun h => by simp at h), (fun h => by simp at h), (by simp)⟩⟩
  | false =>
   have hs : aj σ t now = (jl σ t, { t with at' := 7 }, false) := by simp only [aj, hat, hf]; rfl
   rw [hs];exact ⟨(h.acc _ _ _).mono (by omega), rfl, rfl, rfl, Nat.le_succ _, rfl, rfl, fun _ => ⟨fun _ => T.obj (.inl (by omega)), T.s, (fun h1 h2 => by simp at h1), T.w, (fun h => by simp at h), (fun h => by simp at h), (by simp)⟩⟩
 ·-- 18
  by_cases hw : σ.μ.V (2, 0, 0) = t.q
  ·have hs : aj σ t now = ((ez σ t).note t.mark t.who 9, { t with code := 9 }, true) := by simp only [aj, hat]; rw [if_pos hw]
   rw [hs];exact ⟨((h.acc _ _ _).note _ _ _).mono (by omega), rfl, rfl, rfl, (by simp [aS.note]), rfl, rfl, fun h => by simp at h⟩
  ·have hs : aj σ t now = (ez σ t, { t with at' := 7 }, false) := by simp only [aj, hat]; rw [if_neg hw]
   rw [hs];exact ⟨(h.acc _ _ _).mono (by omega), rfl, rfl, rfl, Nat.le_succ _, rfl, rfl, fun _ => ⟨fun _ => T.obj (.inl (by omega)), T.s, (fun h1 h2 => by simp at h1), T.w, (fun h => by simp at h), (fun h => by simp at h), (by simp)⟩⟩
 ·-- 20
  have hs : aj σ t now = (σ.mem (σ.μ.cnt t.who (3, 0, 0) 1), { t with at' := 7 }, false) := by simp only [aj, hat]
  rw [hs];exact ⟨(h.cnt _ _ _ (by simp) (by simp)).mono (by omega), rfl, rfl, rfl, Nat.le_succ _, rfl, rfl, fun _ => ⟨fun _ => T.obj (.inl (by omega)), T.s, (fun h1 h2 => by simp at h1), T.w, (fun h => by simp at h), (fun h => by simp at h), (by simp)⟩⟩
 ·-- 21
  have hs : aj σ t now = (sd σ t, { t with at' := 22 }, false) := by simp only [aj, hat]
  rw [hs];exact ⟨((h.acc _ _ _).put _ _ (by have := eG t.w; omega) (by simp) (.inl (by simp))).mono (by omega), rfl, rfl, rfl, Nat.le_succ _, rfl, rfl, fun _ => ⟨fun _ => T.obj (.inl (by omega)), T.s, (fun h1 h2 => by simp at h1), T.w, (fun h => by simp at h), (fun _ => T.c0 (by omega)), (by simp)⟩⟩
 ·-- 22
  have hs : aj σ t now = (σ.mem (σ.μ.acc t.who 1 (9, t.s, 0)), { t with top := σ.μ.V (9, t.s, 0), at' := 23 }, false) := by simp only [aj, hat]
  rw [hs];exact ⟨(h.acc _ _ _).mono (by omega), rfl, rfl, rfl, Nat.le_succ _, rfl, rfl, fun _ => ⟨fun _ => T.obj (.inl (by omega)), T.s, (fun h1 h2 => by simp at h1), T.w, (fun h => by simp at h), (fun _ => T.c0 (by omega)), (by simp)⟩⟩
 ·-- 23
  have hs : aj σ t now = ({ σ with μ := σ.μ.acc t.who 6 (14, (t.obj : Int), 0), nx := fun k => if k = (t.obj : Int) then some t.top else σ.nx k }, { t with at' := 24 }, false) := by simp only [aj, hat]
  rw [hs];exact ⟨(h.link _ _ _).mono (by omega), rfl, rfl, rfl, Nat.le_succ _, rfl, rfl, fun _ => ⟨fun _ => T.obj (.inl (by omega)), T.s, (fun h1 h2 => by simp at h1), T.w, (fun h => by simp at h), (fun _ => T.c0 (by omega)), (by simp)⟩⟩
 ·-- 24
  by_cases hw : σ.μ.V (9, t.s, 0) = t.top
  ·have hs : aj σ t now = (σ.mem (σ.μ.swp t.who (9, t.s, 0) t.top (t.obj + 1)), { t with at' := 25 }, false) := by simp only [aj, hat]; rw [if_pos hw]
   rw [hs];exact ⟨(h.swp _ _ _ _ (by have := T.obj (.inl (by omega)); have := h.obs; omega) (by simp) (by simp)).mono (by omega), rfl, rfl, rfl, Nat.le_succ _, rfl, rfl, fun _ => ⟨fun _ => T.obj (.inl (by omega)), T.s, (fun h1 h2 => by simp at h1), T.w, (fun h => by simp at h), (fun _ => T.c0 (by omega)), (by simp)⟩⟩
  ·have hs : aj σ t now = (σ.mem (σ.μ.swp t.who (9, t.s, 0) t.top (t.obj + 1)), { t with at' := 22 }, false) := by simp only [aj, hat]; rw [if_neg hw]
   rw [hs];exact ⟨(h.swp _ _ _ _ (by have := T.obj (.inl (by omega)); have := h.obs; omega) (by simp) (by simp)).mono (by omega), rfl, rfl, rfl, Nat.le_succ _, rfl, rfl, fun _ => ⟨fun _ => T.obj (.inl (by omega)), T.s, (fun h1 h2 => by simp at h1), T.w, (fun h => by simp at h), (fun _ => T.c0 (by omega)), (by simp)⟩⟩
 ·-- 25
  have hs : aj σ t now = (σ.mem (σ.μ.cnt t.who (3, 0, 0) 1), t, true) := by simp only [aj, hat]
  rw [hs];exact ⟨(h.cnt _ _ _ (by simp) (by simp)).mono (by omega), rfl, rfl, rfl, Nat.le_succ _, rfl, rfl, fun h => by simp at h⟩
theorem OW {α : Type} (F : α → SP) (R : SP) : (ex fun x => F x * R) = ex F * R := by
 apply SP.ext;intro h
 constructor
 ·rintro ⟨x, a, b, hd, rfl, ha, hb⟩
  exact ⟨a, b, hd, rfl, ⟨x, ha⟩, hb⟩
 ·rintro ⟨a, b, hd, rfl, ⟨x, ha⟩, hb⟩
  exact ⟨x, a, b, hd, rfl, ha, hb⟩
def eT (e p : Nat) (rp : List Nat) (t : Tk) : SP := ex fun v : Value => pu (Kn rp t v) * eB e p (fj e (Az t.at')) v t
def xT (x P : Nat) (t : Tk) : SP := ex fun k : Xk => pu (iw t k) * xB x P t k
theorem aaZ (e p : Nat) (rp : List Nat) (σ : aS) (t : Tk) : eP e p rp σ t = eT e p rp t * bk p rp σ := by
 unfold eP eT;rw [← OW]
 congr 1
 funext v
 rw [ak]
theorem arB (x P : Nat) (σ : aS) (t : Tk) : xP x P σ t = xT x P t * aM P σ := by
 unfold xP xT;rw [← OW]
 congr 1
 funext v
 rw [ak]
def xU (x P : Nat) (r : aS × Tk × Bool) : SP := ex fun k : Xk => pu (if r.2.2 = true then k.code = r.2.1.code else iw r.2.1 k) * xB x P r.2.1 k
theorem arC (x P : Nat) (r : aS × Tk × Bool) : xQ x P r = xU x P r * aM P r.1 := by
 unfold xQ xU;rw [← OW]
 congr 1
 funext v
 rw [ak]
def eU (e p : Nat) (rp : List Nat) (r : aS × Tk × Bool) : SP := if r.2.2 = true then emp else eT e p rp r.2.1
theorem aqL (e p : Nat) (rp : List Nat) (r : aS × Tk × Bool) : eQ e p rp r = eU e p rp r * bk p rp r.1 := by
 unfold eQ eU
 split
 ·rw [lG]
 ·rw [aaZ]
theorem arD {x P : Nat} {r : aS × Tk × Bool} (h : r.2.2 = false) : xU x P r = xT x P r.2.1 := by
 unfold xU xT;simp only [h]
 rfl
section
variable (p x : Nat) (rp : List Nat) (σ : aS)
theorem aa0 (hc : cI σ.c = true) (who : Int) (c : Cl) : Sp yq [vp p, vi who, .agg (Cl.cells c).toArray] (bk p rp σ) (fun e : Nat => vp e) (fun e => eT e p rp (Tk.new σ.c who c) * bk p rp σ) := by
 have hr := bD.1 hc;refine bh (OR _ _ _) fun R H h => ?_;refine aX h fun b H1 h1 => ?_;refine aR h1 ?_;obtain ⟨g, hrp, hg, k1⟩ := dY (p := p) (rp := rp) (σ := σ) (R := blk b (.cells false (Cl.cells c)) * R) (H := H1) h1.to;refine ap k1 ac rfl ?_;refine ap k1 aE rfl ?_;refine af k1 (Ib (p := p) (g := g) (σ := σ) (zR g.tb g.m σ.c.sh.toNat σ.c.sl.toNat (by omega) c.flow)) fun _ H2 k2 => ?_;refine dZ k2 k1 rfl ?_
 have es : vi ((c.flow.tmod (σ.c.sh.toNat : Int) + (σ.c.sh.toNat : Int)).tmod (σ.c.sh.toNat : Int)) = vi (Tk.new σ.c who c).s := by rw [show ((σ.c.sh.toNat : Nat) : Int) = σ.c.sh from by omega]
 rw [es];have h2 := bG (p := p) (rp := rp) (σ := σ) (R := blk b (.cells false (Cl.cells c)) * R) (H := H2) g hrp hg k2.to;refine je ?_;refine aX h2 fun e H3 h3 => ?_;refine bj h3 ac rfl rfl fun H4 h4 => ?_;refine aq ⟨e, rfl, ?_⟩;rw [← aaZ];exact LD (v := .pointer none) (n := mA) (iO (by simp)) rfl h4.to
theorem Ng (who : Int) (c : Cl) (s : Int) : Sp kw [vp x, vi who, .agg (Cl.cells c).toArray] emp (fun b : Nat => vp b) (fun b => xT b x (Tk.new σ.c who c)) := by
 refine bh (rR _ _ _) fun R H h => ?_;refine aX h fun b H1 h1 => ?_;refine aR h1 ?_;refine je ?_;refine aX h1 fun xb H2 h2 => ?_;refine aq ⟨xb, rfl, ?_⟩;refine ae.ex.2 ⟨⟨0, 0, -1, false, 0, 0, 0, 0, 0, 0, 0⟩, ?_⟩;rw [ak, ae.pu];exact ⟨by simp [iw], h2.to⟩
theorem Qk (who place : Int) (hN : σ.μ.N < 1000000) : Sp j5 [.agg [vp p, vp x].toArray, vi who, vi place] (bk p rp σ * aM x σ) (fun _ : Unit => .tuple #[]) (fun _ => bk p rp (σ.begin who place) * aM x (σ.begin who place)) := by
 refine bh (wa _ _ _) fun R H h => ?_;refine aX (l := [vp p, vp x]) h fun b H1 h1 => ?_;refine ap h1 aE rfl ?_;refine af h1 (an4 p rp σ who place) fun _ H2 h2 => ?_;refine ap h2 aE rfl ?_;refine af h2 (apV x σ who place (by omega)) fun _ H3 h3 => ?_;exact aq ⟨(), rfl, h3.to⟩
end
def FM (f : Value → Value → Bool) : List Value → List Value → Bool
 | [], [] => true
 | x :: xs, y :: ys => f x y && FM f xs ys
 | _, _ => false
def eqV : Nat → Value → Value → Bool
 | _, .bool a, .bool b => a == b
 | _, .int k a, .int k' b => decide (k = k') && decide (a = b)
 | _, .string a, .string b => decide (a = b)
 | _, .pointer a, .pointer b => decide (a = b)
 | _, .slice a n e, .slice a' n' e' => decide (a = a') && decide (n = n') && decide (e = e')
 | _, .map a, .map b => decide (a = b)
 | _, .nilFunc, .nilFunc => true
 | _, .nilIface, .nilIface => true
 | n + 1, .agg xs, .agg ys => FM (eqV n) xs.toList ys.toList
 | n + 1, .tuple xs, .tuple ys => FM (eqV n) xs.toList ys.toList
 | n + 1, .func f xs zs, .func f' ys ws => decide (f = f') && FM (eqV n) xs.toList ys.toList && FM (eqV n) zs.toList ws.toList
 | _, _, _ => false
theorem Cy {f : Value → Value → Bool} (hf : ∀ x y, f x y = true → x = y) : ∀ xs ys, FM f xs ys = true → xs = ys := by
 intro xs
 induction xs with
 | nil => intro ys h; cases ys with | nil => rfl | cons y ys => simp [FM] at h
 | cons x xs ih =>
  intro ys h
  cases ys with
  | nil => simp [FM] at h
  | cons y ys =>
   simp only [FM, Bool.and_eq_true] at h;rw [hf _ _ h.1, ih _ h.2]
theorem Gu : ∀ (n : Nat) (x y : Value), eqV n x y = true → x = y := by
 intro n
 induction n with
 | zero =>
  intro x y h
  cases x <;> cases y <;> simp_all [eqV]
 | succ n ih =>
  have hl := Cy ih;intro x y h
  cases x <;> cases y <;> simp_all [eqV]
  ·exact ⟨Array.toList_inj.1 (hl _ _ h.1.2), Array.toList_inj.1 (hl _ _ h.2)⟩
  ·exact Array.toList_inj.1 (hl _ _ h)
  ·exact Array.toList_inj.1 (hl _ _ h)
def eqO : Option Value → Option Value → Bool
 | none, none => true
 | some x, some y => eqV 4 x y
 | _, _ => false
theorem Wd {x y : Option Value} (h : eqO x y = true) : x = y := by
 cases x <;> cases y <;> simp_all [eqO]
 exact Gu _ _ _ h
section
variable (g d : Nat)
def A9 (b : Nat) : Nat := if b < g then b else b + d
def zP (a : Addr) : Addr := { a with block := A9 g d a.block }
def bX : Value → Value
 | .pointer a => .pointer (a.map (zP g d))
 | .slice a n e => .slice (a.map (zP g d)) n e
 | .map r => .map (r.map (A9 g d))
 | .func fn f c => .func fn (f.map bX) (c.map bX)
 | .iface t v => .iface t (bX v)
 | .agg cs => .agg (cs.map bX)
 | .tuple cs => .tuple (cs.map bX)
 | v => v
end
abbrev ie (g d : Nat) (l : List Value) : List Value := l.map (bX g d)
section
variable {g d : Nat}
theorem Vk {a b : Nat} (h : A9 g d a = A9 g d b) : a = b := by unfold A9 at h; split at h <;> split at h <;> omega
@[simp] theorem Vl (b : Bool) : (bX g d) (.bool b) = .bool b := by rw [bX] <;> simp
@[simp] theorem yZ (k : IntKind) (n : Int) : (bX g d) (.int k n) = .int k n := by rw [bX] <;> simp
@[simp] theorem aq3 (k : FloatKind) (n : Nat) : (bX g d) (.float k n) = .float k n := by rw [bX] <;> simp
@[simp] theorem apM (k : FloatKind) (n m : Nat) : (bX g d) (.complex k n m) = .complex k n m := by rw [bX] <;> simp
@[simp] theorem HI (b : ByteArray) : (bX g d) (.string b) = .string b := by rw [bX] <;> simp
@[simp] theorem arL (r : Option Nat) : (bX g d) (.chan r) = .chan r := by rw [bX] <;> simp
@[simp] theorem apN : (bX g d) .nilFunc = .nilFunc := by rw [bX] <;> simp
@[simp] theorem anP : (bX g d) .nilIface = .nilIface := by rw [bX] <;> simp
@[simp] theorem Ru (a : Option Addr) : (bX g d) (.pointer a) = .pointer (a.map (zP g d)) := by rw [bX]
@[simp] theorem gO (a : Option Addr) (n e : Nat) : (bX g d) (.slice a n e) = .slice (a.map (zP g d)) n e := by rw [bX]
@[simp] theorem KE (r : Option Nat) : (bX g d) (.map r) = .map (r.map (A9 g d)) := by rw [bX]
@[simp] theorem aq4 (t : TypeId) (v : Value) : (bX g d) (.iface t v) = .iface t ((bX g d) v) := by rw [bX]
@[simp] theorem arM (fn : Fn) (f c : Array Value) : (bX g d) (.func fn f c) = .func fn (f.map (bX g d)) (c.map (bX g d)) := by rw [bX]
@[simp] theorem Rp (cs : Array Value) : (bX g d) (.agg cs) = .agg (cs.map (bX g d)) := by rw [bX]
@[simp] theorem ahU (cs : Array Value) : (bX g d) (.tuple cs) = .tuple (cs.map (bX g d)) := by rw [bX]
@[simp] theorem sc : (bX g d) undef = undef := by simp [undef]
theorem ahO {v : Value} (h : dv v = true) : (bX g d) v = v := by
 unfold dv at h
 split at h <;> first | (simp; done) | cases h
theorem xj {l : List Value} (h : l.all dv = true) : ie g d l = l := by
 induction l with
 | nil => rfl
 | cons x l ih => simp only [List.all_cons, Bool.and_eq_true] at h; simp only [ie, List.map_cons, ahO h.1]; rw [show List.map (bX g d) l = l from ih h.2]
theorem NE {v : Value} (h : xF v = true) : (bX g d) v = v := by
 unfold xF at h
 split at h
 ·rename_i cs
  rw [Rp]; congr 1; exact Array.toList_inj.1 (by rw [Array.toList_map]; exact xj h)
 ·rename_i cs
  rw [ahU]; congr 1; exact Array.toList_inj.1 (by rw [Array.toList_map]; exact xj h)
 ·exact ahO h
theorem E0 (v : Value) : ((bX g d) v).cells = v.cells.map (bX g d) := by
 cases v <;> simp [Value.cells]
theorem Za (v : Value) : ((bX g d) v).cells.toList = ie g d v.cells.toList := by rw [E0, Array.toList_map]
theorem apO (v : Value) : Value.oneCell' ((bX g d) v) = Value.oneCell' v := by
 cases v <;> simp [Value.oneCell']
theorem Vm (l : List Value) : (ie g d l).all Value.oneCell' = l.all Value.oneCell' := by
 simp only [ie, List.all_map]; congr 1; funext v; exact apO v
theorem KF (v : Value) : ux ((bX g d) v) = (ux v).map fun a => (A9 g d a.1, a.2) := by
 cases v with
 | pointer a =>
  cases a with
  | none => simp [ux]
  | some a =>
   obtain ⟨b, o, sp⟩ := a
   cases sp <;> simp [ux, zP]
 | _ => simp [ux]
theorem ahT (c a b : Value) : bd ((bX g d) c) ((bX g d) a) ((bX g d) b) = (bd c a b).map (bX g d) := by
 cases c with
 | bool t => cases t <;> simp [bd]
 | _ => simp [bd]
theorem al0 (v : Value) : uy ((bX g d) v) = (uy v).map (bX g d) := by
 cases v with
 | pointer a => cases a <;> simp [uy]
 | func fn f c => cases fn <;> simp [uy]
 | _ => simp [uy]
theorem alV (off : Nat) (v : Value) : FX off ((bX g d) v) = (FX off v).map (bX g d) := by
 unfold FX;rw [KF]
 cases ux v <;> simp [zP]
theorem ahS (n : Option Nat) (off : Nat) (v : Value) : ly n off ((bX g d) v) = (ly n off v).map (bX g d) := by
 cases v with
 | agg cs => cases n <;> simp [ly]
 | _ => simp [ly]
theorem alW (e : Nat) (v i : Value) : oP e ((bX g d) v) ((bX g d) i) = (oP e v i).map (bX g d) := by
 cases v with
 | slice a n k =>
  cases a with
  | none => simp [oP]
  | some a =>
   obtain ⟨b, o, sp⟩ := a
   cases sp with
   | none =>
    cases i with
    | int k i => simp only [gO, yZ, fp, zP, oP]; split <;> simp [zP]
    | _ => simp [oP, zP]
   | some sp => simp [oP, zP]
 | _ => simp [oP]
theorem ahR (len e : Nat) (v i : Value) : jQ len e ((bX g d) v) ((bX g d) i) = (jQ len e v i).map (bX g d) := by
 cases v with
 | pointer a =>
  cases a with
  | none => simp [jQ]
  | some a =>
   obtain ⟨b, o, sp⟩ := a
   cases sp with
   | none =>
    cases i with
    | int k i => simp only [Ru, yZ, fp, zP, jQ]; split <;> simp [zP]
    | _ => simp [jQ, zP]
   | some sp => simp [jQ, zP]
 | _ => simp [jQ]
theorem Rs (len : Nat) (n : Option Nat) (e : Nat) (v i : Value) : jA len n e ((bX g d) v) ((bX g d) i) = (jA len n e v i).map (bX g d) := by
 cases v with
 | agg cs =>
  cases i with
  | int k i =>
   simp only [Rp, yZ, jA]
   split
   ·cases n <;> simp
   ·rfl
  | _ => simp [jA]
 | _ => simp [jA]
theorem Rr (v i : Value) : jz ((bX g d) v) ((bX g d) i) = (jz v i).map (bX g d) := by
 cases v with
 | string b =>
  cases i with
  | int k i =>
   simp only [HI, yZ, jz]
   split
   ·rw [Option.map_map]; congr 1; funext x; simp
   ·rfl
  | _ => simp [jz]
 | _ => simp [jz]
theorem alX (v : Value) : qw ((bX g d) v) = (qw v).map (bX g d) := by cases v <;> simp [qw]
theorem alY (l : List Value) : iC (ie g d l) = (iC l).map (bX g d) := by
 match l with
 | [] => rfl
 | [x] => simp [ie, iC]
 | [x, y] => cases x <;> cases y <;> simp [ie, iC]
 | x :: y :: z :: l => simp [ie, iC]
theorem alZ (l : List Value) : jM (ie g d l) = (jM l).map (bX g d) := by
 match l with
 | [] => rfl
 | [x] => simp [ie, jM]
 | [x, y] => cases x <;> cases y <;> simp [ie, jM]
 | x :: y :: z :: l => simp [ie, jM]
theorem E3 : ∀ xs ys : List Value, bQ (ie g d xs) (ie g d ys) = bQ xs ys := by
 intro xs
 induction xs with
 | nil => intro ys; cases ys <;> simp [ie, bQ]
 | cons x xs ih =>
  intro ys
  cases ys with
  | nil => cases x <;> simp [ie, bQ]
  | cons y ys =>
   have := ih ys;simp only [ie] at this
   cases x <;> cases y <;> simp [ie, bQ, this]
theorem apP (cl : TCls) (x y : Value) : pJ cl ((bX g d) x) ((bX g d) y) = pJ cl x y := by
 cases cl with
 | flat n =>
  cases x with
  | agg a =>
   cases y with
   | agg b =>
    simp only [Rp, pJ, Array.size_map, Array.toList_map];rw [show bQ (List.map (bX g d) a.toList) (List.map (bX g d) b.toList) = bQ a.toList b.toList from E3 _ _]
   | _ => simp [pJ]
  | _ => cases y <;> simp [pJ]
 | bool => cases x <;> cases y <;> simp [pJ]
 | ptr => cases x <;> cases y <;> simp [pJ] <;> (rename_i a b; cases a <;> cases b <;> simp [pJ])
 | slice => cases x <;> cases y <;> simp [pJ] <;> (rename_i a _ _ b _ _; cases a <;> cases b <;> simp [pJ])
 | map => cases x <;> cases y <;> simp [pJ] <;> (rename_i a b; cases a <;> cases b <;> simp [pJ])
 | func => cases x <;> cases y <;> simp [pJ]
 | other => cases x <;> cases y <;> simp [pJ]
theorem alL {op : BinOp} {k : IntKind} {a b : Int} : (mV op k a b).map (bX g d) = mV op k a b := by
 cases op <;> simp [mV] <;> (split <;> simp)
theorem Yf {op : BinOp} {k : IntKind} {a b : Int} : (mK op k a b).map (bX g d) = mK op k a b := by
 unfold mK
 split
 ·rfl
 ·cases op <;> simp
theorem alN {op : BinOp} {a b : ByteArray} : (af3 op a b).map (bX g d) = af3 op a b := by
 cases op <;> simp [af3]
theorem ahQ (cl : TCls) (op : BinOp) (x y : Value) : G5 cl op ((bX g d) x) ((bX g d) y) = (G5 cl op x y).map (bX g d) := by
 cases op <;> simp only [G5, apP, Option.map_map, Option.map_none] <;> (congr 1; funext b; simp)
theorem alU (cl : TCls) (op : BinOp) (x y : Value) : ai cl op ((bX g d) x) ((bX g d) y) = (ai cl op x y).map (bX g d) := by
 have key := ahQ (g := g) (d := d) cl op x y
 cases x with
 | int k a =>
  cases y with
  | int k' b => cases op <;> simp only [yZ, ai, Yf] <;> (split <;> simp [alL])
  | _ => simpa [ai] using key
 | string a =>
  cases y with
  | string b => simp [ai, alN]
  | _ => simpa [ai] using key
 | _ => simpa [ai] using key
theorem apQ (op : UnOp) (x : Value) : oc op ((bX g d) x) = (oc op x).map (bX g d) := by cases op <;> cases x <;> simp [oc]
theorem ahP (k : Option IntKind) (x : Value) : cg k ((bX g d) x) = (cg k x).map (bX g d) := by cases k <;> cases x <;> simp [cg]
theorem NF (v : Value) (i : Nat) : ag ((bX g d) v) i = (ag v i).map (bX g d) := by cases v <;> simp [ag]
theorem E6 (v : Value) : nu ((bX g d) v) = nu v := by cases v <;> simp [nu]
end
inductive Tr (α : Type) where
 | lf
 | nd (v : Option α) (l r : Tr α)
section
variable {α : Type}
def Tr.get : Tr α → Nat → Option α
 | .lf, _ => none
 | .nd v l r, i => match i with
  | 0 => v
  | i + 1 => match Nat.beq (i % 2) 0 with
   | true => l.get (i / 2)
   | false => r.get (i / 2)
def Tr.set (x : α) : Nat → Tr α → Nat → Option (Tr α)
 | 0, _, _ => none
 | k + 1, t, i => match i with
  | 0 => match t with
   | .lf => some (.nd (some x) .lf .lf)
   | .nd _ l r => some (.nd (some x) l r)
  | i + 1 => match Nat.beq (i % 2) 0 with
   | true => match t with
    | .lf => (Tr.set x k .lf (i / 2)).map fun l' => .nd none l' .lf
    | .nd v l r => (Tr.set x k l (i / 2)).map fun l' => .nd v l' r
   | false => match t with
    | .lf => (Tr.set x k .lf (i / 2)).map fun r' => .nd none .lf r'
    | .nd v l r => (Tr.set x k r (i / 2)).map fun r' => .nd v l r'
theorem Tr.get_set {x : α} : ∀ (k : Nat) {t t' : Tr α} {i : Nat}, Tr.set x k t i = some t' → ∀ j, t'.get j = if j = i then some x else t.get j := by
 intro k
 induction k with
 | zero => intro t t' i h; cases h
 | succ k ih =>
  intro t t' i h j
  cases i with
  | zero =>
   cases t with
   | lf => simp only [Tr.set] at h; cases h; cases j with
    | zero => rfl
    | succ j => simp only [Tr.get]; split <;> simp [Tr.get]
   | nd v l r => simp only [Tr.set] at h; cases h; cases j with
    | zero => rfl
    | succ j => simp [Tr.get]
  | succ i =>
   simp only [Tr.set] at h
   have beq : ∀ a : Nat, Nat.beq a 0 = (a == 0) := fun a => by cases a <;> simp [Nat.beq]
   have lf : ∀ j, (Tr.lf : Tr α).get j = none := fun j => by cases j <;> rfl
   cases hb : Nat.beq (i % 2) 0 with
   | true =>
    have hi : i % 2 = 0 := by rw [beq] at hb; simpa using hb
    rw [hb] at h;simp only at h
    have key : ∃ v l r l', Tr.set x k l (i / 2) = some l' ∧ t' = .nd v l' r ∧ ∀ j, t.get j = (Tr.nd v l r).get j := by
     cases t with
     | lf => obtain ⟨l', h1, e⟩ := bi.1 h; exact ⟨none, .lf, .lf, l', h1, e.symm, fun j => by rw [lf]; cases j with | zero => rfl | succ j => simp only [Tr.get]; split <;> rfl⟩
     | nd v l r => obtain ⟨l', h1, e⟩ := bi.1 h; exact ⟨v, l, r, l', h1, e.symm, fun j => rfl⟩
    obtain ⟨v, l, r, l', h1, rfl, hg⟩ := key;rw [hg]
    cases j with
    | zero => rfl
    | succ j =>
     simp only [Tr.get]
     cases hj : Nat.beq (j % 2) 0 with
     | true =>
      have hj' : j % 2 = 0 := by rw [beq] at hj; simpa using hj
      simp only;rw [ih h1]
      by_cases e : j / 2 = i / 2
      ·rw [if_pos e, if_pos (by omega)]
      ·rw [if_neg e, if_neg (by omega)]
     | false =>
      have hj' : j % 2 ≠ 0 := by rw [beq] at hj; simpa using hj
      simp only;rw [if_neg (by omega)]
   | false =>
    have hi : i % 2 ≠ 0 := by rw [beq] at hb; simpa using hb
    rw [hb] at h;simp only at h
    have key : ∃ v l r r', Tr.set x k r (i / 2) = some r' ∧ t' = .nd v l r' ∧ ∀ j, t.get j = (Tr.nd v l r).get j := by
     cases t with
     | lf => obtain ⟨l', h1, e⟩ := bi.1 h; exact ⟨none, .lf, .lf, l', h1, e.symm, fun j => by rw [lf]; cases j with | zero => rfl | succ j => simp only [Tr.get]; split <;> rfl⟩
     | nd v l r => obtain ⟨l', h1, e⟩ := bi.1 h; exact ⟨v, l, r, l', h1, e.symm, fun j => rfl⟩
    obtain ⟨v, l, r, l', h1, rfl, hg⟩ := key;rw [hg]
    cases j with
    | zero => rfl
    | succ j =>
     simp only [Tr.get]
     cases hj : Nat.beq (j % 2) 0 with
     | false =>
      have hj' : j % 2 ≠ 0 := by rw [beq] at hj; simpa using hj
      simp only;rw [ih h1]
      by_cases e : j / 2 = i / 2
      ·rw [if_pos e, if_pos (by omega)]
      ·rw [if_neg e, if_neg (by omega)]
     | true =>
      have hj' : j % 2 = 0 := by rw [beq] at hj; simpa using hj
      simp only;rw [if_neg (by omega)]
end
structure EH where
 n : Nat
 t : Tr AObj
def EH.get (E : EH) (b : Nat) : Option AObj := E.t.get b
def EH.set (E : EH) (b : Nat) (o : AObj) : Option EH := (Tr.set o 24 E.t b).map fun t => ⟨E.n, t⟩
def EH.push (E : EH) (o : AObj) : Option EH := (Tr.set o 24 E.t E.n).map fun t => ⟨E.n + 1, t⟩
section
variable (g d : Nat)
def ND (e : MapEntry) : MapEntry := { e with key := bX g d e.key, val := bX g d e.val }
def Oc : AObj → AObj
 | .cells ro cs => .cells ro (ie g d cs)
 | .map es c => .map (es.map (ND g d)) c
 | .dead => .dead
structure HR (F : List AObj) (E : EH) (H : AH) : Prop where
 len : F.length = d
 le : g ≤ E.n
 size : H.size = E.n + d
 get : ∀ b, H.get (A9 g d b) = (E.get b).map (Oc g d)
 out : ∀ b, E.n ≤ b → E.get b = none
 fr : ∀ b, g ≤ b → b < g + d → H.get b = F[b - g]?
end
section
variable {g d : Nat} {F : List AObj} {E E' : EH} {H : AH}
theorem HR.lt (h : HR g d F E H) {b : Nat} {o : AObj} (hb : E.get b = some o) : b < E.n := by
 rcases Nat.lt_or_ge b E.n with h1 | h1
 ·exact h1
 ·rw [h.out b h1] at hb; cases hb
theorem HR.new (h : HR g d F E H) : H.size = A9 g d E.n := by
 unfold A9; rw [if_neg (by have := h.le; omega)]; exact h.size
theorem HR.shlt (h : HR g d F E H) {b : Nat} (hb : b < E.n) : A9 g d b < H.size := by
 rw [h.size]; unfold A9; split <;> omega
theorem HR.set (h : HR g d F E H) {b : Nat} {o : AObj} (hb : b < E.n) (hs : E.set b o = some E') : HR g d F E' (H.set (A9 g d b) (Oc g d o)) := by
 obtain ⟨t, ht, rfl⟩ := bi.1 hs;have hg := Tr.get_set 24 ht;refine ⟨h.len, h.le, by rw [AH.size_set]; exact h.size, fun j => ?_, fun j hj => ?_, fun j h1 h2 => ?_⟩
 ·show _ = (t.get j).map _
  rw [hg j, AH.get_set]
  by_cases e : j = b
  ·subst e; rw [if_pos rfl, if_pos rfl, if_pos (h.shlt hb)]; rfl
  ·rw [if_neg (fun x => e (Vk x)), if_neg e]; exact h.get j
 ·show t.get j = none
  rw [hg j, if_neg (by have : E.n ≤ j := hj; omega)]; exact h.out j hj
 ·rw [AH.get_set_ne (by unfold A9; split <;> omega)]; exact h.fr j h1 h2
theorem HR.push (h : HR g d F E H) {o : AObj} (hs : E.push o = some E') : HR g d F E' (H.push (Oc g d o)) := by
 obtain ⟨t, ht, rfl⟩ := bi.1 hs;have hg := Tr.get_set 24 ht;have hle := h.le;have hsz := h.size;refine ⟨h.len, by show g ≤ E.n + 1; omega, by rw [AH.size_push, hsz]; show _ = E.n + 1 + d; omega, fun j => ?_, fun j hj => ?_, fun j h1 h2 => ?_⟩
 ·show _ = (t.get j).map _
  rw [hg j, AH.get_push, h.new]
  by_cases e : j = E.n
  ·subst e; rw [if_pos rfl, if_pos rfl]; rfl
  ·rw [if_neg (fun x => e (Vk x)), if_neg e]; exact h.get j
 ·show t.get j = none
  have : E.n + 1 ≤ j := hj;rw [hg j, if_neg (by omega)]; exact h.out j (by omega)
 ·rw [AH.get_push_old (by omega)]; exact h.fr j h1 h2
end
section
variable {g d : Nat}
theorem HH (cs : List Value) (o : Nat) (xs : List Value) : splice (ie g d cs) o (ie g d xs) = ie g d (splice cs o xs) := by
 simp [splice, ie, List.map_take, List.map_drop]
theorem E5 (places : Nat → Option (Nat × Nat)) : ∀ (parts : List (Nat × Value)) (zero : List Value), du places (ie g d zero) (parts.map fun p => (p.1, (bX g d) p.2)) = (du places zero parts).map (ie g d) := by
 intro parts
 induction parts with
 | nil => intro zero; rfl
 | cons p parts ih =>
  intro zero;obtain ⟨i, v⟩ := p;simp only [List.map_cons, du]
  cases places i with
  | none => rfl
  | some q =>
   simp only [bP];rw [E0, Array.size_map, Array.toList_map, show (ie g d zero).length = zero.length from tg _]
   split
   ·rw [show List.map (bX g d) v.cells.toList = ie g d v.cells.toList from rfl, HH]; exact ih _
   ·rfl
theorem Zb (e : Nat) (x : Value) (lo hi : Option Value) : fH e ((bX g d) x) (lo.map (bX g d)) (hi.map (bX g d)) = (fH e x lo hi).map (bX g d) := by
 cases x with
 | slice a n e' =>
  have key : ∀ L R : Option Int, (L.bind fun l => R.bind fun h =>
   if 0 ≤ l ∧ l ≤ h ∧ h ≤ n then
    match a.map (zP g d) with
    | none => if n = 0 ∧ e' = 0 then some (.slice none 0 0) else none
    | some ⟨b, o, none⟩ => if e' = e ∧ 0 < e then some (.slice (some ⟨b, o + l.toNat * e, none⟩) (h.toNat - l.toNat) e) else none
    | _ => none
   else none : Option Value) = (L.bind fun l => R.bind fun h =>
   if 0 ≤ l ∧ l ≤ h ∧ h ≤ n then
    match a with
    | none => if n = 0 ∧ e' = 0 then some (.slice none 0 0) else none
    | some ⟨b, o, none⟩ => if e' = e ∧ 0 < e then some (.slice (some ⟨b, o + l.toNat * e, none⟩) (h.toNat - l.toNat) e) else none
    | _ => none
   else none : Option Value).map (bX g d) := by
   intro L R
   cases L with
   | none => rfl
   | some l =>
    cases R with
    | none => rfl
    | some r =>
     simp only [bP]
     split
     ·cases a with
      | none => simp only [Option.map_none]; split <;> simp
      | some a =>
       obtain ⟨b, o, sp⟩ := a
       cases sp with
       | none => simp only [fp, zP]; split <;> simp [zP]
       | some sp => simp [zP]
     ·rfl
  cases lo with
  | none =>
   cases hi with
   | none => simp only [gO, fH, Option.map_none]; exact key (some 0) (some n)
   | some h => simp only [gO, fH, fp, E6]; exact key (some 0) (nu h)
  | some l =>
   cases hi with
   | none => simp only [gO, fH, fp, E6]; exact key (nu l) (some n)
   | some h => simp only [gO, fH, fp, E6]; exact key (nu l) (nu h)
 | _ => simp [fH]
theorem Rt {x hi mx v : Value} (h : jB x hi mx = some v) : jB ((bX g d) x) ((bX g d) hi) ((bX g d) mx) = some ((bX g d) v) := by
 unfold jB at h
 split at h
 ·cases h; simp [jB]
 ·cases h; simp [jB, zP]
 ·cases h
theorem ahM (v : Value) : ri ((bX g d) v) = ri v := by cases v <;> simp [ri]
theorem E4 (cl : KCls) (k : Value) : i9 cl ((bX g d) k) = i9 cl k := by
 cases cl <;> cases k <;> simp [i9]
 rename_i n cs
 congr 2
 funext v; exact ahM v
theorem ahN (cl : KCls) (a b : Value) : kO cl ((bX g d) a) ((bX g d) b) = kO cl a b := by
 cases cl with
 | flat n =>
  cases a <;> cases b <;> simp [kO]
  rename_i x y
  rw [show bQ (List.map (bX g d) x.toList) (List.map (bX g d) y.toList) = bQ x.toList y.toList from E3 _ _]
 | int => cases a <;> cases b <;> simp [kO]
 | string => cases a <;> cases b <;> simp [kO]
theorem uZ (cl : KCls) (k : Value) : ∀ (es : List MapEntry) (i : Nat), bw cl ((bX g d) k) (es.map (ND g d)) i = (bw cl k es i).map fun r => r.map fun p => (p.1, (bX g d) p.2) := by
 intro es
 induction es with
 | nil => intro i; rfl
 | cons e es ih =>
  intro i;simp only [List.map_cons, bw, ND, ahN]
  cases kO cl k e.key with
  | none => rfl
  | some b =>
   simp only [bP]
   cases b with
   | true => simp
   | false => simp only [Bool.false_eq_true, if_false]; exact ih _
theorem Rq (v : Value) (args : List Value) : cf ((bX g d) v) (ie g d args) = (cf v args).map fun r => (r.1, ie g d r.2) := by
 cases v with
 | func fn f c => cases fn <;> simp [cf, ie]
 | _ => simp [cf]
end
def qE (E : EH) (b : Nat) : Option (List Value) :=
 match E.get b with
 | some (.cells _ cs) => some cs
 | _ => none
def aaW (v : Value) (E : EH) : Option Value := (ux v).bind fun a => (qE E a.1).bind fun cs => cs[a.2]?
def aaX (n : Nat) (v : Value) (E : EH) : Option Value :=
 (ux v).bind fun a => (qE E a.1).bind fun cs => if a.2 + n ≤ cs.length then some (.agg ((cs.drop a.2).take n).toArray) else none
def eSt (n : Nat) (v x : Value) (E : EH) : Option EH :=
 (ux v).bind fun a => match E.get a.1 with
  | some (.cells false cs) => if x.cells.size = n ∧ a.2 + n ≤ cs.length ∧ x.cells.toList.all Value.oneCell' = true then E.set a.1 (.cells false (splice cs a.2 x.cells.toList)) else none
  | _ => none
def aoC (cs : List Value) (E : EH) : Option (Value × EH) := (E.push (.cells false cs)).map fun E' => (.pointer (some ⟨E.n, 0, none⟩), E')
def Gr (n e : Nat) (cs : List Value) (E : EH) : Option (Value × EH) := (E.push (.cells false cs)).map fun E' => (.slice (some ⟨E.n, 0, none⟩) n e, E')
def Gq (v : Value) (E : EH) : Option Value :=
 match v with
 | .map none => some (.int .i64 0)
 | .map (some b) => match E.get b with
  | some (.map es _) => some (.int .i64 es.length)
  | _ => none
 | _ => none
def V9 (e : Nat) (x : Value) (E : EH) : Option (Nat × List Value) :=
 match x with
 | .slice none n _ => if n = 0 then some (0, []) else none
 | .slice (some ⟨b, o, none⟩) m _ => if m = 0 then some (0, []) else (qE E b).bind fun cs => if o + m * e ≤ cs.length then some (m, (cs.drop o).take (m * e)) else none
 | _ => none
def aoA (e bytes : Nat) (s x : Value) (E : EH) : Option (Value × EH) :=
 (V9 e x E).bind fun r =>
  if r.2.all Value.oneCell' = true ∧ 0 < e then
   match s with
   | .slice none n k => if n = 0 ∧ k = 0 then (if r.1 = 0 then some (.slice none 0 0, E) else if r.1 * bytes ≤ dr ∧ r.1 ≤ dr then Gr r.1 e r.2 E else none) else none
   | .slice (some ⟨b, o, none⟩) n e' =>
    if r.1 = 0 then some (s, E)
    else if e' = 0 then (if n = 0 ∧ r.1 * bytes ≤ dr ∧ r.1 ≤ dr then Gr r.1 e r.2 E else none)
    else match E.get b with
     | some (.cells false cs) =>
      if e' = e ∧ o + n * e ≤ cs.length ∧ (n + r.1) * bytes ≤ dr ∧ n + r.1 ≤ dr then (E.set b .dead).bind fun E1 => Gr (n + r.1) e ((cs.drop o).take (n * e) ++ r.2) E1 else none
     | _ => none
   | _ => none
  else none
def aaY (zero : List Value) (e bytes : Nat) (len cap : Value) (E : EH) : Option (Value × EH) :=
 match len, cap with
 | .int _ l, .int _ c => if 0 ≤ l ∧ l = c ∧ l.toNat * bytes ≤ dr ∧ l.toNat ≤ dr ∧ 0 < e ∧ zero.length = e then
  Gr l.toNat e (List.replicate l.toNat zero).flatten E else none
 | _, _ => none
def xG (v : Value) (E : EH) : Option (List MapEntry × Nat) :=
 match v with
 | .map none => some ([], 0)
 | .map (some b) => match E.get b with
  | some (.map es c) => some (es, c)
  | _ => none
 | _ => none
def Bg (fl : KCls) (zero : Value) (m k : Value) (ok : Bool) (E : EH) : Option Value :=
 if i9 fl k = true then (xG m E).bind fun es => (bw fl k es.1 0).map fun r => match r with
  | some (_, v) => if ok then .tuple #[v, .bool true] else v
  | none => if ok then .tuple #[zero, .bool false] else zero
 else none
def Ip (fl : KCls) (m k x : Value) (E : EH) : Option EH :=
 if i9 fl k = true then match m with
 | .map (some b) => match E.get b with
  | some (.map es c) => (bw fl k es 0).bind fun r => match r with
   | some (i, _) => E.set b (.map (es.modify i fun e => { e with key := k, val := x }) c)
   | none => E.set b (.map (es ++ [{ key := k, val := x, born := c }]) (c + 1))
  | _ => none
 | _ => none
 else none
def Ij (fl : KCls) (m k : Value) (E : EH) : Option EH :=
 if i9 fl k = true then match m with
 | .map (some b) => match E.get b with
  | some (.map es c) => (bw fl k es 0).bind fun r => match r with
   | some (i, _) => E.set b (.map (es.eraseIdx i) c)
   | none => E.set b (.map es c)
  | _ => none
 | _ => none
 else none
def eH (g d : Nat) (F : List AObj) (x : Option (Value × EH)) (y : Option (Value × AH)) : Prop := ∀ v E', x = some (v, E') → ∃ H', y = some (bX g d v, H') ∧ HR g d F E' H'
def ajF (g d : Nat) (F : List AObj) (x : Option EH) (y : Option AH) : Prop := ∀ E', x = some E' → ∃ H', y = some H' ∧ HR g d F E' H'
section
variable {g d : Nat} {F : List AObj} {E E' : EH} {H : AH}
theorem HR.cells (h : HR g d F E H) (b : Nat) : eu H (A9 g d b) = (qE E b).map (ie g d) := by
 unfold eu qE;rw [h.get b]
 cases E.get b with
 | none => rfl
 | some o => cases o <;> rfl
theorem HR.ld1 (h : HR g d F E H) (v : Value) : au ((bX g d) v) H = (aaW v E).map (bX g d) := by
 unfold au aaW;rw [KF]
 cases ux v with
 | none => rfl
 | some a =>
  simp only [fp, bP, h.cells]
  cases qE E a.1 <;> simp [ie]
theorem HR.ldN (h : HR g d F E H) (n : Nat) (v : Value) : aA n ((bX g d) v) H = (aaX n v E).map (bX g d) := by
 unfold aA aaX;rw [KF]
 cases ux v with
 | none => rfl
 | some a =>
  simp only [fp, bP, h.cells]
  cases qE E a.1 with
  | none => rfl
  | some cs =>
   simp only [fp, bP, ie, tg]
   split
   ·simp [List.map_take, List.map_drop]
   ·rfl
theorem HR.st (h : HR g d F E H) (n : Nat) (v x : Value) : ajF g d F (eSt n v x E) (cG n ((bX g d) v) ((bX g d) x) H) := by
 intro E' he;unfold eSt at he;unfold cG;rw [KF];obtain ⟨a, ha, he⟩ := aI.1 he;rw [ha];simp only [fp, bP, h.get]
 split at he
 ·rename_i cs hcs
  split at he
  ·rename_i hc
   rw [hcs];simp only [fp, Oc]
   rw [E0, Array.size_map, Array.toList_map, show (ie g d cs).length = cs.length from tg _, show (List.map (bX g d) x.cells.toList).all Value.oneCell' = x.cells.toList.all Value.oneCell' from Vm _, if_pos hc,
    show splice (ie g d cs) a.2 (List.map (bX g d) x.cells.toList) = ie g d (splice cs a.2 x.cells.toList) from HH _ _ _]
   exact ⟨_, rfl, h.set (h.lt hcs) he⟩
  ·cases he
 ·cases he
theorem HR.new' (h : HR g d F E H) (cs : List Value) : eH g d F (aoC cs E) (some (alM (ie g d cs) H)) := by
 intro v E' he;obtain ⟨E1, h1, e⟩ := bi.1 he;cases e;exact ⟨H.push (Oc g d (.cells false cs)), by simp [alM, h.new, zP, Oc], h.push h1⟩
theorem HR.rowP (h : HR g d F E H) (n e : Nat) (cs : List Value) : eH g d F (Gr n e cs E) (some (.slice (some ⟨H.size, 0, none⟩) n e, H.push (.cells false (ie g d cs)))) := by
 intro v E' he;obtain ⟨E1, h1, e⟩ := bi.1 he;cases e;exact ⟨H.push (Oc g d (.cells false cs)), by simp [h.new, zP, Oc], h.push h1⟩
theorem HR.lenM (h : HR g d F E H) (v : Value) : ny ((bX g d) v) H = (Gq v E).map (bX g d) := by
 cases v with
 | map r =>
  cases r with
  | none => simp [ny, Gq]
  | some b =>
   simp only [KE, fp, ny, Gq, h.get]
   cases E.get b with
   | none => rfl
   | some o => cases o <;> simp [Oc]
 | _ => simp [ny, Gq]
theorem HR.row (h : HR g d F E H) (e : Nat) (x : Value) : lM e ((bX g d) x) H = (V9 e x E).map fun r => (r.1, ie g d r.2) := by
 cases x with
 | slice a n k =>
  cases a with
  | none => simp only [gO, Option.map_none, lM, V9]; split <;> rfl
  | some a =>
   obtain ⟨b, o, sp⟩ := a
   cases sp with
   | some sp => simp [lM, V9, zP]
   | none =>
    simp only [gO, fp, zP, lM, V9, h.cells]
    split
    ·rfl
    ·cases qE E b with
     | none => rfl
     | some cs =>
      simp only [fp, bP, ie, tg]
      split
      ·simp [List.map_take, List.map_drop]
      ·rfl
 | _ => simp [lM, V9]
theorem HR.mapOf (h : HR g d F E H) (v : Value) : kc ((bX g d) v) H = (xG v E).map fun r => (r.1.map (ND g d), r.2) := by
 cases v with
 | map r =>
  cases r with
  | none => simp [kc, xG]
  | some b =>
   simp only [KE, fp, kc, xG, h.get]
   cases E.get b with
   | none => rfl
   | some o => cases o <;> simp [Oc]
 | _ => simp [kc, xG]
theorem HR.lookup (h : HR g d F E H) (fl : KCls) {zero : Value} (hz : (bX g d) zero = zero) (m k : Value) (ok : Bool) : db fl zero ((bX g d) m) ((bX g d) k) ok H = (Bg fl zero m k ok E).map (bX g d) := by
 unfold db Bg;rw [E4]
 split
 ·rw [h.mapOf]
  cases xG m E with
  | none => rfl
  | some es =>
   simp only [fp, bP, uZ]
   cases bw fl k es.1 0 with
   | none => rfl
   | some r =>
    cases r with
    | none => cases ok <;> simp [hz]
    | some p => cases ok <;> simp
 ·rfl
theorem HR.update (h : HR g d F E H) (fl : KCls) (m k x : Value) : ajF g d F (Ip fl m k x E) (eZ fl ((bX g d) m) ((bX g d) k) ((bX g d) x) H) := by
 intro E' he;unfold Ip at he
 split at he
 ·rename_i hk
  split at he
  ·rename_i b
   split at he
   ·rename_i es c hb
    obtain ⟨r, hr, he⟩ := aI.1 he
    have hg : H.get (A9 g d b) = some (.map (es.map (ND g d)) c) := by rw [h.get, hb]; rfl
    have hf := uZ (g := g) (d := d) fl k es 0;rw [hr] at hf;simp only [KE, fp, eZ, E4, hk, if_true, hg]
    cases r with
    | some p =>
     have hf : bw fl ((bX g d) k) (es.map (ND g d)) 0 = some (some (p.1, (bX g d) p.2)) := hf;rw [hf];refine ⟨_, rfl, ?_⟩;have := h.set (h.lt hb) he;simp only [Oc] at this;show HR g d F E' (H.set (A9 g d b) (.map ((es.map (ND g d)).modify p.1 fun e => { e with key := (bX g d) k, val := (bX g d) x }) c));rw [show (es.map (ND g d)).modify p.1 (fun e => { e with key := (bX g d) k, val := (bX g d) x }) = (es.modify p.1 fun e => { e with key := k, val := x }).map (ND g d) from ?_]
     ·exact this
     ·apply List.ext_getElem?
      intro i;simp only [List.getElem?_modify, yj]
      cases es[i]? with
      | none => rfl
      | some e => simp only [fp, Option.map_map]; split <;> rfl
    | none =>
     have hf : bw fl ((bX g d) k) (es.map (ND g d)) 0 = some none := hf;rw [hf];refine ⟨_, rfl, ?_⟩;have := h.set (h.lt hb) he;simp only [Oc, FT, List.map_cons, List.map_nil, ND] at this;exact this
   ·cases he
  ·cases he
 ·cases he
theorem HR.delete (h : HR g d F E H) (fl : KCls) (m k : Value) : ajF g d F (Ij fl m k E) (nr fl ((bX g d) m) ((bX g d) k) H) := by
 intro E' he;unfold Ij at he
 split at he
 ·rename_i hk
  split at he
  ·rename_i b
   split at he
   ·rename_i es c hb
    obtain ⟨r, hr, he⟩ := aI.1 he
    have hg : H.get (A9 g d b) = some (.map (es.map (ND g d)) c) := by rw [h.get, hb]; rfl
    have hf := uZ (g := g) (d := d) fl k es 0;rw [hr] at hf;simp only [KE, fp, nr, E4, hk, if_true, hg]
    cases r with
    | some p =>
     have hf : bw fl ((bX g d) k) (es.map (ND g d)) 0 = some (some (p.1, (bX g d) p.2)) := hf;rw [hf];refine ⟨_, rfl, ?_⟩;have := h.set (h.lt hb) he;simp only [Oc] at this;show HR g d F E' (H.set (A9 g d b) (.map ((es.map (ND g d)).eraseIdx p.1) c));rw [show (es.map (ND g d)).eraseIdx p.1 = (es.eraseIdx p.1).map (ND g d) from by simp [List.eraseIdx_eq_take_drop_succ, List.map_take, List.map_drop]];exact this
    | none =>
     have hf : bw fl ((bX g d) k) (es.map (ND g d)) 0 = some none := hf;rw [hf];exact ⟨_, rfl, h.set (h.lt hb) he⟩
   ·cases he
  ·cases he
 ·cases he
theorem HR.make (h : HR g d F E H) {zero : List Value} (hz : ie g d zero = zero) (e by' : Nat) (len cap : Value) : eH g d F (aaY zero e by' len cap E) (nz zero e by' ((bX g d) len) ((bX g d) cap) H) := by
 intro v E' he;unfold aaY at he
 split at he
 ·split at he
  ·rename_i k1 l k2 c hc
   obtain ⟨H', h1, h2⟩ := h.rowP _ _ _ v E' he;refine ⟨H', ?_, h2⟩;simp only [yZ, nz];rw [if_pos hc, ← h1]
   congr 4
   rw [ie, List.map_flatten, List.map_replicate, show List.map (bX g d) zero = zero from hz]
  ·cases he
 ·cases he
theorem HR.app (h : HR g d F E H) (e by' : Nat) (x y : Value) : eH g d F (aoA e by' x y E) (fN e by' ((bX g d) x) ((bX g d) y) H) := by
 intro v E' he;unfold aoA at he;unfold fN;rw [h.row];obtain ⟨r, hr, he⟩ := aI.1 he;rw [hr];simp only [fp, bP];rw [show (ie g d r.2).all Value.oneCell' = r.2.all Value.oneCell' from Vm _]
 split at he
 ·rename_i hc
  rw [if_pos hc]
  split at he
  ·rename_i n k
   simp only [gO, Option.map_none]
   split at he
   ·rename_i h0
    rw [if_pos h0]
    split at he
    ·rename_i h1
     rw [if_pos h1]; cases he; exact ⟨H, by simp, h⟩
    ·rename_i h1
     rw [if_neg h1]
     split at he
     ·rename_i h2
      rw [if_pos h2];exact h.rowP _ _ _ v E' he
     ·cases he
   ·cases he
  ·rename_i _ b o n e' _
   simp only [gO, fp, zP]
   split at he
   ·rename_i h1
    rw [if_pos h1]; cases he; exact ⟨H, by simp [zP], h⟩
   ·rename_i h1
    rw [if_neg h1]
    split at he
    ·rename_i h2
     rw [if_pos h2]
     split at he
     ·rename_i h3
      rw [if_pos h3];exact h.rowP _ _ _ v E' he
     ·cases he
    ·rename_i h2
     rw [if_neg h2]
     split at he
     ·rename_i cs hb
      have hg : H.get (A9 g d b) = some (.cells false (ie g d cs)) := by rw [h.get, hb]; rfl
      rw [hg];simp only;rw [show (ie g d cs).length = cs.length from tg _]
      split at he
      ·rename_i h3
       rw [if_pos h3];obtain ⟨E1, h4, he⟩ := aI.1 he;have hs := h.set (h.lt hb) h4;obtain ⟨H', h5, h6⟩ := hs.rowP _ _ _ v E' he;refine ⟨H', ?_, h6⟩;rw [← h5, AH.size_set];simp [Oc, ie, List.map_take, List.map_drop]
      ·cases he
     ·cases he
  ·cases he
 ·cases he
end
abbrev TF := Nat → List Value → EH → Option (Value × EH)
def Fc (P : Program) (b : Builtin) (argTypes : Array TypeId) (args : List Value) (E : EH) : Option (Value × EH) :=
 match b, args with
 | .len, [x] => match (argTypes[0]?).bind fun t => P.underlying t with
  | some (.slice _) => match x with | .slice _ _ _ => (qw x).map (·, E) | _ => none
  | some .string => match x with | .string _ => (qw x).map (·, E) | _ => none
  | some (.map _ _) => (Gq x E).map (·, E)
  | _ => none
 | .max, args => (iC args).map (·, E)
 | .min, args => (jM args).map (·, E)
 | .append, [s, x] => (argTypes[0]?).bind fun t => (cK P t).bind fun el => (cR P el).bind fun e => (ga P el).bind fun by' => (bZ P el).bind fun z =>
  if z.cells.size = e ∧ (argTypes[1]?).bind (fun u => cK P u) = some el then aoA e by' s x E else none
 | .delete, [m, k] => (argTypes[0]?).bind fun t => (cL P t).bind fun kt => (cY P kt.1).bind fun fl => (Ij fl m k E).map fun E' => (.tuple #[], E')
 | _, _ => none
def tRd (P : Program) (ev : Operand → Value) (op : Op) (E : EH) : Option Value :=
 match op with
 | .load t a => (fP P t).bind fun g => match g with
  | some n => aaX n (ev a) E
  | none => aaW (ev a) E
 | .lookup t m k ok => (cL P t).bind fun kt => (cY P kt.1).bind fun fl => (bZ P kt.2).bind fun z => Bg fl z (ev m) (ev k) ok E
 | .call c => match c.args.toList.map ev with
  | [x] => match (c.argTypes[0]?).bind fun t => P.underlying t with
   | some (.slice _) => match x with | .slice _ _ _ => qw x | _ => none
   | some .string => match x with | .string _ => qw x | _ => none
   | some (.map _ _) => Gq x E
   | _ => none
  | _ => none
 | _ => none
def xo (P : Program) (call : TF) (ev : Operand → Value) (o : Oper) (E : EH) : Option (Value × EH) :=
 match o.op with
 | .move x => some (ev x, E)
 | .assign x => some (ev x, E)
 | .pick c a b => (bd (ev c) (ev a) (ev b)).map (·, E)
 | .alloc t => (bZ P t).bind fun z => aoC z.cells.toList E
 | .box _ x => aoC (ev x).cells.toList E
 | .build t parts => match P.underlying t with
  | some (.struct fs) => (bZ P t).bind fun z => (jC P fs.toList).bind fun ps => (du (ps[·]?) z.cells.toList (parts.toList.map fun p => (p.1, ev p.2))).map fun cs => (.agg cs.toArray, E)
  | some (.array _ el) => (bZ P t).bind fun z => (cR P el).bind fun e => (du (fun i => some (i * e, e)) z.cells.toList (parts.toList.map fun p => (p.1, ev p.2))).map fun cs => (.agg cs.toArray, E)
  | _ => none
 | .buildSlice t len parts => (cK P t).bind fun el => (cR P el).bind fun e => (bZ P el).bind fun z =>
  if 0 < e ∧ z.cells.size = e ∧ len * e ≤ 2 ^ 24 then
   (du (fun i => some (i * e, e)) (List.replicate len z.cells.toList).flatten (parts.toList.map fun p => (p.1, ev p.2))).bind fun cs => Gr len e cs E
  else none
 | .load t a => (fP P t).bind fun g => match g with
  | some n => (aaX n (ev a) E).map (·, E)
  | none => (aaW (ev a) E).map (·, E)
 | .store t a x => (cR P t).bind fun n => (eSt n (ev a) (ev x) E).map fun E' => (undef, E')
 | .nilCheck x => (uy (ev x)).map (·, E)
 | .binOp op t x y _ => (ai (zg P t) op (ev x) (ev y)).map (·, E)
 | .unOp op _ x => (oc op (ev x)).map (·, E)
 | .convert src dst x => match P.underlying src with
  | some _ => (cg (rj P dst) (ev x)).map (·, E)
  | none => none
 | .makeFunc fn first captured => some (.func fn (first.map ev) (captured.map ev), E)
 | .makeMap _ none => (E.push (.map [] 0)).map fun E' => (.map (some E.n), E')
 | .makeSlice t l c => (cK P t).bind fun el => (cR P el).bind fun e => (ga P el).bind fun by' => (bZ P el).bind fun z => aaY z.cells.toList e by' (ev l) (ev c) E
 | .slice t x lo hi none => (cK P t).bind fun el => (cR P el).bind fun e => (fH e (ev x) (lo.map ev) (hi.map ev)).map (·, E)
 | .slice t x none (some hi) (some mx) => (cK P t).bind fun el => (cR P el).bind fun _ => (jB (ev x) (ev hi) (ev mx)).map (·, E)
 | .fieldAddr s x f => (ko P s f).bind fun f => (cR P f.type).bind fun n => if n = 0 then none else (FX f.offset (ev x)).map (·, E)
 | .field s x f => (ko P s f).bind fun f => (fP P f.type).bind fun n => (ly n f.offset (ev x)).map (·, E)
 | .indexAddr t x i => match P.underlying t with
  | some (.slice el) => (cR P el).bind fun e => (oP e (ev x) (ev i)).map (·, E)
  | some (.array len el) => (cR P el).bind fun e => (jQ len e (ev x) (ev i)).map (·, E)
  | _ => none
 | .index t x i => match P.underlying t with
  | some (.array len el) => (cR P el).bind fun e => (fP P el).bind fun n => (jA len n e (ev x) (ev i)).map (·, E)
  | some .string => (jz (ev x) (ev i)).map (·, E)
  | _ => none
 | .lookup t m k ok => (cL P t).bind fun kt => (cY P kt.1).bind fun fl => (bZ P kt.2).bind fun z => (Bg fl z (ev m) (ev k) ok E).map (·, E)
 | .mapUpdate t m k x => (cL P t).bind fun kt => (cY P kt.1).bind fun fl => (Ip fl (ev m) (ev k) (ev x) E).map fun E' => (undef, E')
 | .extract t i => (ag (ev t) i).map (·, E)
 | .call c => match c.callee with
  | .builtin b => Fc P b c.argTypes (c.args.toList.map ev) E
  | .value f => (cf (ev f) (c.args.toList.map ev)).bind fun fa => call fa.1 fa.2 E
  | _ => none
 | _ => none
section
variable {P : Program} {g d : Nat} {F : List AObj} {E E' : EH} {H : AH}
theorem kj {t : TypeId} {z : Value} (h : bZ P t = some z) : (bX g d) z = z ∧ ie g d z.cells.toList = z.cells.toList := by
 obtain ⟨i, _, _, h1, h2⟩ := di h;exact ⟨NE h2, xj h1⟩
theorem eH.val (h : HR g d F E H) {x y : Option Value} (e : y = x.map (bX g d)) : eH g d F (x.map (·, E)) (y.map (·, H)) := by
 intro v E' hx;obtain ⟨z, hz, e1⟩ := bi.1 hx;cases e1;rw [e, hz];exact ⟨H, rfl, h⟩
theorem eH.bind {α : Type} {o : Option α} {f : α → Option (Value × EH)} {f' : α → Option (Value × AH)} (h : ∀ a, o = some a → eH g d F (f a) (f' a)) : eH g d F (o.bind f) (o.bind f') := by
 intro v E' hx;obtain ⟨a, ha, hx⟩ := aI.1 hx;rw [ha];exact h a ha v E' hx
theorem eH.no {y : Option (Value × AH)} : eH g d F none y := fun v E' h => by cases h
theorem eH.ite {c : Prop} [Decidable c] {x : Option (Value × EH)} {y : Option (Value × AH)} (h : c → eH g d F x y) : eH g d F (if c then x else none) (if c then y else none) := by
 intro v E' hx
 split at hx
 ·rename_i hc; rw [if_pos hc]; exact h hc v E' hx
 ·cases hx
theorem eH.heap {x : Option EH} {y : Option AH} (v : Value) (hv : (bX g d) v = v) (h : ajF g d F x y) : eH g d F (x.map fun E' => (v, E')) (y.map fun H' => (v, H')) := by
 intro v' E' hx;obtain ⟨E1, h1, e⟩ := bi.1 hx;cases e;obtain ⟨H', h2, h3⟩ := h E' h1;exact ⟨H', by rw [h2, hv]; rfl, h3⟩
theorem OT {ev ev' : Operand → Value} {l : List Operand} (h : ∀ x ∈ l, ev' x = (bX g d) (ev x)) : l.map ev' = ie g d (l.map ev) := by
 rw [ie, List.map_map];exact List.map_congr_left h
theorem Lq (h : HR g d F E H) (b : Builtin) (ats : Array TypeId) (args : List Value) : eH g d F (Fc P b ats args E) (cX P b ats (ie g d args) H) := by
 intro v E' hx;unfold Fc at hx
 split at hx
 ·rename_i x
  simp only [ie, List.map_cons, List.map_nil, cX]
  split at hx
  ·rename_i hu
   rw [hu];simp only
   split at hx
   ·simp only [gO]
    exact eH.val h (by rw [← gO, alX]) v E' hx
   ·cases hx
  ·rename_i hu
   rw [hu];simp only
   split at hx
   ·simp only [HI]
    exact eH.val h (by simp [qw]) v E' hx
   ·cases hx
  ·rename_i hu
   rw [hu];exact eH.val h (h.lenM _) v E' hx
  ·cases hx
 ·exact eH.val h (alY _) v E' hx
 ·exact eH.val h (alZ _) v E' hx
 ·simp only [ie, List.map_cons, List.map_nil, cX]
  exact eH.bind (fun t _ => eH.bind fun el _ => eH.bind fun e _ => eH.bind fun by' _ => eH.bind fun z _ => eH.ite fun _ => h.app _ _ _ _) v E' hx
 ·simp only [ie, List.map_cons, List.map_nil, cX]
  exact eH.bind (fun t _ => eH.bind fun kt _ => eH.bind fun fl _ => eH.heap _ (by simp) (h.delete _ _ _)) v E' hx
 ·cases hx
theorem anO (h : HR g d F E H) {ev ev' : Operand → Value} {op : Op} (hev : ∀ x, x ∈ op.operands.toList → ev' x = (bX g d) (ev x)) : BY P ev' op H = (tRd P ev op E).map (bX g d) := by
 cases op with
 | load t a =>
  simp only [BY, tRd];rw [hev a (by simp [Op.operands])]
  cases fP P t with
  | none => rfl
  | some n => cases n with
   | none => exact h.ld1 _
   | some n => exact h.ldN _ _
 | lookup t m k ok =>
  simp only [BY, tRd];rw [hev m (by simp [Op.operands]), hev k (by simp [Op.operands])]
  cases cL P t with
  | none => rfl
  | some kt =>
   simp only [bP]
   cases cY P kt.1 with
   | none => rfl
   | some fl =>
    simp only [bP]
    cases hz : bZ P kt.2 with
    | none => rfl
    | some z => exact h.lookup fl (kj hz).1 _ _ _
 | call c =>
  have ha : c.args.toList.map ev' = ie g d (c.args.toList.map ev) := OT fun x hx => hev x (by simp only [Op.operands, Call.operands, Array.toList_append, List.mem_append]; exact .inr hx);simp only [BY, tRd];rw [ha]
  generalize c.args.toList.map ev = l
  match l with
  | [] => rfl
  | [x] =>
   simp only [ie, List.map_cons, List.map_nil]
   generalize (c.argTypes[0]?).bind (fun t => P.underlying t) = u
   cases u with
   | none => rfl
   | some u => cases u <;> first | rfl | exact h.lenM _ | (cases x <;> simp [qw])
  | x :: y :: l => rfl
 | _ => rfl
def sx (g d : Nat) (F : List AObj) (c : TF) (c' : bK) : Prop := ∀ (E : EH) (H : AH) f args, HR g d F E H → eH g d F (c f args E) (c' f (ie g d args) H)
theorem ao2 (h : HR g d F E H) {c : TF} {c' : bK} (hc : sx g d F c c') {ev ev' : Operand → Value} {o : Oper} (hev : ∀ x, x ∈ o.op.operands.toList → ev' x = (bX g d) (ev x)) :
 eH g d F (xo P c ev o E) (fe P c' ev' o H) := by
 obtain ⟨dst, op, type, pos, after, guard⟩ := o;simp only at hev
 have fill : ∀ (parts : Array (Nat × Operand)), (∀ x, x ∈ (parts.toList.map (·.2)) → ev' x = (bX g d) (ev x)) → (parts.toList.map fun p => (p.1, ev' p.2)) = (parts.toList.map fun p => (p.1, ev p.2)).map fun p => (p.1, (bX g d) p.2) := by
  intro parts hp;rw [List.map_map];refine List.map_congr_left fun p hpm => ?_;simp only [Function.comp];rw [hp p.2 (List.mem_map_of_mem hpm)]
 have arr : ∀ (l : Array Operand), (∀ x ∈ l.toList, ev' x = (bX g d) (ev x)) → l.map ev' = (l.map ev).map (bX g d) := by
  intro l hl;apply Array.toList_inj.1;rw [Array.toList_map, Array.toList_map, Array.toList_map];exact OT hl
 cases op
 case move x => intro v E' hx; simp only [xo] at hx; cases hx; exact ⟨H, by simp only [fe]; rw [hev x (by simp [Op.operands])], h⟩
 case assign x => intro v E' hx; simp only [xo] at hx; cases hx; exact ⟨H, by simp only [fe]; rw [hev x (by simp [Op.operands])], h⟩
 case pick k a b =>
  simp only [xo, fe];rw [hev k (by simp [Op.operands]), hev a (by simp [Op.operands]), hev b (by simp [Op.operands])];exact eH.val h (ahT _ _ _)
 case alloc t =>
  intro v E' hx;simp only [xo] at hx;simp only [fe];obtain ⟨z, hz, hx⟩ := aI.1 hx;rw [hz];have := h.new' _ v E' hx;rw [(kj hz).2] at this;exact this
 case box t x =>
  simp only [xo, fe];rw [hev x (by simp [Op.operands]), Za];exact h.new' _
 case build t parts =>
  have hp := fill parts fun x hx => hev x (by simpa [Op.operands] using hx);intro v E' hx;simp only [xo] at hx;simp only [fe];rw [hp]
  split at hx
  ·rename_i fs hu
   rw [hu];simp only;obtain ⟨z, hz, hx⟩ := aI.1 hx;obtain ⟨ps, hps, hx⟩ := aI.1 hx;obtain ⟨cs, hcs, e⟩ := bi.1 hx;cases e;have hf := E5 (g := g) (d := d) (ps[·]?) (parts.toList.map fun p => (p.1, ev p.2)) z.cells.toList;rw [(kj hz).2, hcs] at hf;rw [hz, hps];simp only [bP];rw [hf];exact ⟨H, by simp, h⟩
  ·rename_i el hu
   rw [hu];simp only;obtain ⟨z, hz, hx⟩ := aI.1 hx;obtain ⟨e, he, hx⟩ := aI.1 hx;obtain ⟨cs, hcs, e⟩ := bi.1 hx;cases e;have hf := E5 (g := g) (d := d) (fun i => some (i * e, e)) (parts.toList.map fun p => (p.1, ev p.2)) z.cells.toList;rw [(kj hz).2, hcs] at hf;rw [hz, he];simp only [bP];rw [hf];exact ⟨H, by simp, h⟩
  ·cases hx
 case buildSlice t len parts =>
  have hp := fill parts fun x hx => hev x (by simpa [Op.operands] using hx);simp only [xo, fe];rw [hp];refine eH.bind fun el _ => eH.bind fun e _ => eH.bind fun z hz => eH.ite fun _ => ?_;intro v E' hx;obtain ⟨cs, hcs, hx⟩ := aI.1 hx;have hf := E5 (g := g) (d := d) (fun i => some (i * e, e)) (parts.toList.map fun p => (p.1, ev p.2)) (List.replicate len z.cells.toList).flatten
  rw [hcs, show ie g d (List.replicate len z.cells.toList).flatten = (List.replicate len z.cells.toList).flatten from by
   rw [ie, List.map_flatten, List.map_replicate, show List.map (bX g d) z.cells.toList = z.cells.toList from (kj hz).2]] at hf
  rw [hf];exact h.rowP _ _ _ v E' hx
 case load t a =>
  simp only [xo, fe];rw [hev a (by simp [Op.operands])];refine eH.bind fun n _ => ?_
  cases n with
  | none => exact eH.val h (h.ld1 _)
  | some n => exact eH.val h (h.ldN _ _)
 case store t a x =>
  simp only [xo, fe];rw [hev a (by simp [Op.operands]), hev x (by simp [Op.operands])];exact eH.bind fun n _ => eH.heap _ sc (h.st _ _ _)
 case nilCheck x =>
  simp only [xo, fe];rw [hev x (by simp [Op.operands])];exact eH.val h (al0 _)
 case binOp op t x y z =>
  simp only [xo, fe];rw [hev x (by simp [Op.operands]), hev y (by simp [Op.operands])];exact eH.val h (alU _ _ _ _)
 case unOp op t x =>
  simp only [xo, fe];rw [hev x (by simp [Op.operands])];exact eH.val h (apQ _ _)
 case convert src dst x =>
  simp only [xo, fe];rw [hev x (by simp [Op.operands])]
  split
  ·rename_i hu; rw [hu]; exact eH.val h (ahP _ _)
  ·exact eH.no
 case makeFunc fn first captured =>
  simp only [xo, fe];rw [arr first fun x hx => hev x (by simp only [Op.operands, Array.toList_append, List.mem_append]; exact .inl hx), arr captured fun x hx => hev x (by simp only [Op.operands, Array.toList_append, List.mem_append]; exact .inr hx)];intro v E' hx; cases hx; exact ⟨H, by simp, h⟩
 case makeMap t r =>
  cases r with
  | none =>
   intro v E' hx;simp only [xo] at hx;simp only [fe];obtain ⟨E1, h1, e⟩ := bi.1 hx;cases e;exact ⟨H.push (Oc g d (.map [] 0)), by simp [h.new, Oc], h.push h1⟩
  | some r => exact eH.no
 case makeSlice t l k =>
  simp only [xo, fe];rw [hev l (by simp [Op.operands]), hev k (by simp [Op.operands])]
  exact eH.bind fun el _ => eH.bind fun e _ => eH.bind fun by' _ => eH.bind fun z hz => h.make (kj hz).2 _ _ _ _
 case slice t x lo hi mx =>
  have hx := hev x (by simp [Op.operands])
  have ho : ∀ (q : Option Operand), (∀ y ∈ q.toArray.toList, ev' y = (bX g d) (ev y)) → q.map ev' = (q.map ev).map (bX g d) := by
   intro q hq
   cases q with
   | none => rfl
   | some y => simp [hq y (by simp)]
  have hlo : lo.map ev' = (lo.map ev).map (bX g d) := ho lo fun y hy => hev y (by simp only [Op.operands, Array.toList_append, List.mem_append]; exact .inl (.inl (.inr hy)));have hhi : hi.map ev' = (hi.map ev).map (bX g d) := ho hi fun y hy => hev y (by simp only [Op.operands, Array.toList_append, List.mem_append]; exact .inl (.inr hy));have hmx : mx.map ev' = (mx.map ev).map (bX g d) := ho mx fun y hy => hev y (by simp only [Op.operands, Array.toList_append, List.mem_append]; exact .inr hy)
  cases mx with
  | none =>
   simp only [xo, fe];rw [hx, hlo, hhi];exact eH.bind fun el _ => eH.bind fun e _ => eH.val h (Zb _ _ _ _)
  | some mx =>
   cases lo with
   | some lo => cases hi <;> exact eH.no
   | none =>
    cases hi with
    | none => exact eH.no
    | some hi =>
     simp only [fp, Option.some.injEq] at hhi hmx;simp only [xo, fe];rw [hx, hhi, hmx];refine eH.bind fun el _ => eH.bind fun e _ => ?_;intro v E' hv;obtain ⟨z, hz, e⟩ := bi.1 hv;cases e;rw [Rt hz];exact ⟨H, rfl, h⟩
 case fieldAddr st x f =>
  simp only [xo, fe];rw [hev x (by simp [Op.operands])];refine eH.bind fun f _ => eH.bind fun n _ => ?_
  split
  ·exact eH.no
  ·exact eH.val h (alV _ _)
 case field st x f =>
  simp only [xo, fe];rw [hev x (by simp [Op.operands])];exact eH.bind fun f _ => eH.bind fun n _ => eH.val h (ahS _ _ _)
 case indexAddr t x i =>
  simp only [xo, fe];rw [hev x (by simp [Op.operands]), hev i (by simp [Op.operands])]
  split
  ·rename_i hu; rw [hu]; exact eH.bind fun e _ => eH.val h (alW _ _ _)
  ·rename_i hu; rw [hu]; exact eH.bind fun e _ => eH.val h (ahR _ _ _ _)
  ·exact eH.no
 case index t x i =>
  simp only [xo, fe];rw [hev x (by simp [Op.operands]), hev i (by simp [Op.operands])]
  split
  ·rename_i hu; rw [hu]; exact eH.bind fun e _ => eH.bind fun n _ => eH.val h (Rs _ _ _ _ _)
  ·rename_i hu; rw [hu]; exact eH.val h (Rr _ _)
  ·exact eH.no
 case lookup t m k ok =>
  simp only [xo, fe];rw [hev m (by simp [Op.operands]), hev k (by simp [Op.operands])];exact eH.bind fun kt _ => eH.bind fun fl _ => eH.bind fun z hz => eH.val h (h.lookup fl (kj hz).1 _ _ _)
 case mapUpdate t m k x =>
  simp only [xo, fe];rw [hev m (by simp [Op.operands]), hev k (by simp [Op.operands]), hev x (by simp [Op.operands])];exact eH.bind fun kt _ => eH.bind fun fl _ => eH.heap _ sc (h.update _ _ _ _)
 case extract t i =>
  simp only [xo, fe];rw [hev t (by simp [Op.operands])];exact eH.val h (NF _ _)
 case call k =>
  obtain ⟨callee, args, ats⟩ := k;have ha : args.toList.map ev' = ie g d (args.toList.map ev) := OT fun x hx => hev x (by simp only [Op.operands, Call.operands, Array.toList_append, List.mem_append]; exact .inr hx)
  cases callee with
  | builtin b =>
   simp only [xo, fe];rw [ha];exact Lq h _ _ _
  | value f =>
   simp only [xo, fe];rw [ha, hev f (by simp [Op.operands, Call.operands])];intro v E' hx;obtain ⟨q, hq, hx⟩ := aI.1 hx;rw [Rq, hq];exact hc E H _ _ h v E' hx
  | invoke r m => exact eH.no
 all_goals exact eH.no
end
def tEv (T : Tr Value) : Operand → Value
 | .tmp t => match T.get t with
  | some v => v
  | none => undef
 | .const v => v
 | .global g => .pointer (some ⟨g, 0, none⟩)
 | .func f => .func (.func f) #[] #[]
def al4 (m : Nat) (T : Tr Value) (dst : Option Tmp) (v : Value) : Option (Tr Value) :=
 match dst with
 | some j => match Nat.blt j m with
  | true => Tr.set v 24 T j
  | false => none
 | none => some T
def RC (ops : Array Oper) (T : Tr Value) (j : Nat) : Option Bool :=
 match (ops[j]?).bind (·.dst) with
 | some t => match T.get t with
  | some (.bool b) => some b
  | _ => none
 | none => none
def Vs (P : Program) (G : List Nat) (call : TF) (ops : Array Oper) (m : Nat) (o : Oper) (T : Tr Value) (E : EH) : Option (Tr Value × EH) :=
 match o.op.operands.toList.all (Oa G) with
 | true => match Region.wanted o (RC ops T) with
  | true => (xo P call (tEv T) o E).bind fun r => (al4 m T o.dst r.1).map fun T' => (T', r.2)
  | false => (al4 m T o.dst undef).map fun T' => (T', E)
 | false => none
def RB (P : Program) (G : List Nat) (call : TF) (ops : Array Oper) (m : Nat) : List Oper → Tr Value → EH → List (Tr Value × EH) → Option (List (Tr Value × EH) × Tr Value × EH)
 | [], T, E, hist => some (hist ++ [(T, E)], T, E)
 | o :: rest, T, E, hist => (Vs P G call ops m o T E).bind fun r => RB P G call ops m rest r.1 r.2 (hist ++ [(T, E)])
def anS (P : Program) (G : List Nat) (hist : List (Tr Value × EH)) (ops : Array Oper) (p : Nat × Nat) : Bool :=
 match ops[p.1]?, hist[p.1]?, hist[if p.2 < p.1 then p.2 else p.2 + 1]? with
 | some o, some s, some s' => o.op.operands.toList.all (Oa G) && eqO (tRd P (tEv s.1) o.op s'.2) (tRd P (tEv s.1) o.op s.2)
 | _, _, _ => false
def BM (P : Program) (G : List Nat) (call : TF) (ops : Array Oper) (m : Nat) (draw : Bool) (T : Tr Value) (E : EH) : Option (Tr Value × EH) :=
 match draw with
 | true => match tQ ops.toList with
  | true => (RB P G call ops m ops.toList T E []).bind fun r => match (d5 ops.toList).all (anS P G r.1 ops) with
   | true => some r.2
   | false => none
  | false => none
 | false => (RB P G call ops m ops.toList T E []).map (·.2)
abbrev TR := AE × Tr Value × EH
def Vr (f : Tr Value → EH → Option TR) : Nat → Tr Value → EH → Option TR
 | 0, _, _ => none
 | n + 1, T, E => (f T E).bind fun r => match r.1 with
  | .normal => Vr f n r.2.1 r.2.2
  | _ => some r
def jI (P : Program) (G : List Nat) (call : TF) (N m : Nat) : Code → Tr Value → EH → Option TR
 | .skip, T, E => some (.normal, T, E)
 | .label _, T, E => some (.normal, T, E)
 | .region _ ops draw, T, E => (BM P G call ops m draw T E).map fun s => (.normal, s.1, s.2)
 | .seq x y, T, E => (jI P G call N m x T E).bind fun r => match r.1 with
  | .normal => jI P G call N m y r.2.1 r.2.2
  | _ => some r
 | .cond c x y, T, E => match Oa G c with
  | true => match tEv T c with
   | .bool true => jI P G call N m x T E
   | .bool false => jI P G call N m y T E
   | _ => none
  | false => none
 | .block id x, T, E => (jI P G call N m x T E).map fun r => match r.1 with
  | .exit i => if i = id then (.normal, r.2.1, r.2.2) else r
  | _ => r
 | .loop x, T, E => Vr (jI P G call N m x) N T E
 | .exit id, T, E => some (.exit id, T, E)
 | .ret, T, E => some (.ret, T, E)
 | _, _, _ => none
def Fd (T : Tr Value) (t : Nat) : Value := match T.get t with
 | some v => v
 | none => undef
def xp (P : Program) (T : Tr Value) (E : EH) : ResultVar → Option Value
 | .tmp t => some (Fd T t)
 | .cell a t => (fP P t).bind fun g => match g with
  | some n => aaX n (Fd T a) E
  | none => aaW (Fd T a) E
def HP (P : Program) (T : Tr Value) (E : EH) : List ResultVar → Option (List Value)
 | [] => some []
 | r :: rs => (xp P T E r).bind fun v => (HP P T E rs).bind fun vs => some (v :: vs)
def ah4 (P : Program) (rs : List ResultVar) (r : TR) : Option (Value × EH) :=
 match r.1 with
 | .exit _ => none
 | _ => (HP P r.2.1 r.2.2 rs).map fun vs => (match vs with
  | [v] => v
  | vs => .tuple vs.toArray, r.2.2)
def NL : List Value → Nat → Tr Value → Option (Tr Value)
 | [], _, T => some T
 | v :: vs, i, T => (Tr.set v 24 T i).bind fun T' => NL vs (i + 1) T'
def ah3 (P : Program) (G : List Nat) (call : TF) (N n : Nat) (rs : List ResultVar) (s : DSh) (T : Tr Value) (E : EH) : Option (Value × EH) :=
 (jI P G call N n s.c1 T E).bind fun r => match r.1 with
  | .normal => match Nat.blt s.t n with
   | true => (Vs P G call s.ops2 n s.om r.2.1 r.2.2).bind fun q => (RB P G call s.ops3 n s.ops3.toList q.1 q.2 []).bind fun z => ah4 P rs (.normal, z.2.1, z.2.2)
   | false => none
  | _ => none
def HO (P : Program) (G D : List Nat) (N : Nat) : Nat → TF
 | 0 => fun _ _ _ => none
 | k + 1 => fun f args E => match P.funcs[f]? with
  | some fn => if fn.name = "runtime.NumGoroutine" then none else match fn.body with
   | some c => match Nat.ble args.length fn.ntmps with
    | true => (NL args 0 .lf).bind fun T => match la c with
     | none => (jI P G (HO P G D N k) N fn.ntmps c T E).bind (ah4 P fn.results.toList)
     | some s => match D.contains s.k with
      | true => ah3 P G (HO P G D N k) N fn.ntmps fn.results.toList s T E
      | false => none
    | false => none
   | none => none
  | none => none
section
variable {P : Program} {G : List Nat} {g d m N : Nat} {F : List AObj}
structure ER (g d m : Nat) (T : Tr Value) (A : List Value) : Prop where
 len : A.length = m
 get : ∀ t, A[t]?.getD undef = bX g d (Fd T t)
theorem NK {v : Value} {T T' : Tr Value} {j : Nat} (h : Tr.set v 24 T j = some T') (t : Nat) : Fd T' t = if t = j then v else Fd T t := by
 unfold Fd;rw [Tr.get_set 24 h t]
 by_cases e : t = j
 ·rw [if_pos e, if_pos e]
 ·rw [if_neg e, if_neg e]
theorem ER.put {T T' : Tr Value} {A : List Value} (h : ER g d m T A) {dst : Option Tmp} {v : Value} (hp : al4 m T dst v = some T') : ER g d m T' (lE A dst ((bX g d) v)) := by
 unfold al4 at hp
 cases dst with
 | none => cases hp; exact h
 | some j =>
  simp only at hp
  split at hp
  ·rename_i hb
   have hj : j < m := Nat.le_of_ble_eq_true hb;refine ⟨by simp [lE, h.len], fun t => ?_⟩;rw [NK hp];simp only [lE];rw [List.getElem?_set]
   by_cases e : t = j
   ·rw [if_pos e, if_pos e.symm, if_pos (by rw [h.len]; omega)]; rfl
   ·rw [if_neg e, if_neg (fun x => e x.symm)]; exact h.get t
  ·cases hp
theorem ER.ev {T : Tr Value} {A : List Value} (h : ER g d m T A) (hG : ∀ b ∈ G, b < g) {x : Operand} (hx : Oa G x = true) : fR A x = (bX g d) (tEv T x) := by
 cases x with
 | tmp t => exact h.get t
 | const v => exact (NE hx).symm
 | global b =>
  simp only [Oa, List.contains_iff_mem] at hx;simp [fR, tEv, zP, A9, hG b hx]
 | func f => simp [fR, tEv]
theorem ER.yield {T : Tr Value} {A : List Value} (h : ER g d m T A) (ops : Array Oper) : dO ops A = RC ops T := by
 funext j
 unfold dO RC
 cases (ops[j]?).bind (·.dst) with
 | none => rfl
 | some t =>
  simp only [bP];have hg := h.get t;unfold Fd at hg
  cases hT : T.get t with
  | none =>
   rw [hT] at hg;simp only [sc] at hg
   cases hA : A[t]? with
   | none => rfl
   | some v => rw [hA] at hg; simp only [Option.getD_some] at hg; subst hg; rfl
  | some v =>
   rw [hT] at hg;simp only at hg
   cases hA : A[t]? with
   | none => rw [hA] at hg; simp only [Option.getD_none] at hg; cases v <;> simp [undef] at hg ⊢
   | some w => rw [hA] at hg; simp only [Option.getD_some] at hg; subst hg; cases v <;> simp
structure St (g d m : Nat) (F : List AObj) (x : Tr Value × EH) (y : List Value × AH) : Prop where
 er : ER g d m x.1 y.1
 hr : HR g d F x.2 y.2
theorem NH {c : TF} {c' : bK} (hG : ∀ b ∈ G, b < g) (hc : sx g d F c c') {ops : Array Oper} {o : Oper} {T : Tr Value} {E : EH} {A : List Value} {H : AH} {r} (hS : St g d m F (T, E) (A, H)) (h : Vs P G c ops m o T E = some r) :
 ∃ r', gG P G c' ops o A H = some r' ∧ St g d m F r r' := by
 unfold Vs at h;unfold gG
 split at h
 ·rename_i hok
  rw [if_pos hok];have hev : ∀ x, x ∈ o.op.operands.toList → fR A x = (bX g d) (tEv T x) := fun x hx => hS.er.ev hG (List.all_eq_true.1 hok x hx);rw [hS.er.yield]
  split at h
  ·rename_i hw
   rw [if_pos hw];obtain ⟨⟨v, E1⟩, h1, h⟩ := aI.1 h;obtain ⟨T', h2, e⟩ := bi.1 h;cases e;obtain ⟨H', h3, h4⟩ := ao2 hS.hr hc hev v E1 h1;rw [h3];exact ⟨_, rfl, hS.er.put h2, h4⟩
  ·rename_i hw
   rw [if_neg (by rw [hw]; simp)];obtain ⟨T', h2, e⟩ := bi.1 h;cases e;refine ⟨_, rfl, ?_, hS.hr⟩;have := hS.er.put h2
   rwa [sc] at this
 ·cases h
theorem JT {c : TF} {c' : bK} (hG : ∀ b ∈ G, b < g) (hc : sx g d F c c') {ops : Array Oper} : ∀ (l : List Oper) {T : Tr Value} {E : EH} {A : List Value} {H : AH} {hist r}, St g d m F (T, E) (A, H) → RB P G c ops m l T E hist = some r →
 (∃ r', dm P G c' ops l A H = some r' ∧ St g d m F r.2 r') ∧ ∃ t, r.1 = hist ++ t ∧ t.length = l.length + 1 ∧ ∀ i, i ≤ l.length → ∃ x y, t[i]? = some x ∧ dm P G c' ops (l.take i) A H = some y ∧ St g d m F x y := by
 intro l
 induction l with
 | nil =>
  intro T E A H hist r hS h;simp only [RB] at h; cases h;refine ⟨⟨_, rfl, hS⟩, [(T, E)], rfl, rfl, ?_⟩;intro i hi
  have : i = 0 := by simpa using hi
  subst this;exact ⟨_, _, rfl, rfl, hS⟩
 | cons o l ih =>
  intro T E A H hist r hS h;simp only [RB] at h;obtain ⟨q, hq, h⟩ := aI.1 h;obtain ⟨⟨A1, H1⟩, h1, hS1⟩ := NH hG hc hS hq;obtain ⟨T1, E1⟩ := q;obtain ⟨⟨r', h2, hS2⟩, t, e, hl, ht⟩ := ih hS1 h;refine ⟨⟨r', by simp only [dm, h1, bP]; exact h2, hS2⟩, (T, E) :: t, by rw [e]; simp, by simp [hl], ?_⟩;intro i hi
  cases i with
  | zero => exact ⟨_, _, rfl, rfl, hS⟩
  | succ i =>
   obtain ⟨x, y, hx, hy, hxy⟩ := ht i (by simpa using hi);exact ⟨x, y, by simpa using hx, by simp only [List.take_succ_cons, dm, h1, bP]; exact hy, hxy⟩
theorem QQ {c : TF} {c' : bK} (hG : ∀ b ∈ G, b < g) (hc : sx g d F c c') {ops : Array Oper} {draw : Bool} {T : Tr Value} {E : EH} {A : List Value} {H : AH} {r} (hS : St g d m F (T, E) (A, H)) (h : BM P G c ops m draw T E = some r) :
 ∃ r', gn P G c' ops draw A H = some r' ∧ St g d m F r r' := by
 cases draw with
 | false =>
  simp only [BM, gn] at h ⊢;obtain ⟨q, hq, e⟩ := bi.1 h;subst e;exact (JT hG hc _ hS hq).1
 | true =>
  simp only [BM, gn] at h ⊢
  split at h
  ·rename_i hreg
   obtain ⟨q, hq, h⟩ := aI.1 h
   split at h
   ·rename_i hall
    cases h;obtain ⟨⟨r', h1, h2⟩, t, e, hl, ht⟩ := JT hG hc _ hS hq;refine ⟨r', ?_, h2⟩;unfold mW;rw [hreg];simp only
    cases hp : d5 ops.toList with
    | nil => exact h1
    | cons p ps =>
     simp only;rw [kH ?_]
     ·exact h1
     ·rw [← hp]
      intro p hpm o ho;have hx := List.all_eq_true.1 hall p hpm;unfold anS at hx;rw [ho] at hx;simp only [List.nil_append] at e
      have st : ∀ i x, q.1[i]? = some x → St g d m F x (jS P G c' ops A H i) := by
       intro i x hs
       have hi : i < t.length := by rw [e] at hs; exact (Ap.1 hs).1
       obtain ⟨x', y, hx', hy, hxy⟩ := ht i (by omega);rw [e, hx'] at hs;cases hs;unfold jS;rw [hy];exact hxy
      split at hx
      ·rename_i o' x1 x2 ho' hs hs'
       cases ho';simp only [Bool.and_eq_true] at hx;have hev : ∀ x, x ∈ o.op.operands.toList → fR (jS P G c' ops A H p.1).1 x = (bX g d) (tEv x1.1 x) := fun x hxm => (st _ _ hs).er.ev hG (List.all_eq_true.1 hx.1 x hxm);rw [anO (st _ _ hs').hr hev, anO (st _ _ hs).hr hev, Wd hx.2]
      ·cases hx
   ·cases h
  ·cases h
structure Ar (g d m : Nat) (F : List AObj) (x : TR) (y : AR) : Prop where
 e : x.1 = y.1
 st : St g d m F x.2 y.2
theorem Lv {c : TF} {c' : bK} (hG : ∀ b ∈ G, b < g) (hc : sx g d F c c') : ∀ (k : Code) {T : Tr Value} {E : EH} {A : List Value} {H : AH} {r : TR}, St g d m F (T, E) (A, H) → jI P G c N m k T E = some r →
 ∃ r', aZ P G c' k A H = some r' ∧ Ar g d m F r r' := by
 intro k
 induction k with
 | region id ops draw =>
  intro T E A H r hS hr;simp only [jI, aZ] at hr ⊢;obtain ⟨q, hq, e⟩ := bi.1 hr;obtain ⟨r', h1, h2⟩ := QQ hG hc hS hq;subst e;rw [h1];exact ⟨_, rfl, rfl, h2⟩
 | seq x y ihx ihy =>
  intro T E A H r hS hr;simp only [jI, aZ] at hr ⊢;obtain ⟨⟨e, T1, E1⟩, hx, hr⟩ := aI.1 hr;obtain ⟨⟨e', A1, H1⟩, h1, h2⟩ := ihx hS hx;have he : e = e' := h2.e;subst he;rw [h1];simp only [bP]
  cases e with
  | normal => exact ihy h2.st hr
  | exit i => cases hr; exact ⟨_, rfl, h2⟩
  | ret => cases hr; exact ⟨_, rfl, h2⟩
 | cond b x y ihx ihy =>
  intro T E A H r hS hr;simp only [jI, aZ] at hr ⊢
  split at hr
  ·rename_i hok
   rw [hS.er.ev hG hok]
   split at hr
   ·rename_i e; rw [e]; simp only [Vl]; exact ihx hS hr
   ·rename_i e; rw [e]; simp only [Vl]; exact ihy hS hr
   ·cases hr
  ·cases hr
 | block id x ih =>
  intro T E A H r hS hr;simp only [jI, aZ] at hr ⊢;obtain ⟨⟨e, T1, E1⟩, hx, hr⟩ := bi.1 hr;obtain ⟨⟨e', A1, H1⟩, h1, h2⟩ := ih hS hx;have he : e = e' := h2.e;subst he;rw [h1];subst hr
  cases e with
  | normal => exact ⟨_, rfl, h2⟩
  | exit i =>
   simp only [fp]
   by_cases hi : i = id
   ·rw [if_pos hi, if_pos hi]; exact ⟨_, rfl, rfl, h2.st⟩
   ·rw [if_neg hi, if_neg hi]; exact ⟨_, rfl, h2⟩
  | ret => exact ⟨_, rfl, h2⟩
 | loop x ih =>
  intro T E A H r hS hr;simp only [jI, aZ] at hr ⊢
  suffices key : ∀ n T E A H, St g d m F (T, E) (A, H) → Vr (jI P G c N m x) n T E = some r → ∃ r', fv (aZ P G c' x) n A H = some r' ∧ Ar g d m F r r' from by
   obtain ⟨r', h1, h2⟩ := key N T E A H hS hr;exact ⟨r', dl.2 ⟨N, h1⟩, h2⟩
  clear hr hS
  intro n
  induction n with
  | zero => intro T E A H hS hr; cases hr
  | succ n ihn =>
   intro T E A H hS hr;simp only [Vr, fv] at hr ⊢;obtain ⟨⟨e, T1, E1⟩, hx, hr⟩ := aI.1 hr;obtain ⟨⟨e', A1, H1⟩, h1, h2⟩ := ih hS hx;have he : e = e' := h2.e;subst he;rw [h1];simp only [bP]
   cases e with
   | normal => exact ihn _ _ _ _ h2.st hr
   | exit i => cases hr; exact ⟨_, rfl, h2⟩
   | ret => cases hr; exact ⟨_, rfl, h2⟩
 | skip => intro T E A H r hS hr; simp only [jI] at hr; cases hr; exact ⟨_, rfl, rfl, hS⟩
 | label l => intro T E A H r hS hr; simp only [jI] at hr; cases hr; exact ⟨_, rfl, rfl, hS⟩
 | exit i => intro T E A H r hS hr; simp only [jI] at hr; cases hr; exact ⟨_, rfl, rfl, hS⟩
 | ret => intro T E A H r hS hr; simp only [jI] at hr; cases hr; exact ⟨_, rfl, rfl, hS⟩
 | _ => intro T E A H r hS hr; cases hr
theorem QU {T : Tr Value} {E : EH} {A : List Value} {H : AH} (hS : St g d m F (T, E) (A, H)) (r : ResultVar) : lF P A H r = (xp P T E r).map (bX g d) := by
 cases r with
 | tmp t => simp only [lF, xp, fp]; rw [hS.er.get t]
 | cell a t =>
  simp only [lF, xp];rw [hS.er.get a]
  cases fP P t with
  | none => rfl
  | some n => cases n with
   | none => exact hS.hr.ld1 _
   | some n => exact hS.hr.ldN _ _
theorem ae7 {T : Tr Value} {E : EH} {A : List Value} {H : AH} (hS : St g d m F (T, E) (A, H)) : ∀ rs : List ResultVar, tw P A H rs = (HP P T E rs).map (ie g d) := by
 intro rs
 induction rs with
 | nil => rfl
 | cons r rs ih =>
  simp only [tw, HP];rw [QU hS, ih]
  cases xp P T E r with
  | none => rfl
  | some v => cases HP P T E rs <;> rfl
theorem Un {rs : List ResultVar} {x : TR} {y : AR} (h : Ar g d m F x y) : eH g d F (ah4 P rs x) (ZW P rs y) := by
 intro v E' hx;obtain ⟨e, T, E⟩ := x;obtain ⟨e', A, H⟩ := y;have he : e = e' := h.e;subst he;have hS := h.st;have hm := ae7 (P := P) hS rs
 have key : ∀ vs, HP P T E rs = some vs → jf P A H rs = some ((bX g d) (match vs with | [v] => v | vs => .tuple vs.toArray)) := by
  intro vs hvs;unfold jf;rw [hm, hvs];simp only [fp]
  congr 1
  match vs with
  | [] => simp [ie]
  | [v] => rfl
  | v :: w :: vs => simp [ie]
 cases e with
 | exit i => cases hx
 | normal =>
  simp only [ah4, ZW] at hx ⊢;obtain ⟨vs, hvs, e⟩ := bi.1 hx;cases e;rw [key vs hvs];exact ⟨H, rfl, hS.hr⟩
 | ret =>
  simp only [ah4, ZW] at hx ⊢;obtain ⟨vs, hvs, e⟩ := bi.1 hx;cases e;rw [key vs hvs];exact ⟨H, rfl, hS.hr⟩
theorem aeX : ∀ (vs : List Value) (i : Nat) (T : Tr Value) {T' : Tr Value}, NL vs i T = some T' → ∀ t, Fd T' t = if i ≤ t ∧ t < i + vs.length then (vs[t - i]?).getD undef else Fd T t := by
 intro vs
 induction vs with
 | nil => intro i T T' h t; simp only [NL] at h; cases h; rw [if_neg (by simp only [List.length_nil]; omega)]
 | cons v vs ih =>
  intro i T T' h t;simp only [NL] at h;obtain ⟨T1, h1, h⟩ := aI.1 h;rw [ih _ _ h t, NK h1]
  by_cases e1 : i + 1 ≤ t ∧ t < i + 1 + vs.length
  ·rw [if_pos e1, if_pos (by simp; omega)]
   rw [show t - i = (t - (i + 1)) + 1 from by omega, List.getElem?_cons_succ]
  ·rw [if_neg e1]
   by_cases e2 : t = i
   ·subst e2; rw [if_pos rfl, if_pos (by simp)]; simp
   ·rw [if_neg e2, if_neg (by simp; omega)]
theorem aaM {D : List Nat} (hG : ∀ b ∈ G, b < g) (hD : ∀ k ∈ D, u7 P k) : ∀ k, sx g d F (HO P G D N k) (fO P G k) := by
 intro k
 induction k with
 | zero => intro E H f args hR v E' h; cases h
 | succ k ih =>
  intro E H f args hR v E' h;rw [HO] at h;rw [fO];simp only [] at h ⊢
  cases hf : P.funcs[f]? with
  | none => rw [hf] at h; cases h
  | some fn =>
   rw [hf] at h;simp only at h ⊢
   split at h
   ·cases h
   ·rename_i hn
    rw [if_neg hn]
    cases hb : fn.body with
    | none => rw [hb] at h; cases h
    | some c =>
     rw [hb] at h;simp only at h ⊢
     split at h
     ·rename_i hle
      have hle := Nat.le_of_ble_eq_true hle;obtain ⟨T, hT, h⟩ := aI.1 h
      have hS : St g d fn.ntmps F (T, E) (ie g d args ++ List.replicate (fn.ntmps - (ie g d args).length) undef, H) := by
       refine ⟨⟨by simp; omega, fun t => ?_⟩, hR⟩;rw [aeX _ _ _ hT];simp only [ie, List.getElem?_append, tg, yj, List.getElem?_replicate]
       by_cases e : t < args.length
       ·rw [if_pos (show 0 ≤ t ∧ t < 0 + args.length from by omega), if_pos e]
        simp [cT e]
       ·rw [if_neg (show ¬ (0 ≤ t ∧ t < 0 + args.length) from by omega), if_neg e]
        have : Fd .lf t = undef := rfl;rw [this, sc]
        split <;> rfl
      cases hd : la c with
      | none =>
       rw [hd] at h;obtain ⟨r, hr, h⟩ := aI.1 h;obtain ⟨r', h1, h2⟩ := Lv hG ih c hS hr;simp only;unfold pV;rw [h1];exact Un h2 v E' h
      | some q =>
       rw [hd] at h;simp only at h ⊢
       split at h
       ·rename_i hin
        rw [kH (hD _ (by simpa using hin))];unfold ah3 at h;unfold oZ;obtain ⟨⟨e1, T1, E1⟩, hr, h⟩ := aI.1 h;obtain ⟨⟨e2, A1, H1⟩, h1, h2⟩ := Lv hG ih q.c1 hS hr;have he : e1 = e2 := h2.e;subst he;rw [h1];simp only [bP]
        cases e1 with
        | exit i => cases h
        | ret => cases h
        | normal =>
         simp only at h ⊢
         split at h
         ·rename_i hlt
          have hlt : q.t < fn.ntmps := Nat.le_of_ble_eq_true hlt;have hlen : A1.length = fn.ntmps := h2.st.er.len;rw [if_neg (by omega)];obtain ⟨⟨T2, E2⟩, h3, h⟩ := aI.1 h;obtain ⟨⟨A2, H2⟩, h4, h5⟩ := NH hG ih h2.st h3;obtain ⟨z, h6, h⟩ := aI.1 h;obtain ⟨⟨⟨A3, H3⟩, h7, h8⟩, _⟩ := JT hG ih _ h5 h6;rw [h4];simp only [bP];rw [h7];exact Un (x := (.normal, z.2.1, z.2.2)) (y := (.normal, A3, H3)) ⟨rfl, h8⟩ v E' h
         ·cases h
       ·cases h
     ·cases h
end
def afT (tab : List Value) : Option (Value × EH) → Bool
 | some (.bool true, E) => match E.get 0 with
  | some (.cells true cs) => FM (eqV 0) cs tab
  | _ => false
 | _ => false
def NM (tab : List Value) : EH := ⟨1, .nd (some (.cells true tab)) .lf .lf⟩
theorem Oy {P : Program} {D : List Nat} {N k f : Nat} {tab : List Value} (hD : ∀ k ∈ D, u7 P k) (hl : tab.all dv = true) (h : afT tab (HO P [0] D N k f [] (NM tab)) = true)
 {H : AH} (hH : H.get 0 = some (.cells true tab)) : ∃ H', aF P [0] f [] H = some (.bool true, H') ∧ H.size ≤ H'.size ∧ ∀ i, i < H.size → H'.get i = H.get i := by
 obtain ⟨objs⟩ := H
 cases objs with
 | nil => cases hH
 | cons o F =>
  have ho : o = .cells true tab := by simpa [AH.get] using hH
  subst ho
  have hR : HR 1 F.length F (NM tab) ⟨.cells true tab :: F⟩ := by
   refine ⟨rfl, bB _, by simp [AH.size, NM, Nat.add_comm], fun b => ?_, fun b hb => ?_, fun b h1 h2 => ?_⟩
   ·cases b with
    | zero =>
     have : A9 1 F.length 0 = 0 := rfl;rw [this];show some _ = some (AObj.cells true (ie 1 F.length tab));rw [xj hl]
    | succ b =>
     have e : A9 1 F.length (b + 1) = b + 1 + F.length := by simp [A9]
     have e2 : (NM tab).get (b + 1) = none := by
      simp only [EH.get, NM, Tr.get]; split <;> rfl
     rw [e, e2];exact AH.get_none (by simp [AH.size]; omega)
   ·have : 1 ≤ b := hb
    obtain ⟨b, rfl⟩ : ∃ c, b = c + 1 := ⟨b - 1, by omega⟩
    simp only [EH.get, NM, Tr.get]; split <;> rfl
   ·obtain ⟨b, rfl⟩ : ∃ c, b = c + 1 := ⟨b - 1, by omega⟩
    simp [AH.get]
  unfold afT at h
  split at h
  ·rename_i E' hE
   obtain ⟨H', h1, h2⟩ := aaM (F := F) (N := N) (P := P) (by simp) hD k (NM tab) _ f [] hR _ _ hE;refine ⟨H', ?_, ?_, fun i hi => ?_⟩
   ·have := RS k _ _ _ _ h1
    simpa using this
   ·rw [h2.size]
    have := h2.le;simp [AH.size]; omega
   ·split at h
    ·rename_i cs hcs
     have he : cs = tab := Cy (Gu 0) _ _ h;subst he
     cases i with
     | zero =>
      have := h2.get 0;rw [show A9 1 F.length 0 = 0 from rfl, hcs] at this;rw [this];show some (AObj.cells true (ie 1 F.length cs)) = _;rw [xj hl]; rfl
     | succ i =>
      have hi : i < F.length := by simpa [AH.size] using hi
      rw [h2.fr (i + 1) (by omega) (by omega)];simp [AH.get]
    ·cases h
  ·cases h
section
variable {P : Program} {w : World} {ev : Operand → Value} {d : Option Tmp} {x : Operand} {v a b : Value} {y : TypeId} {p : String} {e : Array Edge} {gd : Option (Nat × Bool)}
end
def tabC : List Value := [0,1,56,2,57,49,28,3,61,58,42,50,38,29,17,4,62,47,59,36,45,43,51,22,53,39,33,30,24,18,12,5,63,55,48,27,60,41,37,16,46,35,44,21,52,32,23,11,54,26,40,15,34,20,31,10,25,14,19,9,13,8,7,6].map fun n => .int .u8 n
theorem Lg : afT tabC (HO Tryz.prog [0] [] 100000 60 11 [] (NM tabC)) = true := by decide +kernel
end Go.Proofs.YtflbeghglllknaaGreatDoor.Gst
