/- Several texts in one. -/
import Derived.Test.YtodpbobjmkhcfaaGreatDoorOd
namespace Go.Proofs.YtodpbobjmkhcfaaGreatDoor.Gst
open Go Go.RowKit
set_option linter.unusedSimpArgs false
set_option linter.unusedVariables false
set_option maxHeartbeats 1000000
set_option synthInstance.maxSize 2000
set_option synthInstance.maxHeartbeats 400000
theorem gr {rp : List Nat} {t : Tk} {v : Value} (h : t.at' < 7) : Hf rp t v := fun h' => by omega
theorem ce {rp : List Nat} {t : Tk} {b : Nat} (h : rp[t.obj]? = some b) : Hf rp t (vp b) := fun _ => ⟨b, h, rfl⟩
section
variable {e p : Nat} {rp : List Nat} {g : PIds} {σ σ' : a7} {t t' : Tk} {R P : SP} {H : AH} {r : a7 × Tk × Bool} {v : Value} {n : Nat} {c : Int}
theorem cV (h : ae (eP e p rp σ t * R) H) : ∃ (nx rv : Value) (g : PIds), Hf rp t rv ∧ g.rp = rp ∧ rp.length = σ.obs.length ∧ nx = Uk e (yf t.at') ∧ ae (eB e p nx rv t * (aH p g σ * R)) H := by
 obtain ⟨rv, h1, h2⟩ := Pc h
 obtain ⟨g, h3, h4, h5⟩ := ee (p := p) (rp := rp) (σ := σ) (R := eB e p (Uk e (yf t.at')) rv t * R) (H := H) h2.to
 exact ⟨_, rv, g, h1, h3, h4, rfl, h5.to⟩
theorem E7 (hr : r = (σ', t', false)) (hv : Hf rp t' v) (hn : yf t'.at' = n) (h : ae (eB e p (Uk e n) v t' * (bm p rp σ' * R)) H) :
 ∃ x : Unit, (.tuple #[.agg (nc 0).toArray, vb false]) = dj r ∧ ae (eQ e p rp r * R) H := by
 subst hr
 exact ⟨(), rfl, In hv hn h⟩
theorem cZ (hr : r = (σ', t', false)) (hv : Hf g.rp t' v) (hn : yf t'.at' = n) (hl : g.rp.length = σ'.obs.length) (h : ae (eB e p (Uk e n) v t' * (aH p g σ' * R)) H) :
 ∃ x : Unit, (.tuple #[.agg (nc 0).toArray, vb false]) = dj r ∧ ae (eQ e p g.rp r * R) H := by
 refine E7 hr hv hn ?_
 have h1 := bo (p := p) (rp := g.rp) (σ := σ') (R := eB e p (Uk e n) v t' * R) g rfl hl h.to
 exact h1.to
theorem zS (hr : r = (σ', t', true)) (hc : t'.code = c) (h : ae (bm p rp σ' * R) H) :
 ∃ x : Unit, (.tuple #[.agg (nc c).toArray, vb true]) = dj r ∧ ae (eQ e p rp r * R) H := by
 subst hr
 subst hc
 exact ⟨(), rfl, h⟩
theorem fq (nx rv : Value) (t' : Tk) (n : Nat) {b : Nat} {Q : Value → AH → Prop} (h : ae P H) [fr : Fr P (eB e p nx rv t' * blk b (.cells false [vi 0, .slice none 0 0, vi 0, vw 0])) R]
 (hk : ∀ H', ae (eB e p (Uk e n) rv t' * R) H' → Q (.tuple #[.agg (nc 0).toArray, vb false]) H') :
 wp ((FF bk [vp e, Uk e n] H).bind fun r2 => (aj r2.1 0).bind fun v3 => (aj r2.1 1).bind fun v4 => (dn 4 (vp b) v3 r2.2).bind fun H5 => (aD 4 (vp b) H5).bind fun v6 => some (Value.tuple #[v6, v4], H5)) Q :=
 n9 h (aiD e p nx rv n t') hk
end
section
variable (e p : Nat) (rp : List Nat) (σ : a7) (t : Tk) (now : Int)
theorem VT (S : SOk σ) (T : fY σ t) (hat : t.at' = 3) : Sp cA [vp e, vi now] (eP e p rp σ t) (fun _ : Unit => dj (ak σ t now)) (fun _ => eQ e p rp (ak σ t now)) := by
 have hN : σ.μ.N < 1099511627000 := by have := S.N; omega
 refine av fun R H h => ?_
 obtain ⟨nx, rv, g, hv, rfl, hl, _, h0⟩ := cV h
 refine aw (fun r => Lm _ _ H) ?_
 refine aO h0 fun b1 H1 h1 => ?_
 refine am h1 ac rfl ?_
 refine am h1 ac rfl ?_
 refine am h1 ac rfl ?_
 refine am h1 ac rfl ?_
 refine af h1 (OU (p := p) (g := g) (σ := σ) (OG g.tb g.m σ.c.sh.toNat σ.c.sl.toNat σ.μ t.who t.s hN)) fun _ H2 h2 => ?_
 by_cases hw : σ.μ.V (8, t.s, 0) = 0
 ·rw [decide_eq_true hw]
  with_reducible repeat refine gg ?_
  rw [Bool.not_true]
  with_reducible repeat refine gg ?_
  refine aK h2 ac rfl rfl fun H3 h3 => ?_
  refine fq (e := e) (p := p) nx rv { t with at' := 4, i := 0 } dy h3 fun H9 h9 => ?_
  exact cZ (σ' := σ.mem (σ.μ.swp t.who (8, t.s, 0) 0 1)) (t' := { t with at' := 4, i := 0 }) (v := rv) (n := dy) (by simp only [ak, hat]; rw [if_pos hw]) (gr (by simp)) rfl hl h9.to
 ·rw [decide_eq_false hw]
  with_reducible repeat refine gg ?_
  rw [Bool.not_false]
  with_reducible repeat refine gg ?_
  refine fq (e := e) (p := p) nx rv t cA h2 fun H9 h9 => ?_
  exact cZ (σ' := σ.mem (σ.μ.swp t.who (8, t.s, 0) 0 1)) (t' := t) (v := rv) (n := cA) (by simp only [ak, hat]; rw [if_neg hw]) (gr (by omega)) (by rw [hat]; rfl) hl h9.to
theorem Kr (S : SOk σ) (T : fY σ t) (hat : t.at' = 5) : Sp dz [vp e, vi now] (eP e p rp σ t) (fun _ : Unit => dj (ak σ t now)) (fun _ => eQ e p rp (ak σ t now)) := by
 have hN : σ.μ.N < 1099511627000 := by have := S.N; omega
 refine av fun R H h => ?_
 obtain ⟨nx, rv, g, hv, rfl, hl, _, h0⟩ := cV h
 refine aw (fun r => E6 _ _ H) ?_
 refine aO h0 fun b1 H1 h1 => ?_
 refine am h1 ac rfl ?_
 refine am h1 ac rfl ?_
 refine am h1 ac rfl ?_
 refine am h1 ac rfl ?_
 refine af h1 (OU (p := p) (g := g) (σ := σ) (HF g.tb g.m σ.c.sh.toNat σ.c.sl.toNat σ.μ t.who t.s hN)) fun _ H2 h2 => ?_
 refine am h2 ac rfl ?_
 cases hf : t.found
 ·with_reducible repeat refine gg ?_
  rw [Bool.not_false]
  with_reducible repeat refine gg ?_
  refine n9 h2 (ti (vp e) 5) fun H9 h9 => ?_
  exact zS (σ' := σ.mem ((σ.μ.acc t.who 2 (8, t.s, 0)).put (8, t.s, 0) 0)) (t' := { t with at' := 6 }) (by simp only [ak, hat, hf]; rfl) (T.c5 hat hf) (bo (p := p) (rp := g.rp) (R := R) g rfl hl h9.to)
 ·with_reducible repeat refine gg ?_
  rw [Bool.not_true]
  with_reducible repeat refine gg ?_
  refine fq (e := e) (p := p) nx rv { t with at' := 6 } fB h2 fun H9 h9 => ?_
  exact cZ (σ' := σ.mem ((σ.μ.acc t.who 2 (8, t.s, 0)).put (8, t.s, 0) 0)) (t' := { t with at' := 6 }) (v := rv) (n := fB) (by simp only [ak, hat, hf]; rfl) (gr (by simp)) rfl hl h9.to
theorem VU (S : SOk σ) (T : fY σ t) (hat : t.at' = 6) : Sp fB [vp e, vi now] (eP e p rp σ t) (fun _ : Unit => dj (ak σ t now)) (fun _ => eQ e p rp (ak σ t now)) := by
 have hN : σ.μ.N < 1099511627000 := by have := S.N; omega
 refine av fun R H h => ?_
 obtain ⟨nx, rv, g, hv, rfl, hl, _, h0⟩ := cV h
 have ho := T.obj (.inl (by omega))
 obtain ⟨b, hb⟩ : ∃ b, g.rp[t.obj]? = some b := ⟨_, List.getElem?_eq_getElem (by omega)⟩
 refine aw (fun r => Ln _ _ H) ?_
 refine aO h0 fun b1 H1 h1 => ?_
 refine am h1 ac rfl ?_
 refine am h1 ac rfl ?_
 refine am h1 ac rfl ?_
 refine af h1 (Nt p g σ hl t.who t.obj ho S.N) fun _ H2 h2 => ?_
 refine am h2 ac rfl ?_
 refine am h2 ac rfl ?_
 refine af h2 (xn p g (σ.mem (σ.μ.acc t.who 5 (13, (t.obj : Int), 0))) hl t.obj b ho hb) fun _ H3 h3 => ?_
 refine aK h3 ac rfl rfl fun H4 h4 => ?_
 refine fq (e := e) (p := p) nx (vp b) { t with at' := 7 } bN h4 fun H9 h9 => ?_
 exact cZ (σ' := σ.mem (σ.μ.acc t.who 5 (13, (t.obj : Int), 0))) (t' := { t with at' := 7 }) (v := (vp b)) (n := bN) (by simp only [ak, hat]) (ce hb) rfl hl h9.to
theorem VY (S : SOk σ) (T : fY σ t) (hat : t.at' = 7) : Sp bN [vp e, vi now] (eP e p rp σ t) (fun _ : Unit => dj (ak σ t now)) (fun _ => eQ e p rp (ak σ t now)) := by
 have hN : σ.μ.N < 1099511627000 := by have := S.N; omega
 refine av fun R H h => ?_
 obtain ⟨nx, rv, g, hv, rfl, hl, _, h0⟩ := cV h
 obtain ⟨b, hb, rfl⟩ := hv (by omega)
 have ho := T.obj (.inl (by omega))
 refine aw (fun r => Lt _ _ H) ?_
 refine aO h0 fun b1 H1 h1 => ?_
 refine am h1 ac rfl ?_
 refine am h1 ac rfl ?_
 refine af h1 (g7 (p := p) hl ho hb (Em g.m t.obj b (az σ t.obj) σ.μ t.who hN)) fun _ H2 h2 => ?_
 refine aK h2 ac rfl rfl fun H3 h3 => ?_
 refine am h3 ac rfl ?_
 refine af h3 (je _ (S.V _)) fun _ H4 h4 => ?_
 by_cases hw : br (σ.μ.V (11, (t.obj : Int), 0)) = 2
 ·refine aa (bp hw) ?_
  with_reducible repeat refine gg ?_
  refine fq (e := e) (p := p) nx (vp b) { t with w := σ.μ.V (11, (t.obj : Int), 0), at' := 3 } cA h4 fun H9 h9 => ?_
  exact cZ (σ' := lS σ t) (t' := { t with w := σ.μ.V (11, (t.obj : Int), 0), at' := 3 }) (v := (vp b)) (n := cA) (by simp only [ak, hat]; rw [if_pos hw]) (gr (by simp)) rfl hl h9.to
 ·refine aa (aS hw) ?_
  with_reducible repeat refine gg ?_
  refine fq (e := e) (p := p) nx (vp b) { t with w := σ.μ.V (11, (t.obj : Int), 0), at' := 8 } j8 h4 fun H9 h9 => ?_
  exact cZ (σ' := lS σ t) (t' := { t with w := σ.μ.V (11, (t.obj : Int), 0), at' := 8 }) (v := (vp b)) (n := j8) (by simp only [ak, hat]; rw [if_neg hw]) (ce hb) rfl hl h9.to
theorem Cj (S : SOk σ) (T : fY σ t) (hat : t.at' = 16) : Sp dU [vp e, vi now] (eP e p rp σ t) (fun _ : Unit => dj (ak σ t now)) (fun _ => eQ e p rp (ak σ t now)) := by
 have hN : σ.μ.N < 1099511627000 := by have := S.N; omega
 refine av fun R H h => ?_
 obtain ⟨nx, rv, g, hv, rfl, hl, _, h0⟩ := cV h
 obtain ⟨b, hb, rfl⟩ := hv (by omega)
 have ho := T.obj (.inl (by omega))
 refine aw (fun r => xL _ _ H) ?_
 refine aO h0 fun b1 H1 h1 => ?_
 refine am h1 ac rfl ?_
 refine am h1 ac rfl ?_
 refine af h1 (g7 (p := p) hl ho hb (Em g.m t.obj b (az σ t.obj) σ.μ t.who hN)) fun _ H2 h2 => ?_
 refine aK h2 ac rfl rfl fun H3 h3 => ?_
 refine am h3 ac rfl ?_
 refine af h3 (je _ (S.V _)) fun _ H4 h4 => ?_
 by_cases hw : br (σ.μ.V (11, (t.obj : Int), 0)) = 2
 ·refine aa (bp hw) ?_
  with_reducible repeat refine gg ?_
  refine fq (e := e) (p := p) nx (vp b) { t with w := σ.μ.V (11, (t.obj : Int), 0), at' := 3 } cA h4 fun H9 h9 => ?_
  exact cZ (σ' := lS σ t) (t' := { t with w := σ.μ.V (11, (t.obj : Int), 0), at' := 3 }) (v := (vp b)) (n := cA) (by simp only [ak, hat]; rw [if_pos hw]) (gr (by simp)) rfl hl h9.to
 ·refine aa (aS hw) ?_
  with_reducible repeat refine gg ?_
  refine fq (e := e) (p := p) nx (vp b) { t with w := σ.μ.V (11, (t.obj : Int), 0), at' := 17 } dT h4 fun H9 h9 => ?_
  exact cZ (σ' := lS σ t) (t' := { t with w := σ.μ.V (11, (t.obj : Int), 0), at' := 17 }) (v := (vp b)) (n := dT) (by simp only [ak, hat]; rw [if_neg hw]) (ce hb) rfl hl h9.to
theorem VQ (S : SOk σ) (T : fY σ t) (hat : t.at' = 8) : Sp j8 [vp e, vi now] (eP e p rp σ t) (fun _ : Unit => dj (ak σ t now)) (fun _ => eQ e p rp (ak σ t now)) := by
 have hN : σ.μ.N < 1099511627000 := by have := S.N; omega
 refine av fun R H h => ?_
 obtain ⟨nx, rv, g, hv, rfl, hl, _, h0⟩ := cV h
 obtain ⟨b, hb, rfl⟩ := hv (by omega)
 have ho := T.obj (.inl (by omega))
 refine aw (fun r => Lk _ _ H) ?_
 refine aO h0 fun b1 H1 h1 => ?_
 refine am h1 ac rfl ?_
 refine am h1 ac rfl ?_
 refine af h1 (g7 (p := p) hl ho hb (Ek g.m t.obj b (az σ t.obj) σ.μ t.who hN)) fun _ H2 h2 => ?_
 refine ag (CN _ _ _ _ H2) ?_
 refine am h2 ac rfl ?_
 refine am h2 ac rfl ?_
 refine af h2 (OT (p := p) (σ := ia σ t) hl ho hb (Ej g.m t.obj b (az σ t.obj) t.w (σ.μ.V (12, (t.obj : Int), 0)) T.w (S.cells _ ho).2)) fun _ H3 h3 => ?_
 cases hf : lr t.w (σ.μ.V (12, (t.obj : Int), 0)) (az σ t.obj).length
 ·with_reducible repeat refine gg ?_
  refine am h3 ac rfl ?_
  refine af h3 (je _ T.w) fun _ H4 h4 => ?_
  by_cases hw : br t.w = 1
  ·refine aa (bp hw) ?_
   with_reducible repeat refine gg ?_
   refine fq (e := e) (p := p) nx (vp b) { t with at' := 9 } iX h4 fun H9 h9 => ?_
   exact cZ (σ' := ia σ t) (t' := { t with at' := 9 }) (v := (vp b)) (n := iX) (by simp only [ak, hat, lq, hf]; rw [if_pos hw]; rfl) (ce hb) rfl hl h9.to
  ·refine aa (aS hw) ?_
   with_reducible repeat refine gg ?_
   refine ag (CO _ _ _ H4) ?_
   refine fq (e := e) (p := p) nx (vp b) { t with at' := 12 } iW h4 fun H9 h9 => ?_
   exact cZ (σ' := ia σ t) (t' := { t with at' := 12 }) (v := (vp b)) (n := iW) (by simp only [ak, hat, lq, hf]; rw [if_neg hw]; rfl) (ce hb) rfl hl h9.to
 ·with_reducible repeat refine gg ?_
  refine fq (e := e) (p := p) nx (vp b) { t with at' := 15 } mW h3 fun H9 h9 => ?_
  exact cZ (σ' := ia σ t) (t' := { t with at' := 15 }) (v := (vp b)) (n := mW) (by simp only [ak, hat, lq, hf]; rfl) (ce hb) rfl hl h9.to
theorem OB (S : SOk σ) (T : fY σ t) (hat : t.at' = 9) : Sp iX [vp e, vi now] (eP e p rp σ t) (fun _ : Unit => dj (ak σ t now)) (fun _ => eQ e p rp (ak σ t now)) := by
 have hN : σ.μ.N < 1099511627000 := by have := S.N; omega
 refine av fun R H h => ?_
 obtain ⟨nx, rv, g, hv, rfl, hl, _, h0⟩ := cV h
 obtain ⟨b, hb, rfl⟩ := hv (by omega)
 have ho := T.obj (.inl (by omega))
 refine aw (fun r => Ik _ _ H) ?_
 refine aO h0 fun b1 H1 h1 => ?_
 refine am h1 ac rfl ?_
 refine am h1 ac rfl ?_
 refine am h1 ac rfl ?_
 refine af h1 (g7 (p := p) hl ho hb (B4 g.m t.obj b (az σ t.obj) σ.μ t.who t.w T.w hN)) fun _ H2 h2 => ?_
 cases hw : eJ σ.μ t.obj t.w (aZ t.w 0)
 ·with_reducible repeat refine gg ?_
  rw [Bool.not_false]
  with_reducible repeat refine gg ?_
  refine fq (e := e) (p := p) nx (vp b) { t with at' := 7 } bN h2 fun H9 h9 => ?_
  exact cZ (σ' := σ.mem (σ.μ.turn t.who t.obj t.w (aZ t.w 0))) (t' := { t with at' := 7 }) (v := (vp b)) (n := bN) (by simp only [ak, hat, hw]; rfl) (ce hb) rfl hl h9.to
 ·with_reducible repeat refine gg ?_
  rw [Bool.not_true]
  with_reducible repeat refine gg ?_
  have k2 := bo (p := p) (rp := g.rp) (σ := σ.mem (σ.μ.turn t.who t.obj t.w (aZ t.w 0))) (R := eB e p nx (vp b) t * (blk b1 (.cells false [vi 0, .slice none 0 0, vi 0, vw 0]) * R)) g rfl hl h2.to
  refine af k2 (tj e p g.rp (σ.mem (σ.μ.turn t.who t.obj t.w (aZ t.w 0))) nx (vp b) t now 0 (by have := S.pts; show σ.pts.length < _; omega)) fun _ H3 h3 => ?_
  refine fq (e := e) (p := p) nx (vp b) { t with at' := 10, code := 0 } mV h3 fun H9 h9 => ?_
  exact E7 (σ' := (σ.mem (σ.μ.turn t.who t.obj t.w (aZ t.w 0))).note now t.who 0) (t' := { t with at' := 10, code := 0 }) (v := (vp b)) (n := mV) (by simp only [ak, hat, hw]; rfl) (ce hb) rfl h9.to
theorem VX (S : SOk σ) (T : fY σ t) (hat : t.at' = 13) : Sp kg [vp e, vi now] (eP e p rp σ t) (fun _ : Unit => dj (ak σ t now)) (fun _ => eQ e p rp (ak σ t now)) := by
 have hN : σ.μ.N < 1099511627000 := by have := S.N; omega
 refine av fun R H h => ?_
 obtain ⟨nx, rv, g, hv, rfl, hl, _, h0⟩ := cV h
 obtain ⟨b, hb, rfl⟩ := hv (by omega)
 have ho := T.obj (.inl (by omega))
 refine aw (fun r => Ls _ _ H) ?_
 refine aO h0 fun b1 H1 h1 => ?_
 refine am h1 ac rfl ?_
 refine am h1 ac rfl ?_
 refine am h1 ac rfl ?_
 refine af h1 (g7 (p := p) hl ho hb (B4 g.m t.obj b (az σ t.obj) σ.μ t.who t.w T.w hN)) fun _ H2 h2 => ?_
 cases hw : eJ σ.μ t.obj t.w (aZ t.w 0)
 ·with_reducible repeat refine gg ?_
  rw [Bool.not_false]
  with_reducible repeat refine gg ?_
  refine fq (e := e) (p := p) nx (vp b) { t with at' := 20 } j5 h2 fun H9 h9 => ?_
  exact cZ (σ' := σ.mem (σ.μ.turn t.who t.obj t.w (aZ t.w 0))) (t' := { t with at' := 20 }) (v := (vp b)) (n := j5) (by simp only [ak, hat, hw]; rfl) (ce hb) rfl hl h9.to
 ·with_reducible repeat refine gg ?_
  rw [Bool.not_true]
  with_reducible repeat refine gg ?_
  have k2 := bo (p := p) (rp := g.rp) (σ := σ.mem (σ.μ.turn t.who t.obj t.w (aZ t.w 0))) (R := eB e p nx (vp b) t * (blk b1 (.cells false [vi 0, .slice none 0 0, vi 0, vw 0]) * R)) g rfl hl h2.to
  refine af k2 (tj e p g.rp (σ.mem (σ.μ.turn t.who t.obj t.w (aZ t.w 0))) nx (vp b) t now 0 (by have := S.pts; show σ.pts.length < _; omega)) fun _ H3 h3 => ?_
  refine fq (e := e) (p := p) nx (vp b) { t with at' := 14, code := 0 } j6 h3 fun H9 h9 => ?_
  exact E7 (σ' := (σ.mem (σ.μ.turn t.who t.obj t.w (aZ t.w 0))).note now t.who 0) (t' := { t with at' := 14, code := 0 }) (v := (vp b)) (n := j6) (by simp only [ak, hat, hw]; rfl) (ce hb) rfl h9.to
theorem y9 (σ : a7) (t : Tk) : sc σ t = { σ with μ := σ.μ.acc t.who 6 (16, (t.obj : Int), ((aR t.w % (az σ t.obj).length : Nat) : Int)), obs := σ.obs.modify t.obj fun q => (q.1, (az σ t.obj).set (aR t.w % (az σ t.obj).length) ⟨t.x.flow, t.x.a, t.x.b⟩) } := by
 have eo : (σ.obs.modify t.obj fun q => (q.1, q.2.set (aR t.w % (az σ t.obj).length) (⟨t.x.flow, t.x.a, t.x.b⟩ : Pk))) = σ.obs.modify t.obj fun q => (q.1, (az σ t.obj).set (aR t.w % (az σ t.obj).length) ⟨t.x.flow, t.x.a, t.x.b⟩) := by
  apply List.ext_getElem?
  intro j
  rw [List.getElem?_modify, List.getElem?_modify]
  cases hj : σ.obs[j]? with
  | none => rfl
  | some q =>
   show some (if t.obj = j then _ else q) = some (if t.obj = j then _ else q)
   by_cases e : t.obj = j
   ·subst e
    rw [if_pos rfl, if_pos rfl]
    unfold az
    rw [hj]; rfl
   ·rw [if_neg e, if_neg e]
 exact congrArg (fun o => ({ σ with μ := σ.μ.acc t.who 6 (16, (t.obj : Int), ((aR t.w % (az σ t.obj).length : Nat) : Int)), obs := o } : a7)) eo
theorem Pf (S : SOk σ) (T : fY σ t) (nx : Value) (g : PIds) (b : Nat) (hl : g.rp.length = σ.obs.length) (ho : t.obj < σ.obs.length) (hb : g.rp[t.obj]? = some b) :
 Sp t6 [vp e] (eB e p nx (vp b) t * aH p g σ) (fun _ : Unit => .tuple #[]) (fun _ => eB e p nx (vp b) t * aH p g (sc σ t)) := by
 have hN : σ.μ.N < 1099511627000 := by have := S.N; omega
 refine av fun R H h => ?_
 refine aw (fun r => SH _ H) ?_
 refine aI ac ?_
 refine aE h rfl ?_
 refine aI ac ?_
 refine aE h rfl ?_
 refine am h ac rfl ?_
 refine af h (ft t.w T.w) fun _ H1 h1 => ?_
 refine aA h1 h (by rfl) ?_
 refine aA h1 h (by rfl) ?_
 refine aI (fK (bW (bW bZ))) ?_
 refine aE h1 rfl ?_
 refine aA h h1 (by rfl) ?_
 refine aI (fK (bW (bW bZ))) ?_
 refine aE h1 rfl ?_
 refine aA h h1 (by rfl) ?_
 refine aI (fK (bW (bW bZ))) ?_
 refine aE h1 rfl ?_
 refine aA h h1 (by rfl) ?_
 refine dO ?_
 refine af h1 (Wm (p := p) hl ho hb (ab1 g.m t.obj b (az σ t.obj) σ.μ t.who (aR t.w) ⟨t.x.flow, t.x.a, t.x.b⟩ (S.cells _ ho) hN)) fun _ H2 h2 => ?_
 refine ap ⟨(), rfl, ?_⟩
 rw [y9]
 exact h2.to
theorem jB (σ : a7) (t : Tk) : (sc σ t).obs.length = σ.obs.length := by unfold sc; simp
theorem ac1 (S : SOk σ) (T : fY σ t) (hat : t.at' = 10) : Sp mV [vp e, vi now] (eP e p rp σ t) (fun _ : Unit => dj (ak σ t now)) (fun _ => eQ e p rp (ak σ t now)) := by
 have hN : σ.μ.N < 1099511627000 := by have := S.N; omega
 refine av fun R H h => ?_
 obtain ⟨nx, rv, g, hv, rfl, hl, _, h0⟩ := cV h
 obtain ⟨b, hb, rfl⟩ := hv (by omega)
 have ho := T.obj (.inl (by omega))
 refine aw (fun r => SJ _ _ H) ?_
 refine aO h0 fun b1 H1 h1 => ?_
 refine af h1 (Pf e p σ t S T nx g b hl ho hb) fun _ H2 h2 => ?_
 refine fq (e := e) (p := p) nx (vp b) { t with at' := 11 } kf h2 fun H9 h9 => ?_
 exact cZ (σ' := sc σ t) (t' := { t with at' := 11 }) (v := (vp b)) (n := kf) (by simp only [ak, hat]) (ce hb) rfl (by rw [jB]; exact hl) h9.to
theorem VP (S : SOk σ) (T : fY σ t) (hat : t.at' = 14) : Sp j6 [vp e, vi now] (eP e p rp σ t) (fun _ : Unit => dj (ak σ t now)) (fun _ => eQ e p rp (ak σ t now)) := by
 have hN : σ.μ.N < 1099511627000 := by have := S.N; omega
 refine av fun R H h => ?_
 obtain ⟨nx, rv, g, hv, rfl, hl, _, h0⟩ := cV h
 obtain ⟨b, hb, rfl⟩ := hv (by omega)
 have ho := T.obj (.inl (by omega))
 refine aw (fun r => Li _ _ H) ?_
 refine aO h0 fun b1 H1 h1 => ?_
 refine af h1 (Pf e p σ t S T nx g b hl ho hb) fun _ H2 h2 => ?_
 refine fq (e := e) (p := p) nx (vp b) { t with at' := 21 } iZ h2 fun H9 h9 => ?_
 exact cZ (σ' := sc σ t) (t' := { t with at' := 21 }) (v := (vp b)) (n := iZ) (by simp only [ak, hat]) (ce hb) rfl (by rw [jB]; exact hl) h9.to
theorem VW (S : SOk σ) (T : fY σ t) (hat : t.at' = 11) : Sp kf [vp e, vi now] (eP e p rp σ t) (fun _ : Unit => dj (ak σ t now)) (fun _ => eQ e p rp (ak σ t now)) := by
 have hN : σ.μ.N < 1099511627000 := by have := S.N; omega
 refine av fun R H h => ?_
 obtain ⟨nx, rv, g, hv, rfl, hl, _, h0⟩ := cV h
 obtain ⟨b, hb, rfl⟩ := hv (by omega)
 have ho := T.obj (.inl (by omega))
 refine aw (fun r => Lr _ _ H) ?_
 refine aO h0 fun b1 H1 h1 => ?_
 refine aI ac ?_
 refine aE h1 rfl ?_
 refine aI ac ?_
 refine aE h1 rfl ?_
 refine am h1 ac rfl ?_
 refine af h1 (ft t.w T.w) fun _ H2 h2 => ?_
 refine aA h2 h1 (by rfl) ?_
 refine aA h2 h1 (by rfl) ?_
 have hwc := dc t.w
 refine af h2 (g7 (p := p) hl ho hb (El g.m t.obj b (az σ t.obj) σ.μ t.who (aR t.w) (by omega) (S.cells _ ho) hN)) fun _ H3 h3 => ?_
 refine n9 h3 (ti (vp e) 0) fun H9 h9 => ?_
 exact zS (σ' := xu σ t) (t' := t) (by simp only [ak, hat]) (T.c0 (by omega)) (bo (p := p) (rp := g.rp) (R := R) g rfl hl h9.to)
theorem OD (S : SOk σ) (T : fY σ t) (hat : t.at' = 21) : Sp iZ [vp e, vi now] (eP e p rp σ t) (fun _ : Unit => dj (ak σ t now)) (fun _ => eQ e p rp (ak σ t now)) := by
 have hN : σ.μ.N < 1099511627000 := by have := S.N; omega
 refine av fun R H h => ?_
 obtain ⟨nx, rv, g, hv, rfl, hl, _, h0⟩ := cV h
 obtain ⟨b, hb, rfl⟩ := hv (by omega)
 have ho := T.obj (.inl (by omega))
 refine aw (fun r => Im _ _ H) ?_
 refine aO h0 fun b1 H1 h1 => ?_
 refine aI ac ?_
 refine aE h1 rfl ?_
 refine aI ac ?_
 refine aE h1 rfl ?_
 refine am h1 ac rfl ?_
 refine af h1 (ft t.w T.w) fun _ H2 h2 => ?_
 refine aA h2 h1 (by rfl) ?_
 refine aA h2 h1 (by rfl) ?_
 have hwc := dc t.w
 refine af h2 (g7 (p := p) hl ho hb (El g.m t.obj b (az σ t.obj) σ.μ t.who (aR t.w) (by omega) (S.cells _ ho) hN)) fun _ H3 h3 => ?_
 refine fq (e := e) (p := p) nx (vp b) { t with at' := 22 } cW h3 fun H9 h9 => ?_
 exact cZ (σ' := xu σ t) (t' := { t with at' := 22 }) (v := (vp b)) (n := cW) (by simp only [ak, hat]) (ce hb) rfl hl h9.to
theorem OA (S : SOk σ) (T : fY σ t) (hat : t.at' = 12) : Sp iW [vp e, vi now] (eP e p rp σ t) (fun _ : Unit => dj (ak σ t now)) (fun _ => eQ e p rp (ak σ t now)) := by
 have hN : σ.μ.N < 1099511627000 := by have := S.N; omega
 refine av fun R H h => ?_
 obtain ⟨nx, rv, g, hv, rfl, hl, _, h0⟩ := cV h
 obtain ⟨b, hb, rfl⟩ := hv (by omega)
 have ho := T.obj (.inl (by omega))
 refine aw (fun r => Ij _ _ H) ?_
 refine aO h0 fun b1 H1 h1 => ?_
 refine am h1 ac rfl ?_
 refine am h1 ac rfl ?_
 refine am h1 ac rfl ?_
 refine af h1 (Df (p := p) (g := g) (σ := σ) (Jk g.ib g.m g.nm σ.c σ.nx σ.μ t.who hN)) fun _ H2 h2 => ?_
 refine fq (e := e) (p := p) nx (vp b) { t with at' := 13 } kg h2 fun H9 h9 => ?_
 exact cZ (σ' := σ.mem (σ.μ.cnt t.who (3, 0, 0) 4294967296)) (t' := { t with at' := 13 }) (v := (vp b)) (n := kg) (by simp only [ak, hat]) (ce hb) rfl hl h9.to
theorem VN (S : SOk σ) (T : fY σ t) (hat : t.at' = 20) : Sp j5 [vp e, vi now] (eP e p rp σ t) (fun _ : Unit => dj (ak σ t now)) (fun _ => eQ e p rp (ak σ t now)) := by
 have hN : σ.μ.N < 1099511627000 := by have := S.N; omega
 refine av fun R H h => ?_
 obtain ⟨nx, rv, g, hv, rfl, hl, _, h0⟩ := cV h
 obtain ⟨b, hb, rfl⟩ := hv (by omega)
 have ho := T.obj (.inl (by omega))
 refine aw (fun r => Lh _ _ H) ?_
 refine aO h0 fun b1 H1 h1 => ?_
 refine am h1 ac rfl ?_
 refine am h1 ac rfl ?_
 refine am h1 ac rfl ?_
 refine af h1 (Df (p := p) (g := g) (σ := σ) (DO g.ib g.m g.nm σ.c σ.nx σ.μ t.who hN)) fun _ H2 h2 => ?_
 refine fq (e := e) (p := p) nx (vp b) { t with at' := 7 } bN h2 fun H9 h9 => ?_
 exact cZ (σ' := σ.mem (σ.μ.cnt t.who (3, 0, 0) 1)) (t' := { t with at' := 7 }) (v := (vp b)) (n := bN) (by simp only [ak, hat]) (ce hb) rfl hl h9.to
theorem ac0 (S : SOk σ) (T : fY σ t) (hat : t.at' = 25) : Sp mU [vp e, vi now] (eP e p rp σ t) (fun _ : Unit => dj (ak σ t now)) (fun _ => eQ e p rp (ak σ t now)) := by
 have hN : σ.μ.N < 1099511627000 := by have := S.N; omega
 refine av fun R H h => ?_
 obtain ⟨nx, rv, g, hv, rfl, hl, _, h0⟩ := cV h
 obtain ⟨b, hb, rfl⟩ := hv (by omega)
 have ho := T.obj (.inl (by omega))
 refine aw (fun r => SF _ _ H) ?_
 refine aO h0 fun b1 H1 h1 => ?_
 refine am h1 ac rfl ?_
 refine am h1 ac rfl ?_
 refine am h1 ac rfl ?_
 refine af h1 (Df (p := p) (g := g) (σ := σ) (DO g.ib g.m g.nm σ.c σ.nx σ.μ t.who hN)) fun _ H2 h2 => ?_
 refine n9 h2 (ti (vp e) 0) fun H9 h9 => ?_
 exact zS (σ' := σ.mem (σ.μ.cnt t.who (3, 0, 0) 1)) (t' := t) (by simp only [ak, hat]) (T.c0 (by omega)) (bo (p := p) (rp := g.rp) (R := R) g rfl hl h9.to)
theorem HC (S : SOk σ) (T : fY σ t) (hat : t.at' = 22) : Sp cW [vp e, vi now] (eP e p rp σ t) (fun _ : Unit => dj (ak σ t now)) (fun _ => eQ e p rp (ak σ t now)) := by
 have hN : σ.μ.N < 1099511627000 := by have := S.N; omega
 refine av fun R H h => ?_
 obtain ⟨nx, rv, g, hv, rfl, hl, _, h0⟩ := cV h
 obtain ⟨b, hb, rfl⟩ := hv (by omega)
 have ho := T.obj (.inl (by omega))
 refine aw (fun r => CS _ _ H) ?_
 refine aO h0 fun b1 H1 h1 => ?_
 refine am h1 ac rfl ?_
 refine am h1 ac rfl ?_
 refine am h1 ac rfl ?_
 refine am h1 ac rfl ?_
 refine af h1 (Df (p := p) (g := g) (σ := σ) (Um g.ib g.m g.nm σ.c σ.nx σ.μ t.who t.s hN)) fun _ H2 h2 => ?_
 refine aK h2 ac rfl rfl fun H3 h3 => ?_
 refine fq (e := e) (p := p) nx (vp b) { t with top := σ.μ.V (9, t.s, 0), at' := 23 } j9 h3 fun H9 h9 => ?_
 exact cZ (σ' := σ.mem (σ.μ.acc t.who 1 (9, t.s, 0))) (t' := { t with top := σ.μ.V (9, t.s, 0), at' := 23 }) (v := (vp b)) (n := j9) (by simp only [ak, hat]) (ce hb) rfl hl h9.to
theorem VS (S : SOk σ) (T : fY σ t) (hat : t.at' = 23) : Sp j9 [vp e, vi now] (eP e p rp σ t) (fun _ : Unit => dj (ak σ t now)) (fun _ => eQ e p rp (ak σ t now)) := by
 have hN : σ.μ.N < 1099511627000 := by have := S.N; omega
 refine av fun R H h => ?_
 obtain ⟨nx, rv, g, hv, rfl, hl, _, h0⟩ := cV h
 obtain ⟨b, hb, rfl⟩ := hv (by omega)
 have ho := T.obj (.inl (by omega))
 refine aw (fun r => Ll _ _ H) ?_
 refine aO h0 fun b1 H1 h1 => ?_
 refine am h1 ac rfl ?_
 refine am h1 ac rfl ?_
 refine am h1 ac rfl ?_
 refine am h1 ac rfl ?_
 refine am h1 ac rfl ?_
 refine af h1 (Df (p := p) (g := g) (σ := σ) (MT g.ib g.m g.nm σ.c σ.nx σ.μ t.who t.obj t.top hN)) fun _ H2 h2 => ?_
 refine fq (e := e) (p := p) nx (vp b) { t with at' := 24 } kc h2 fun H9 h9 => ?_
 exact cZ (σ' := { σ with μ := σ.μ.acc t.who 6 (14, (t.obj : Int), 0), nx := fun k => if k = (t.obj : Int) then some t.top else σ.nx k }) (t' := { t with at' := 24 }) (v := (vp b)) (n := kc) (by simp only [ak, hat]) (ce hb) rfl hl h9.to
theorem VV (S : SOk σ) (T : fY σ t) (hat : t.at' = 24) : Sp kc [vp e, vi now] (eP e p rp σ t) (fun _ : Unit => dj (ak σ t now)) (fun _ => eQ e p rp (ak σ t now)) := by
 have hN : σ.μ.N < 1099511627000 := by have := S.N; omega
 refine av fun R H h => ?_
 obtain ⟨nx, rv, g, hv, rfl, hl, _, h0⟩ := cV h
 obtain ⟨b, hb, rfl⟩ := hv (by omega)
 have ho := T.obj (.inl (by omega))
 refine aw (fun r => Lp _ _ H) ?_
 refine aO h0 fun b1 H1 h1 => ?_
 refine am h1 ac rfl ?_
 refine am h1 ac rfl ?_
 refine am h1 ac rfl ?_
 refine am h1 ac rfl ?_
 refine am h1 ac rfl ?_
 refine am h1 ac rfl ?_
 refine af h1 (Df (p := p) (g := g) (σ := σ) (MV g.ib g.m g.nm σ.c σ.nx σ.μ t.who t.s t.top t.obj (by have := S.obs; omega) hN)) fun _ H2 h2 => ?_
 by_cases hw : σ.μ.V (9, t.s, 0) = t.top
 ·rw [decide_eq_true hw]
  with_reducible repeat refine gg ?_
  rw [Bool.not_true]
  with_reducible repeat refine gg ?_
  refine fq (e := e) (p := p) nx (vp b) { t with at' := 25 } mU h2 fun H9 h9 => ?_
  exact cZ (σ' := σ.mem (σ.μ.swp t.who (9, t.s, 0) t.top (t.obj + 1))) (t' := { t with at' := 25 }) (v := (vp b)) (n := mU) (by simp only [ak, hat]; rw [if_pos hw]) (ce hb) rfl hl h9.to
 ·rw [decide_eq_false hw]
  with_reducible repeat refine gg ?_
  rw [Bool.not_false]
  with_reducible repeat refine gg ?_
  refine fq (e := e) (p := p) nx (vp b) { t with at' := 22 } cW h2 fun H9 h9 => ?_
  exact cZ (σ' := σ.mem (σ.μ.swp t.who (9, t.s, 0) t.top (t.obj + 1))) (t' := { t with at' := 22 }) (v := (vp b)) (n := cW) (by simp only [ak, hat]; rw [if_neg hw]) (ce hb) rfl hl h9.to
theorem ac2 (S : SOk σ) (T : fY σ t) (hat : t.at' = 15) : Sp mW [vp e, vi now] (eP e p rp σ t) (fun _ : Unit => dj (ak σ t now)) (fun _ => eQ e p rp (ak σ t now)) := by
 have hN : σ.μ.N < 1099511627000 := by have := S.N; omega
 refine av fun R H h => ?_
 obtain ⟨nx, rv, g, hv, rfl, hl, _, h0⟩ := cV h
 obtain ⟨b, hb, rfl⟩ := hv (by omega)
 have ho := T.obj (.inl (by omega))
 refine aw (fun r => SL _ _ H) ?_
 refine aO h0 fun b1 H1 h1 => ?_
 refine am h1 ac rfl ?_
 refine am h1 ac rfl ?_
 refine af h1 (BH p g σ t.who S.N) fun _ H2 h2 => ?_
 refine aK h2 ac rfl rfl fun H3 h3 => ?_
 refine am h3 ac rfl ?_
 refine aa (Ry 2 (by omega)) ?_
 by_cases hw : σ.μ.V (2, 0, 0) % 2 = 1
 ·refine aa (bp (show ((σ.μ.V (2, 0, 0) % 2 : Nat) : Int) = 1 by omega)) ?_
  with_reducible repeat refine gg ?_
  refine fq (e := e) (p := p) nx (vp b) { t with q := σ.μ.V (2, 0, 0), at' := 7 } bN h3 fun H9 h9 => ?_
  exact cZ (σ' := oK σ t) (t' := { t with q := σ.μ.V (2, 0, 0), at' := 7 }) (v := (vp b)) (n := bN) (by simp only [ak, hat]; rw [if_pos hw]) (ce hb) rfl hl h9.to
 ·refine aa (aS (show ¬ ((σ.μ.V (2, 0, 0) % 2 : Nat) : Int) = 1 by omega)) ?_
  with_reducible repeat refine gg ?_
  refine fq (e := e) (p := p) nx (vp b) { t with q := σ.μ.V (2, 0, 0), at' := 16 } dU h3 fun H9 h9 => ?_
  exact cZ (σ' := oK σ t) (t' := { t with q := σ.μ.V (2, 0, 0), at' := 16 }) (v := (vp b)) (n := dU) (by simp only [ak, hat]; rw [if_neg hw]) (ce hb) rfl hl h9.to
theorem Ci (S : SOk σ) (T : fY σ t) (hat : t.at' = 17) : Sp dT [vp e, vi now] (eP e p rp σ t) (fun _ : Unit => dj (ak σ t now)) (fun _ => eQ e p rp (ak σ t now)) := by
 have hN : σ.μ.N < 1099511627000 := by have := S.N; omega
 refine av fun R H h => ?_
 obtain ⟨nx, rv, g, hv, rfl, hl, _, h0⟩ := cV h
 obtain ⟨b, hb, rfl⟩ := hv (by omega)
 have ho := T.obj (.inl (by omega))
 refine aw (fun r => xI _ _ H) ?_
 refine aO h0 fun b1 H1 h1 => ?_
 refine aI ac ?_
 refine aE h1 rfl ?_
 refine aI ac ?_
 refine aE h1 rfl ?_
 refine am h1 ac rfl ?_
 refine am h1 ac rfl ?_
 refine af h1 (g7 (p := p) hl ho hb (Ek g.m t.obj b (az σ t.obj) σ.μ t.who hN)) fun _ H2 h2 => ?_
 refine aA h2 h1 (by rfl) ?_
 refine aA h2 h1 (by rfl) ?_
 refine af h2 (OT (p := p) (σ := ia σ t) hl ho hb (Ej g.m t.obj b (az σ t.obj) t.w (σ.μ.V (12, (t.obj : Int), 0)) T.w (S.cells _ ho).2)) fun _ H3 h3 => ?_
 cases hf : lr t.w (σ.μ.V (12, (t.obj : Int), 0)) (az σ t.obj).length
 ·with_reducible repeat refine gg ?_
  rw [Bool.not_false]
  with_reducible repeat refine gg ?_
  refine fq (e := e) (p := p) nx (vp b) { t with at' := 7 } bN h3 fun H9 h9 => ?_
  exact cZ (σ' := ia σ t) (t' := { t with at' := 7 }) (v := (vp b)) (n := bN) (by simp only [ak, hat, lq, hf]; rfl) (ce hb) rfl hl h9.to
 ·with_reducible repeat refine gg ?_
  rw [Bool.not_true]
  with_reducible repeat refine gg ?_
  refine aK h3 ac rfl rfl fun H4 h4 => ?_
  refine fq (e := e) (p := p) nx (vp b) { t with at' := 18, mark := now } eG h4 fun H9 h9 => ?_
  exact cZ (σ' := ia σ t) (t' := { t with at' := 18, mark := now }) (v := (vp b)) (n := eG) (by simp only [ak, hat, lq, hf]; rfl) (ce hb) rfl hl h9.to
theorem C8 (S : SOk σ) (T : fY σ t) (hat : t.at' = 18) : Sp eG [vp e, vi now] (eP e p rp σ t) (fun _ : Unit => dj (ak σ t now)) (fun _ => eQ e p rp (ak σ t now)) := by
 have hN : σ.μ.N < 1099511627000 := by have := S.N; omega
 refine av fun R H h => ?_
 obtain ⟨nx, rv, g, hv, rfl, hl, _, h0⟩ := cV h
 obtain ⟨b, hb, rfl⟩ := hv (by omega)
 have ho := T.obj (.inl (by omega))
 refine aw (fun r => zR _ _ H) ?_
 refine aO h0 fun b1 H1 h1 => ?_
 refine am h1 ac rfl ?_
 refine am h1 ac rfl ?_
 refine af h1 (BH p g σ t.who S.N) fun _ H2 h2 => ?_
 refine aI ac ?_
 refine aE h2 rfl ?_
 refine aA h1 h2 (by rfl) ?_
 by_cases hw : σ.μ.V (2, 0, 0) = t.q
 ·refine aa (xh (show ((σ.μ.V (2, 0, 0) : Nat) : Int) = (t.q : Int) by omega)) ?_
  with_reducible repeat refine gg ?_
  refine am h2 ac rfl ?_
  have k2 := bo (p := p) (rp := g.rp) (σ := oK σ t) (R := eB e p nx (vp b) t * (blk b1 (.cells false [vi 0, .slice none 0 0, vi 0, vw 0]) * R)) g rfl hl h2.to
  refine n9 k2 (wK e p g.rp (oK σ t) nx (vp b) t t.mark 9 (by have := S.pts; show σ.pts.length < _; omega)) fun H9 h9 => ?_
  exact zS (σ' := (oK σ t).note t.mark t.who 9) (t' := { t with code := 9 }) (by simp only [ak, hat]; rw [if_pos hw]) rfl h9.to
 ·refine aa (ahI (show ¬ ((σ.μ.V (2, 0, 0) : Nat) : Int) = (t.q : Int) by omega)) ?_
  with_reducible repeat refine gg ?_
  refine fq (e := e) (p := p) nx (vp b) { t with at' := 7 } bN h2 fun H9 h9 => ?_
  exact cZ (σ' := oK σ t) (t' := { t with at' := 7 }) (v := (vp b)) (n := bN) (by simp only [ak, hat]; rw [if_neg hw]) (ce hb) rfl hl h9.to
def e6 (σ : a7) (t : Tk) : a7 × Tk × Bool :=
 (cD σ t, { aM σ t with at' := if (aM σ t).found = true then 6 else if dI σ (aM σ t) = true then 3 else 2 }, false)
theorem EG (S : SOk σ) (T : fY σ t) (hat : t.at' = 0 ∨ t.at' = 2) : Sp iY [vp e, vi now] (eP e p rp σ t) (fun _ : Unit => dj (e6 σ t)) (fun _ => eQ e p rp (e6 σ t)) := by
 have hN : σ.μ.N < 1099511627000 := by have := S.N; omega
 refine av fun R H h => ?_
 obtain ⟨nx, rv, g, hv, rfl, hl, _, h0⟩ := cV h
 have hi := T.i (by omega) (by omega)
 refine aw (fun r => Lq _ _ H) ?_
 refine aO h0 fun b1 H1 h1 => ?_
 refine af h1 (Pe e p g σ nx rv t S hi) fun _ H2 h2 => ?_
 refine ag (CP _ _ _ _ H2) ?_
 refine am h2 ac rfl ?_
 cases hf : (aM σ t).found
 ·with_reducible repeat refine gg ?_
  cases hla : dI σ (aM σ t)
  ·with_reducible repeat refine gg ?_
   refine ag (CR _ _ _ H2) ?_
   refine fq (e := e) (p := p) nx rv { aM σ t with at' := 2 } iY h2 fun H9 h9 => ?_
   exact cZ (σ' := cD σ t) (t' := { aM σ t with at' := 2 }) (v := rv) (n := iY) (by simp only [e6, hf, hla]; rfl) (gr (by simp)) rfl hl h9.to
  ·with_reducible repeat refine gg ?_
   refine fq (e := e) (p := p) nx rv { aM σ t with at' := 3 } cA h2 fun H9 h9 => ?_
   exact cZ (σ' := cD σ t) (t' := { aM σ t with at' := 3 }) (v := rv) (n := cA) (by simp only [e6, hf, hla]; rfl) (gr (by simp)) rfl hl h9.to
 ·with_reducible repeat refine gg ?_
  refine fq (e := e) (p := p) nx rv { aM σ t with at' := 6 } fB h2 fun H9 h9 => ?_
  exact cZ (σ' := cD σ t) (t' := { aM σ t with at' := 6 }) (v := rv) (n := fB) (by simp only [e6, hf]; rfl) (gr (by simp)) rfl hl h9.to
theorem Kq (S : SOk σ) (T : fY σ t) (hat : t.at' = 4) : Sp dy [vp e, vi now] (eP e p rp σ t) (fun _ : Unit => dj (ak σ t now)) (fun _ => eQ e p rp (ak σ t now)) := by
 have hN : σ.μ.N < 1099511627000 := by have := S.N; omega
 refine av fun R H h => ?_
 obtain ⟨nx, rv, g, hv, rfl, hl, _, h0⟩ := cV h
 have hi := T.i (by omega) (by omega)
 refine aw (fun r => E5 _ _ H) ?_
 refine aO h0 fun b1 H1 h1 => ?_
 refine af h1 (Pe e p g σ nx rv t S hi) fun _ H2 h2 => ?_
 refine ag (xJ _ _ _ _ _ H2) ?_
 refine am h2 ac rfl ?_
 cases hf : (aM σ t).found
 ·with_reducible repeat refine gg ?_
  cases hla : dI σ (aM σ t)
  ·with_reducible repeat refine gg ?_
   refine ag (xK _ _ _ H2) ?_
   refine fq (e := e) (p := p) nx rv (aM σ t) dy h2 fun H9 h9 => ?_
   exact cZ (σ' := cD σ t) (t' := (aM σ t)) (v := rv) (n := dy) (by simp only [ak, hat, hf, hla]; rfl) (gr (show t.at' < 7 by omega)) (by show yf t.at' = _; rw [hat]; rfl) hl h9.to
  ·with_reducible repeat refine gg ?_
   have k2 := bo (p := p) (rp := g.rp) (σ := cD σ t) (R := eB e p nx rv (aM σ t) * (blk b1 (.cells false [vi 0, .slice none 0 0, vi 0, vw 0]) * R)) g rfl hl h2.to
   refine af k2 (tj e p g.rp (cD σ t) nx rv (aM σ t) now 5 (by have := S.pts; show σ.pts.length < _; omega)) fun _ H3 h3 => ?_
   refine fq (e := e) (p := p) nx rv { aM σ t with at' := 5, code := 5 } dz h3 fun H9 h9 => ?_
   exact E7 (σ' := (cD σ t).note now (aM σ t).who 5) (t' := { aM σ t with at' := 5, code := 5 }) (v := rv) (n := dz) (by simp only [ak, hat, hf, hla]; rfl) (gr (by simp)) rfl h9.to
 ·with_reducible repeat refine gg ?_
  refine fq (e := e) (p := p) nx rv { aM σ t with at' := 5 } dz h2 fun H9 h9 => ?_
  exact cZ (σ' := cD σ t) (t' := { aM σ t with at' := 5 }) (v := rv) (n := dz) (by simp only [ak, hat, hf]; rfl) (gr (by simp)) rfl hl h9.to
theorem OC (S : SOk σ) (T : fY σ t) (hat : t.at' = 0) : Sp kH [vp e, vi now] (eP e p rp σ t) (fun _ : Unit => dj (ak σ t now)) (fun _ => eQ e p rp (ak σ t now)) := by
 have hN : σ.μ.N < 1099511627000 := by have := S.N; omega
 refine av fun R H h => ?_
 refine aw (fun r => Il _ _ H) ?_
 refine aO h fun b H1 h1 => ?_
 refine ag (zL _ _ _ _ H1) ?_
 obtain ⟨nx, rv, g, hv, rfl, hl, _, k1⟩ := cV (e := e) (p := p) (rp := rp) (σ := σ) (t := t) (R := blk b (.cells false [vi 0, .slice none 0 0, vi 0, vw 0]) * R) (H := H1) h1.to
 have fin : ∀ code, dN t.x = some code → wp ((FF gW [vp e, vi now, vi code] H1).bind fun r25 =>
  (aj r25.1 0).bind fun v26 =>
  (aj r25.1 1).bind fun v27 =>
  (dn 4 (vp b) v26 r25.2).bind fun H28 =>
  (aD 4 (vp b) H28).bind fun v29 => some (Value.tuple #[v29, v27], H28)) fun v' H' => ∃ x_1 : Unit, v' = dj (ak σ t now) ∧ ae (eQ e p g.rp (ak σ t now) * R) H' := by
  intro code hx
  have k2 := bo (p := p) (rp := g.rp) (σ := σ) (R := eB e p nx rv t * (blk b (.cells false [vi 0, .slice none 0 0, vi 0, vw 0]) * R)) g rfl hl k1.to
  refine n9 k2 (wK e p g.rp σ nx rv t now code (by have := S.pts; omega)) fun H9 h9 => ?_
  exact zS (σ' := σ.note now t.who code) (t' := { t with code := code }) (by simp only [ak, hat, hx]) rfl h9.to
 have scan : dN t.x = none → wp (oS (vp e) (vi now) (vp b) (vb false) H1) fun v' H' => ∃ x_1 : Unit, v' = dj (ak σ t now) ∧ ae (eQ e p g.rp (ak σ t now) * R) H' := by
  intro hx
  have hs : ak σ t now = e6 σ t := by simp only [ak, hat, hx, e6]
  rw [hs]
  refine ag (zM _ _ _ _ H1) ?_
  exact n9 h1 (EG e p g.rp σ t now S T (.inl hat)) fun H9 h9 => ⟨(), rfl, h9.to⟩
 refine am k1 (fK (bW (bW bZ))) rfl ?_
 by_cases ha : t.x.a < 1
 ·refine aa (bI ha) ?_
  with_reducible repeat refine gg ?_
  exact fin 3 (by rw [dN, if_pos (.inl ha)])
 ·refine aa (bu ha) ?_
  with_reducible repeat refine gg ?_
  refine am k1 (fK (bW (bW bZ))) rfl ?_
  with_reducible repeat refine gg ?_
  by_cases ha2 : 65536 < t.x.a
  ·refine aa (mJ ha2) ?_
   with_reducible repeat refine gg ?_
   exact fin 3 (by rw [dN, if_pos (.inr ha2)])
  ·refine aa (gT ha2) ?_
   with_reducible repeat refine gg ?_
   refine am k1 (fK (bW (bW bZ))) rfl ?_
   by_cases hf : t.x.flow < 0
   ·refine aa (bI hf) ?_
    with_reducible repeat refine gg ?_
    exact fin 5 (by rw [dN, if_neg (by omega), if_pos (.inl hf)])
   ·refine aa (bu hf) ?_
    with_reducible repeat refine gg ?_
    refine am k1 (fK (bW (bW bZ))) rfl ?_
    with_reducible repeat refine gg ?_
    by_cases hf2 : 1048576 < t.x.flow
    ·refine aa (mJ hf2) ?_
     with_reducible repeat refine gg ?_
     exact fin 5 (by rw [dN, if_neg (by omega), if_pos (.inr hf2)])
    ·refine aa (gT hf2) ?_
     with_reducible repeat refine gg ?_
     exact scan (by rw [dN, if_neg (by omega), if_neg (by omega)])
theorem WX (S : SOk σ) (T : fY σ t) : Sp vL [vp e, vi now] (eP e p rp σ t) (fun _ : Unit => dj (ak σ t now)) (fun _ => eQ e p rp (ak σ t now)) := by
 refine av fun R H h => ?_
 refine aw (fun r => Lg _ _ H) ?_
 refine aO h fun b H1 h1 => ?_
 obtain ⟨rv, hv, k1⟩ := Pc (e := e) (p := p) (rp := rp) (σ := σ) (t := t) (R := blk b (.cells false [vi 0, .slice none 0 0, vi 0, vw 0]) * R) (H := H1) h1.to
 refine am k1 ac rfl ?_
 refine ag (show (bM (.func (.func (yf t.at')) #[vp e] #[]) [vi now]).bind _ = _ from rfl) ?_
 have hs : Sp (yf t.at') [vp e, vi now] (eP e p rp σ t) (fun _ : Unit => dj (ak σ t now)) (fun _ => eQ e p rp (ak σ t now)) := by
  rcases T.ats with hat | hat | hat | hat | hat | hat | hat | hat | hat | hat | hat | hat | hat | hat | hat | hat | hat | hat | hat | hat | hat | hat | hat | hat <;> rw [show yf t.at' = _ from by rw [hat]]
  ·exact OC e p rp σ t now S T hat
  ·have h := EG e p rp σ t now S T (.inr hat)
   have hs : ak σ t now = e6 σ t := by simp only [ak, hat, e6]
   rw [hs]; exact h
  ·exact VT e p rp σ t now S T hat
  ·exact Kq e p rp σ t now S T hat
  ·exact Kr e p rp σ t now S T hat
  ·exact VU e p rp σ t now S T hat
  ·exact VY e p rp σ t now S T hat
  ·exact VQ e p rp σ t now S T hat
  ·exact OB e p rp σ t now S T hat
  ·exact ac1 e p rp σ t now S T hat
  ·exact VW e p rp σ t now S T hat
  ·exact OA e p rp σ t now S T hat
  ·exact VX e p rp σ t now S T hat
  ·exact VP e p rp σ t now S T hat
  ·exact ac2 e p rp σ t now S T hat
  ·exact Cj e p rp σ t now S T hat
  ·exact Ci e p rp σ t now S T hat
  ·exact C8 e p rp σ t now S T hat
  ·exact VN e p rp σ t now S T hat
  ·exact OD e p rp σ t now S T hat
  ·exact HC e p rp σ t now S T hat
  ·exact VS e p rp σ t now S T hat
  ·exact VV e p rp σ t now S T hat
  ·exact ac0 e p rp σ t now S T hat
 exact n9 h1 hs fun H9 h9 => ⟨(), rfl, h9.to⟩
end
structure Xk where
 a : Nat
 I : Nat
 free : Int
 hit : Bool
 obj : Nat
 w : Nat
 h : Nat
 q : Nat
 top : Nat
 mark : Int
 code : Int
abbrev xB (x P : Nat) (t : Tk) (k : Xk) : SP :=
 blk x (.cells false [vp P, vi t.who, vi t.x.op, vi t.x.flow, vi t.x.a, vi t.x.b, vi k.a, vi k.I, vi k.free, vb k.hit, vi k.obj, vu k.w, vu k.h, vu k.q, vw 0, vu k.top, vi k.mark, vi k.code, .slice none 0 0, vi 0, vw 0,
  vi 0, vi 0, .slice none 0 0, vw 0, vw 0, vi 0, vi 0, vi 0, vb false, vi 0, .slice none 0 0, vi 0, vw 0])
def fX (t : Tk) (k : Xk) : Prop := k.a = t.at' ∧ match t.at' with
 | 0 => k.I = t.i ∧ k.hit = false
 | 2 => k.I = t.i ∧ k.hit = false
 | 4 => k.I = t.i ∧ k.hit = false
 | 5 => k.hit = t.found ∧ (t.found = true → k.obj = t.obj) ∧ (t.found = false → k.code = t.code)
 | 6 => k.obj = t.obj
 | 7 => k.obj = t.obj
 | 8 => k.obj = t.obj ∧ k.w = t.w
 | 9 => k.obj = t.obj ∧ k.w = t.w
 | 10 => k.obj = t.obj ∧ k.w = t.w ∧ k.q = 0 ∧ k.code = t.code
 | 11 => k.obj = t.obj ∧ k.w = t.w ∧ k.code = t.code
 | 12 => k.obj = t.obj ∧ k.w = t.w
 | 13 => k.obj = t.obj ∧ k.w = t.w
 | 14 => k.obj = t.obj ∧ k.w = t.w ∧ k.q = 1 ∧ k.code = t.code
 | 15 => k.obj = t.obj
 | 16 => k.obj = t.obj ∧ k.q = t.q
 | 17 => k.obj = t.obj ∧ k.w = t.w ∧ k.q = t.q
 | 18 => k.obj = t.obj ∧ k.q = t.q ∧ k.mark = t.mark
 | 20 => k.obj = t.obj
 | 21 => k.obj = t.obj ∧ k.w = t.w ∧ k.code = t.code
 | 22 => k.obj = t.obj ∧ k.code = t.code
 | 23 => k.obj = t.obj ∧ k.top = t.top ∧ k.code = t.code
 | 24 => k.obj = t.obj ∧ k.top = t.top ∧ k.code = t.code
 | 25 => k.code = t.code
 | _ => True
def xP (x P : Nat) (σ : a7) (t : Tk) : SP := ex fun k : Xk => pu (fX t k) * (xB x P t k * bj P σ)
def xQ (x P : Nat) (r : a7 × Tk × Bool) : SP := ex fun k : Xk => pu (if r.2.2 = true then k.code = r.2.1.code else fX r.2.1 k) * (xB x P r.2.1 k * bj P r.1)
section
variable {x P : Nat} {g : XIds} {σ σ' : a7} {t t' : Tk} {R : SP} {H : AH} {r : a7 × Tk × Bool} {k : Xk}
theorem cf (h : ae (xP x P σ t * R) H) : ∃ (k : Xk) (g : XIds), fX t k ∧ fH g σ ∧ ae (xB x P t k * (ay P g σ * R)) H := by
 obtain ⟨k, h1⟩ := ae.ex.1 h
 rw [ar, ae.pu] at h1
 obtain ⟨g, h2, h3⟩ := ef (p := P) (σ := σ) (R := xB x P t k * R) (H := H) h1.2.to
 exact ⟨k, g, h1.1, h2, h3.to⟩
theorem cO (hr : r = (σ', t', false)) (hR : fX t' k) (hg : fH g σ') (h : ae (xB x P t' k * (ay P g σ' * R)) H) : ∃ y : Unit, (vb false : Value) = vb r.2.2 ∧ ae (xQ x P r * R) H := by
 subst hr
 refine ⟨(), rfl, ae.ex.2 ⟨k, ?_⟩⟩
 rw [ar, ae.pu]
 have h1 := cG (p := P) (σ := σ') (R := xB x P t' k * R) g hg h.to
 exact ⟨hR, h1.to⟩
theorem CB (hr : r = (σ', t', true)) (hc : k.code = t'.code) (hg : fH g σ') (h : ae (xB x P t' k * (ay P g σ' * R)) H) : ∃ y : Unit, (vb true : Value) = vb r.2.2 ∧ ae (xQ x P r * R) H := by
 subst hr
 refine ⟨(), rfl, ae.ex.2 ⟨k, ?_⟩⟩
 rw [ar, ae.pu]
 have h1 := cG (p := P) (σ := σ') (R := xB x P t' k * R) g hg h.to
 exact ⟨hc, h1.to⟩
theorem kS {c : f0} {μ' : Mu} {obs' : List (Ob × List Pk)} {nx' : Int → Option Nat} {pts' : List Pt} {pv : Value} (h : fH g σ) (hN : σ.μ.N ≤ μ'.N) (ho : obs'.length = σ.obs.length) : fH { g with pv := pv } ⟨c, μ', obs', nx', σ.places, pts'⟩ :=
 ⟨h.1.trans ho.symm, h.2.1, Nat.le_trans h.2.2 hN⟩
theorem aJ {c : f0} {μ' : Mu} {obs' : List (Ob × List Pk)} {nx' : Int → Option Nat} {pts' : List Pt} (h : fH g σ) (hN : σ.μ.N ≤ μ'.N) (ho : obs'.length = σ.obs.length) : fH g ⟨c, μ', obs', nx', σ.places, pts'⟩ :=
 ⟨h.1.trans ho.symm, h.2.1, Nat.le_trans h.2.2 hN⟩
end
section
variable (x P : Nat) (g : XIds) (σ : a7) (t : Tk) (k : Xk)
theorem jq (hl : g.rp.length = σ.obs.length) (b : Nat) (ho : k.obj < σ.obs.length) (hb : g.rp[k.obj]? = some b) : Sp bK [vp x] (xB x P t k * ay P g σ) (fun _ : Unit => vp b) (fun _ => xB x P t k * ay P g σ) := by
 refine av fun R H h => ?_
 refine aw (fun r => wj _ H) ?_
 refine am h ac rfl ?_
 refine am h ac rfl ?_
 refine am h ac rfl ?_
 have h2 := h
 unfold ay at h2
 refine iI (s := g.rv) (l := g.rp) (v := vp b) h2 (by omega) ?_ ?_
 ·rw [List.getElem?_eq_getElem (by omega)] at hb
  rw [Option.some.inj hb]
 exact ap ⟨(), rfl, h⟩
theorem uW (hw : k.w < 18446744073709551616) : Sp dY [vp x] (xB x P t k) (fun _ : Unit => vu (aR k.w)) (fun _ => xB x P t k) := by
 refine av fun R H h => ?_
 refine aw (fun r => uz _ H) ?_
 refine am h ac rfl ?_
 refine af h (mZ k.w hw) fun _ H1 h1 => ?_
 refine aa (v := vu (aR k.w)) rfl ?_
 refine aa (v := vi (br k.w)) rfl ?_
 refine aa (v := vb (cN k.w)) rfl ?_
 exact ap ⟨(), rfl, h1.to⟩
theorem Sd (S : SOk σ) (hl : g.rp.length = σ.obs.length) (b : Nat) (ho : k.obj < σ.obs.length) (hb : g.rp[k.obj]? = some b) :
 Sp gn [vp x] (xB x P t k * ay P g σ) (fun _ : Unit => vi (br (σ.μ.V (11, (k.obj : Int), 0)))) (fun _ => xB x P t { k with w := σ.μ.V (11, (k.obj : Int), 0) } * ay P g (σ.mem (σ.μ.acc t.who 1 (11, (k.obj : Int), 0)))) := by
 have hN : σ.μ.N < 1099511627000 := by have := S.N; omega
 refine av fun R H h => ?_
 refine aw (fun r => wl _ H) ?_
 refine af h (jq x P g σ t k hl b ho hb) fun _ H1 h1 => ?_
 refine aI ac ?_
 refine aE h1 rfl ?_
 refine aA h h1 (by rfl) ?_
 refine af h1 (g8 (p := P) (μ' := σ.μ.acc t.who 1 (11, (k.obj : Int), 0)) (by simp) hl ho hb (OR g.m k.obj b (az σ k.obj) σ.μ t.who hN)) fun _ H2 h2 => ?_
 refine aK h2 ac rfl rfl fun H3 h3 => ?_
 refine am h3 ac rfl ?_
 refine af h3 (mZ _ (S.V _)) fun _ H4 h4 => ?_
 refine aa (v := vu (aR (σ.μ.V (11, (k.obj : Int), 0)))) rfl ?_
 refine aa (v := vi (br (σ.μ.V (11, (k.obj : Int), 0)))) rfl ?_
 refine aa (v := vb (cN (σ.μ.V (11, (k.obj : Int), 0)))) rfl ?_
 exact ap ⟨(), rfl, h4.to⟩
theorem zo (hg : fH g σ) (now e : Int) (hN : σ.μ.N < 1000000000) (hp : σ.pts.length < 900000) :
 Sp cr [vp x, vi now, vi e] (xB x P t k * ay P g σ) (fun _ : Value => .tuple #[]) (fun v => xB x P t { k with code := e } * ay P { g with pv := v } (σ.note now t.who e)) := by
 refine av fun R H h => ?_
 refine aw (fun r => wi _ _ _ H) ?_
 refine dO ?_
 refine aK h ac rfl rfl fun H1 h1 => ?_
 refine am h1 ac rfl ?_
 refine am h1 ac rfl ?_
 refine aW h1 ac ?_
 refine af h1 (ak8 P g σ now t.who e (hg.2.1 _) (by have := hg.2.2; omega) hp) fun v H2 h2 => ?_
 exact ap ⟨v, rfl, h2.to⟩
def wF (t1 : Tk) (k k' : Xk) : Prop := k'.a = k.a ∧ k'.w = k.w ∧ k'.q = k.q ∧ k'.top = k.top ∧ k'.mark = k.mark ∧ k'.code = k.code ∧ (t1.found = true → k'.hit = true ∧ k'.obj = t1.obj) ∧ (t1.found = false → k'.hit = k.hit ∧ k'.I = k.I + 1)
theorem Sc (S : SOk σ) (T : fY σ t) (hI : k.I = t.i) (hi : (t.i : Int) < σ.c.sl) :
 Sp Q3 [vp x] (xB x P t k * ay P g σ) (fun _ : Xk => .tuple #[vb (aM σ t).found, vb (!(aM σ t).found && dI σ (aM σ t))]) (fun k' => pu (wF (aM σ t) k k') * (xB x P t k' * ay P g (cD σ t))) := by
 have hN : σ.μ.N < 1099511627000 := by have := S.N; omega
 have hc := b7.1 S.c
 refine av fun R H h => ?_
 refine aw (fun r => ajG _ H) ?_
 refine aI ac ?_
 refine aE h rfl ?_
 refine aI ac ?_
 refine aE h rfl ?_
 refine aI ac ?_
 refine aE h rfl ?_
 refine am h ac rfl ?_
 refine am h ac rfl ?_
 refine am h (fK (bW (bW bZ))) rfl ?_
 refine af h (OY (p := P) (g := g) (σ := σ) (uX g.tb g.m σ.c.sh.toNat σ.c.sl.toNat (by omega) t.x.flow)) fun _ H1 h1 => ?_
 refine aA h1 h (by rfl) ?_
 refine aA h1 h (by rfl) ?_
 refine aA h1 h (by rfl) ?_
 have es : vi ((t.x.flow.tmod (σ.c.sh.toNat : Int) + (σ.c.sh.toNat : Int)).tmod (σ.c.sh.toNat : Int)) = vi t.s := by rw [T.s, show ((σ.c.sh.toNat : Nat) : Int) = σ.c.sh from by omega]
 rw [es]
 refine aI ac ?_
 refine aE h1 rfl ?_
 refine aA h h1 (by rfl) ?_
 rw [hI]
 have ek : k = { k with I := t.i } := by rw [← hI]
 rw [ek] at h1
 refine af h1 (EU (p := P) (g := g) (σ := σ) (μ' := σ.μ.acc t.who 1 (10, t.s, (t.i : Int))) (by simp) (UY g.tb g.m σ.c.sh.toNat σ.c.sl.toNat σ.μ t.who t.s t.i hN (S.V _))) fun _ H2 h2 => ?_
 have tail : ∀ (k' : Xk) (H' : AH), wF { aM σ t with found := false } { k with I := t.i } { k' with I := t.i + 1 } → k'.I = t.i → (aM σ t).found = false → ae (xB x P t k' * (ay P g (cD σ t) * R)) H' →
  wp (Ha (vp x) (vb false) (vb false) H') fun v' H' => ∃ k' : Xk, v' = .tuple #[vb (aM σ t).found, vb (!(aM σ t).found && dI σ (aM σ t))] ∧ ae (pu (wF (aM σ t) k k') * (xB x P t k' * ay P g (cD σ t)) * R) H' := by
  intro k' H' hX hI' hf h'
  refine ag (Va ..) ?_
  refine am h' ac rfl ?_
  rw [hI']
  refine aa (aC (by omega) (by omega)) ?_
  rw [show ((t.i : Nat) : Int) + 1 = ((t.i + 1 : Nat) : Int) from by omega]
  refine aK h' ac rfl rfl fun H3 h3 => ?_
  refine am h3 ac rfl ?_
  refine am h3 ac rfl ?_
  refine am h3 ac rfl ?_
  have h4 := h3
  unfold ay tab at h4
  refine am h4 ac rfl ?_
  refine aa (v := vb (dI σ (aM σ t))) ?_ ?_
  ·rw [yH]
   congr 3
   show ((σ.c.sl.toNat : Int) ≤ _) = (σ.c.sl ≤ ((t.i + 1 : Nat) : Int))
   apply propext
   omega
  refine ap ⟨{ k' with I := t.i + 1 }, by rw [hf]; rfl, ?_⟩
  rw [ar, ae.pu]
  refine ⟨?_, h3.to⟩
  have e0 : aM σ t = { aM σ t with found := false } := by rw [← hf]
  rw [e0]
  simpa [wF, hI] using hX
 by_cases hv : σ.μ.V (10, t.s, (t.i : Int)) = 0
 ·have e1 : lO (σ.μ.V (10, t.s, (t.i : Int))) = .tuple #[vi 0, vi 0, vb false] := by rw [lO, if_pos hv]
  have hf : (aM σ t).found = false := decide_eq_false fun q => q.1 hv
  rw [e1]
  refine aa (v := vi 0) rfl ?_
  refine aa (v := vi 0) rfl ?_
  refine aa (v := vb false) rfl ?_
  with_reducible repeat refine gg ?_
  refine ag (Eg ..) ?_
  with_reducible repeat refine gg ?_
  rw [Bool.not_false]
  with_reducible repeat refine gg ?_
  refine am h2 ac rfl ?_
  by_cases hfr : k.free < 0
  ·refine gt ?_
   refine aa (bI hfr) ?_
   with_reducible repeat refine gg ?_
   refine am h2 ac rfl ?_
   refine aK h2 ac rfl rfl fun H3 h3 => ?_
   exact tail { k with I := t.i, free := t.i } H3 (by simp [wF]) rfl hf h3.to
  ·refine gt ?_
   refine aa (bu hfr) ?_
   with_reducible repeat refine gg ?_
   exact tail { k with I := t.i } H2 (by simp [wF]) rfl hf h2.to
 ·have e1 : lO (σ.μ.V (10, t.s, (t.i : Int))) = .tuple #[vi ((σ.μ.V (10, t.s, (t.i : Int)) / 4294967296 : Nat) - 1), vi (σ.μ.V (10, t.s, (t.i : Int)) % 4294967296 : Nat), vb true] := by rw [lO, if_neg hv]
  rw [e1]
  refine aa (v := vi ((σ.μ.V (10, t.s, (t.i : Int)) / 4294967296 : Nat) - 1)) rfl ?_
  refine aa (v := vi (σ.μ.V (10, t.s, (t.i : Int)) % 4294967296 : Nat)) rfl ?_
  refine aa (v := vb true) rfl ?_
  with_reducible repeat refine gg ?_
  refine am h2 (fK (bW (bW bZ))) rfl ?_
  refine gt ?_
  by_cases hf : ((σ.μ.V (10, t.s, (t.i : Int)) / 4294967296 : Nat) : Int) - 1 = t.x.flow
  ·have hfo : (aM σ t).found = true := decide_eq_true ⟨hv, hf⟩
   have hob : (aM σ t).obj = σ.μ.V (10, t.s, (t.i : Int)) % 4294967296 := if_pos hfo
   refine aa (bp hf) ?_
   with_reducible repeat refine gg ?_
   refine aK h2 ac rfl rfl fun H3 h3 => ?_
   refine aK h3 ac rfl rfl fun H4 h4 => ?_
   refine ap ⟨{ k with I := t.i, hit := true, obj := σ.μ.V (10, t.s, (t.i : Int)) % 4294967296 }, by rw [hfo]; rfl, ?_⟩
   rw [ar, ae.pu]
   exact ⟨by simp [wF, hfo, hob], h4.to⟩
  ·have hfo : (aM σ t).found = false := decide_eq_false fun q => hf q.2
   refine aa (aS hf) ?_
   with_reducible repeat refine gg ?_
   refine ag (Eg ..) ?_
   with_reducible repeat refine gg ?_
   rw [Bool.not_true]
   with_reducible repeat refine gg ?_
   exact tail { k with I := t.i } H2 (by simp [wF]) rfl hfo h2.to
theorem KJ {R : SP} {H : AH} {Q : Value → AH → Prop} (now : Int) (S : SOk σ) (T : fY σ t) (h : ae (xB x P t k * (ay P g σ * R)) H)
 (hk : ∀ b H', ae (blk b (.cells false [vi t.x.flow, vi t.x.a, vi t.x.b]) * (xB x P t k * (ay P g σ * R))) H' → wp (NK (vp x) (vi now) (vb false) (vp P) (vi t.s) (vp b) H') Q) :
 wp (FF dB [vp x, vi now] H) Q := by
 have hc := b7.1 S.c
 refine aw (fun r => ajF _ _ H) ?_
 refine aI ac ?_
 refine aE h rfl ?_
 refine am h ac rfl ?_
 refine am h ac rfl ?_
 refine am h (fK (bW (bW bZ))) rfl ?_
 refine af h (OY (p := P) (g := g) (σ := σ) (uX g.tb g.m σ.c.sh.toNat σ.c.sl.toNat (by omega) t.x.flow)) fun _ H1 h1 => ?_
 refine aA h1 h (by rfl) ?_
 have es : vi ((t.x.flow.tmod (σ.c.sh.toNat : Int) + (σ.c.sh.toNat : Int)).tmod (σ.c.sh.toNat : Int)) = vi t.s := by rw [T.s, show ((σ.c.sh.toNat : Nat) : Int) = σ.c.sh from by omega]
 rw [es]
 refine am h1 (fK (bW (bW bZ))) rfl ?_
 refine am h1 (fK (bW (bW bZ))) rfl ?_
 refine am h1 (fK (bW (bW bZ))) rfl ?_
 refine dO ?_
 refine aO h1 fun b H2 h2 => ?_
 refine bX h2 rfl rfl fun H3 h3 => ?_
 exact hk b H3 h3.to
theorem bF {R : SP} {H : AH} {Q : Value → AH → Prop} (now : Int) (S : SOk σ) (T : fY σ t) (ha : k.a ≠ 0) (h : ae (xB x P t k * (ay P g σ * R)) H)
 (hk : ∀ b H', ae (blk b (.cells false [vi t.x.flow, vi t.x.a, vi t.x.b]) * (xB x P t k * (ay P g σ * R))) H' → wp (nV (vp x) (vi now) (vb false) (vp P) (vi t.s) (vp b) (vi k.a) H') Q) :
 wp (FF dB [vp x, vi now] H) Q := by
 refine KJ x P g σ t k now S T h fun b H1 h1 => ?_
 refine ag (Ee ..) ?_
 refine am h1 ac rfl ?_
 refine aa (aS (by omega)) ?_
 with_reducible repeat refine gg ?_
 refine ag (Ef ..) ?_
 refine am h1 ac rfl ?_
 exact hk b H1 h1
end
theorem mj {f : Nat} {args : List Value} {H : AH} {Q : Value → AH → Prop} (h : wp (FF f args H) Q) : wp ((FF f args H).bind fun r => some (r.1, r.2)) Q := by
 obtain ⟨v, H', e, q⟩ := h
 rw [e]; exact ⟨v, H', rfl, q⟩
section
variable (x P : Nat) (σ : a7) (t : Tk) (now : Int)
theorem ch6 {x0 x1 x4 x5 x6 x7 : Value} {a : Nat} {H : AH} {Q : Value → AH → Prop} (h : a ≠ 2 ∧ a ≠ 3 ∧ a ≠ 4 ∧ a ≠ 5) (hk : wp ((ai .other .eql (vi (a : Int)) (vi 6)).bind fun v => G5 x0 x1 x4 x5 x6 x7 (vi (a : Int)) v H) Q) : wp (nV x0 x1 x4 x5 x6 x7 (vi (a : Int)) H) Q := by
 refine ag (kj ..) ?_
 refine aa (aS (by omega)) ?_
 refine ag (nb ..) ?_
 with_reducible repeat refine gg ?_
 refine aa (aS (by omega)) ?_
 refine ag (nU ..) ?_
 with_reducible repeat refine gg ?_
 refine aa (aS (by omega)) ?_
 refine ag (sJ ..) ?_
 with_reducible repeat refine gg ?_
 refine aa (aS (by omega)) ?_
 refine ag (BY ..) ?_
 with_reducible repeat refine gg ?_
 exact hk
theorem ch8 {x0 x1 x4 x5 x6 x7 : Value} {a : Nat} {H : AH} {Q : Value → AH → Prop} (h : a ≠ 2 ∧ a ≠ 3 ∧ a ≠ 4 ∧ a ≠ 5 ∧ a ≠ 6 ∧ a ≠ 7) (hk : wp ((ai .other .eql (vi (a : Int)) (vi 8)).bind fun v => G6 x0 x1 x4 x5 x6 x7 (vi (a : Int)) v H) Q) : wp (nV x0 x1 x4 x5 x6 x7 (vi (a : Int)) H) Q := by
 refine ch6 (by omega) ?_
 refine aa (aS (by omega)) ?_
 refine ag (sK ..) ?_
 with_reducible repeat refine gg ?_
 refine aa (aS (by omega)) ?_
 refine ag (BZ ..) ?_
 with_reducible repeat refine gg ?_
 exact hk
theorem ah7 {x0 x1 x4 x5 x6 x7 : Value} {a : Nat} {H : AH} {Q : Value → AH → Prop} (h : a ≠ 2 ∧ a ≠ 3 ∧ a ≠ 4 ∧ a ≠ 5 ∧ a ≠ 6 ∧ a ≠ 7 ∧ a ≠ 8 ∧ a ≠ 9 ∧ a ≠ 13) (hk : wp ((ai .other .eql (vi (a : Int)) (vi 10)).bind fun v98 => ax v98 (uB x0 x1 x4 x5 x6 x7 (vi (a : Int)) v98 H) ((ai .other .eql (vi (a : Int)) (vi 14)).bind fun v99 => uB x0 x1 x4 x5 x6 x7 (vi (a : Int)) v99 H)) Q) : wp (nV x0 x1 x4 x5 x6 x7 (vi (a : Int)) H) Q := by
 refine ch8 (by omega) ?_
 refine aa (aS (by omega)) ?_
 refine ag (nW ..) ?_
 with_reducible repeat refine gg ?_
 refine aa (aS (by omega)) ?_
 with_reducible repeat refine gg ?_
 refine aa (aS (by omega)) ?_
 refine ag (sL ..) ?_
 with_reducible repeat refine gg ?_
 exact hk
theorem ah8 {x0 x1 x4 x5 x6 x7 : Value} {a : Nat} {H : AH} {Q : Value → AH → Prop} (h : a ≠ 2 ∧ a ≠ 3 ∧ a ≠ 4 ∧ a ≠ 5 ∧ a ≠ 6 ∧ a ≠ 7 ∧ a ≠ 8 ∧ a ≠ 9 ∧ a ≠ 10 ∧ a ≠ 13 ∧ a ≠ 14) (hk : wp ((ai .other .eql (vi (a : Int)) (vi 11)).bind fun v => G8 x0 x1 x4 x5 x6 (vi (a : Int)) v H) Q) : wp (nV x0 x1 x4 x5 x6 x7 (vi (a : Int)) H) Q := by
 refine ah7 (by omega) ?_
 refine aa (aS (by omega)) ?_
 with_reducible repeat refine gg ?_
 refine aa (aS (by omega)) ?_
 refine ag (sM ..) ?_
 with_reducible repeat refine gg ?_
 exact hk
theorem WJ {x0 x1 x4 x5 x6 x7 : Value} {a : Nat} {H : AH} {Q : Value → AH → Prop} (h : a ≠ 2 ∧ a ≠ 3 ∧ a ≠ 4 ∧ a ≠ 5 ∧ a ≠ 6 ∧ a ≠ 7 ∧ a ≠ 8 ∧ a ≠ 9 ∧ a ≠ 10 ∧ a ≠ 11 ∧ a ≠ 12 ∧ a ≠ 13 ∧ a ≠ 14) (hk : wp ((ai .other .eql (vi (a : Int)) (vi 15)).bind fun v92 => ax v92 (j2 x0 x1 x4 x6 v92 H) ((ai .other .eql (vi (a : Int)) (vi 16)).bind fun v93 => ax v93 (j2 x0 x1 x4 x6 v93 H) ((ai .other .eql (vi (a : Int)) (vi 17)).bind fun v94 => ax v94 (j2 x0 x1 x4 x6 v94 H) ((ai .other .eql (vi (a : Int)) (vi 18)).bind fun v95 => j2 x0 x1 x4 x6 v95 H)))) Q) : wp (nV x0 x1 x4 x5 x6 x7 (vi (a : Int)) H) Q := by
 refine ah8 (by omega) ?_
 refine aa (aS (by omega)) ?_
 refine ag (sN ..) ?_
 with_reducible repeat refine gg ?_
 refine aa (aS (by omega)) ?_
 refine ag (B0 ..) ?_
 with_reducible repeat refine gg ?_
 exact hk
theorem chw {x0 x1 x4 x5 x6 x7 : Value} {a : Nat} {H : AH} {Q : Value → AH → Prop} (h : a ≠ 2 ∧ a ≠ 3 ∧ a ≠ 4 ∧ a ≠ 5 ∧ a ≠ 6 ∧ a ≠ 7 ∧ a ≠ 8 ∧ a ≠ 9 ∧ a ≠ 10 ∧ a ≠ 11 ∧ a ≠ 12 ∧ a ≠ 13 ∧ a ≠ 14 ∧ a ≠ 15 ∧ a ≠ 16 ∧ a ≠ 17 ∧ a ≠ 18) (hk : wp ((FF aaN [x0, x6] H).bind fun r91 => some (r91.1, r91.2)) Q) : wp (nV x0 x1 x4 x5 x6 x7 (vi (a : Int)) H) Q := by
 refine WJ (by omega) ?_
 refine aa (aS (by omega)) ?_
 with_reducible repeat refine gg ?_
 refine aa (aS (by omega)) ?_
 with_reducible repeat refine gg ?_
 refine aa (aS (by omega)) ?_
 with_reducible repeat refine gg ?_
 refine aa (aS (by omega)) ?_
 refine ag (kV ..) ?_
 with_reducible repeat refine gg ?_
 exact hk
theorem agN (S : SOk σ) (T : fY σ t) (hat : t.at' = 3) : Sp dB [vp x, vi now] (xP x P σ t) (fun _ : Unit => vb (ak σ t now).2.2) (fun _ => xQ x P (ak σ t now)) := by
 have hN : σ.μ.N < 1099511627000 := by have := S.N; omega
 refine av fun R H h => ?_
 obtain ⟨k, g, hR, hg, h0⟩ := cf h
 have hl := hg.1
 simp only [fX, hat] at hR
 obtain ⟨ha, _⟩ := hR
 refine bF x P g σ t k now S T (by omega) h0 fun b1 H1 h1 => ?_
 refine ag (kj ..) ?_
 refine aa (aS (by omega)) ?_
 refine ag (nb ..) ?_
 with_reducible repeat refine gg ?_
 refine aa (bp (by omega)) ?_
 refine ag (nU ..) ?_
 with_reducible repeat refine gg ?_
 refine am h1 ac rfl ?_
 refine am h1 ac rfl ?_
 refine af h1 (EU (p := P) (g := g) (σ := σ) (μ' := σ.μ.swp t.who (8, t.s, 0) 0 1) (by simp) (abI g.tb g.m σ.c.sh.toNat σ.c.sl.toNat σ.μ t.who t.s hN)) fun _ H2 h2 => ?_
 by_cases hw : σ.μ.V (8, t.s, 0) = 0
 ·rw [decide_eq_true hw]
  with_reducible repeat refine gg ?_
  refine aK h2 ac rfl rfl fun H3 h3 => ?_
  refine aK h3 ac rfl rfl fun H4 h4 => ?_
  refine aK h4 ac rfl rfl fun H5 h5 => ?_
  refine ag (bQ ..) ?_
  exact ap (cO (g := g) (σ' := σ.mem (σ.μ.swp t.who (8, t.s, 0) 0 1)) (t' := { t with at' := 4, i := 0 }) (k := { k with a := 4, I := 0, hit := false }) (by simp only [ak, hat]; rw [if_pos hw]) (by simp [fX]) (aJ (σ := σ) hg (by simp) rfl) h5.to)
 ·rw [decide_eq_false hw]
  with_reducible repeat refine gg ?_
  refine ag (bQ ..) ?_
  exact ap (cO (g := g) (σ' := σ.mem (σ.μ.swp t.who (8, t.s, 0) 0 1)) (t' := t) (k := k) (by simp only [ak, hat]; rw [if_neg hw]) (by simp only [fX, hat]; exact ⟨ha, trivial⟩) (aJ (σ := σ) hg (by simp) rfl) h2.to)
theorem agP (S : SOk σ) (T : fY σ t) (hat : t.at' = 5) : Sp dB [vp x, vi now] (xP x P σ t) (fun _ : Unit => vb (ak σ t now).2.2) (fun _ => xQ x P (ak σ t now)) := by
 have hN : σ.μ.N < 1099511627000 := by have := S.N; omega
 refine av fun R H h => ?_
 obtain ⟨k, g, hR, hg, h0⟩ := cf h
 have hl := hg.1
 simp only [fX, hat] at hR
 obtain ⟨ha, hhit, hobj, hcode⟩ := hR
 refine bF x P g σ t k now S T (by omega) h0 fun b1 H1 h1 => ?_
 refine ag (kj ..) ?_
 refine aa (aS (by omega)) ?_
 refine ag (nb ..) ?_
 with_reducible repeat refine gg ?_
 refine aa (aS (by omega)) ?_
 refine ag (nU ..) ?_
 with_reducible repeat refine gg ?_
 refine aa (aS (by omega)) ?_
 refine ag (sJ ..) ?_
 with_reducible repeat refine gg ?_
 refine aa (bp (by omega)) ?_
 refine ag (BY ..) ?_
 with_reducible repeat refine gg ?_
 refine am h1 ac rfl ?_
 refine am h1 ac rfl ?_
 refine af h1 (EU (p := P) (g := g) (σ := σ) (μ' := (σ.μ.acc t.who 2 (8, t.s, 0)).put (8, t.s, 0) 0) (by simp) (NA g.tb g.m σ.c.sh.toNat σ.c.sl.toNat σ.μ t.who t.s hN)) fun _ H2 h2 => ?_
 refine am h2 ac rfl ?_
 cases hf : t.found
 ·rw [hf] at hhit
  rw [hhit]
  with_reducible repeat refine gg ?_
  rw [Bool.not_false]
  with_reducible repeat refine gg ?_
  exact ap (CB (g := g) (k := k) (σ' := σ.mem ((σ.μ.acc t.who 2 (8, t.s, 0)).put (8, t.s, 0) 0)) (t' := { t with at' := 6 }) (by simp only [ak, hat, hf]; rfl) (hcode hf) (aJ (σ := σ) hg (by simp) rfl) h2.to)
 ·rw [hf] at hhit
  rw [hhit]
  with_reducible repeat refine gg ?_
  rw [Bool.not_true]
  with_reducible repeat refine gg ?_
  refine aK h2 ac rfl rfl fun H3 h3 => ?_
  refine ag (bQ ..) ?_
  exact ap (cO (g := g) (σ' := σ.mem ((σ.μ.acc t.who 2 (8, t.s, 0)).put (8, t.s, 0) 0)) (t' := { t with at' := 6 }) (k := { k with a := 6 }) (by simp only [ak, hat, hf]; rfl) (by simp [fX, hobj hf]) (aJ (σ := σ) hg (by simp) rfl) h3.to)
theorem agQ (S : SOk σ) (T : fY σ t) (hat : t.at' = 6) : Sp dB [vp x, vi now] (xP x P σ t) (fun _ : Unit => vb (ak σ t now).2.2) (fun _ => xQ x P (ak σ t now)) := by
 have hN : σ.μ.N < 1099511627000 := by have := S.N; omega
 refine av fun R H h => ?_
 obtain ⟨k, g, hR, hg, h0⟩ := cf h
 have hl := hg.1
 simp only [fX, hat] at hR
 obtain ⟨ha, hobj⟩ := hR
 have ho := T.obj (.inl (by omega))
 have hob : k.obj < σ.obs.length := by omega
 obtain ⟨b, hb⟩ : ∃ b, g.rp[k.obj]? = some b := ⟨_, List.getElem?_eq_getElem (by omega)⟩
 refine bF x P g σ t k now S T (by omega) h0 fun b1 H1 h1 => ?_
 refine ch6 (by omega) ?_
 refine aa (bp (by omega)) ?_
 refine ag (sK ..) ?_
 with_reducible repeat refine gg ?_
 refine am h1 ac rfl ?_
 refine am h1 ac rfl ?_
 refine af h1 (OO P g σ hl t.who k.obj hob S.N) fun _ H2 h2 => ?_
 refine aK h2 ac rfl rfl fun H3 h3 => ?_
 refine ag (bQ ..) ?_
 rw [hobj] at h3
 exact ap (cO (g := g) (σ' := σ.mem (σ.μ.acc t.who 5 (13, (t.obj : Int), 0))) (t' := { t with at' := 7 }) (k := { k with a := 7, obj := t.obj }) (by simp only [ak, hat]) (by simp [fX]) (aJ (σ := σ) hg (by simp) rfl) h3.to)
theorem agR (S : SOk σ) (T : fY σ t) (hat : t.at' = 7) : Sp dB [vp x, vi now] (xP x P σ t) (fun _ : Unit => vb (ak σ t now).2.2) (fun _ => xQ x P (ak σ t now)) := by
 have hN : σ.μ.N < 1099511627000 := by have := S.N; omega
 refine av fun R H h => ?_
 obtain ⟨k, g, hR, hg, h0⟩ := cf h
 have hl := hg.1
 simp only [fX, hat] at hR
 obtain ⟨ha, hobj⟩ := hR
 have ho := T.obj (.inl (by omega))
 have hob : k.obj < σ.obs.length := by omega
 obtain ⟨b, hb⟩ : ∃ b, g.rp[k.obj]? = some b := ⟨_, List.getElem?_eq_getElem (by omega)⟩
 refine bF x P g σ t k now S T (by omega) h0 fun b1 H1 h1 => ?_
 refine ch6 (by omega) ?_
 refine aa (aS (by omega)) ?_
 refine ag (sK ..) ?_
 with_reducible repeat refine gg ?_
 refine aa (bp (by omega)) ?_
 refine ag (BZ ..) ?_
 with_reducible repeat refine gg ?_
 refine aK h1 ac rfl rfl fun H2 h2 => ?_
 refine af h2 (Sd x P g σ t { k with a := 8 } S hl b hob hb) fun _ H3 h3 => ?_
 dsimp only at h3
 rw [hobj] at h3
 by_cases hw : br (σ.μ.V (11, (t.obj : Int), 0)) = 2
 ·refine aa (bp (by rw [hobj]; exact hw)) ?_
  with_reducible repeat refine gg ?_
  refine aK h3 ac rfl rfl fun H4 h4 => ?_
  refine ag (bQ ..) ?_
  exact ap (cO (g := g) (σ' := lS σ t) (t' := { t with at' := 3, w := σ.μ.V (11, (t.obj : Int), 0) }) (k := { k with a := 3, obj := t.obj, w := σ.μ.V (11, (t.obj : Int), 0) }) (by simp only [ak, hat]; rw [if_pos hw]) (by simp [fX]) (aJ (σ := σ) hg (by simp) rfl) h4.to)
 ·refine aa (aS (by rw [hobj]; exact hw)) ?_
  with_reducible repeat refine gg ?_
  refine ag (bQ ..) ?_
  exact ap (cO (g := g) (σ' := lS σ t) (t' := { t with at' := 8, w := σ.μ.V (11, (t.obj : Int), 0) }) (k := { k with a := 8, obj := t.obj, w := σ.μ.V (11, (t.obj : Int), 0) }) (by simp only [ak, hat]; rw [if_neg hw]) (by simp [fX]) (aJ (σ := σ) hg (by simp) rfl) h3.to)
theorem agS (S : SOk σ) (T : fY σ t) (hat : t.at' = 8) : Sp dB [vp x, vi now] (xP x P σ t) (fun _ : Unit => vb (ak σ t now).2.2) (fun _ => xQ x P (ak σ t now)) := by
 have hN : σ.μ.N < 1099511627000 := by have := S.N; omega
 refine av fun R H h => ?_
 obtain ⟨k, g, hR, hg, h0⟩ := cf h
 have hl := hg.1
 simp only [fX, hat] at hR
 obtain ⟨ha, hobj, hw0⟩ := hR
 have ho := T.obj (.inl (by omega))
 have hob : k.obj < σ.obs.length := by omega
 obtain ⟨b, hb⟩ : ∃ b, g.rp[k.obj]? = some b := ⟨_, List.getElem?_eq_getElem (by omega)⟩
 refine bF x P g σ t k now S T (by omega) h0 fun b1 H1 h1 => ?_
 refine ch8 (by omega) ?_
 refine aa (bp (by omega)) ?_
 refine ag (nW ..) ?_
 with_reducible repeat refine gg ?_
 refine af h1 (jq x P g σ t k hl b hob hb) fun _ H2 h2 => ?_
 refine aI ac ?_
 refine aE h2 rfl ?_
 refine aA h1 h2 (by rfl) ?_
 refine af h2 (g8 (p := P) (μ' := σ.μ.acc t.who 1 (12, (k.obj : Int), 0)) (by simp) hl hob hb (CG g.m k.obj b (az σ k.obj) σ.μ t.who hN)) fun _ H3 h3 => ?_
 refine aK h3 ac rfl rfl fun H4 h4 => ?_
 refine am h4 ac rfl ?_
 refine af h4 (mZ k.w (by rw [hw0]; exact T.w)) fun _ H5 h5 => ?_
 refine aa (v := vu (aR k.w)) rfl ?_
 refine aa (v := vi (br k.w)) rfl ?_
 refine aa (v := vb (cN k.w)) rfl ?_
 refine ag (NM ..) ?_
 refine af h5 (jq x P g (σ.mem (σ.μ.acc t.who 1 (12, (k.obj : Int), 0))) t { k with h := σ.μ.V (12, (k.obj : Int), 0) } hl b hob hb) fun _ H6 h6 => ?_
 refine aI ac ?_
 refine aE h6 rfl ?_
 refine aA h5 h6 (by rfl) ?_
 refine aI ac ?_
 refine aE h6 rfl ?_
 refine aA h5 h6 (by rfl) ?_
 refine af h6 (HP (p := P) (σ := σ.mem (σ.μ.acc t.who 1 (12, (k.obj : Int), 0))) hl hob hb (CF g.m k.obj b (az σ k.obj) k.w (σ.μ.V (12, (k.obj : Int), 0)) (by rw [hw0]; exact T.w) (S.cells _ hob).2)) fun _ H7 h7 => ?_
 rw [hobj, hw0] at h7
 rw [hobj, hw0]
 cases hf : lr t.w (σ.μ.V (12, (t.obj : Int), 0)) (az σ t.obj).length
 ·with_reducible repeat refine gg ?_
  by_cases hw : br t.w = 1
  ·refine aa (bp hw) ?_
   with_reducible repeat refine gg ?_
   refine aK h7 ac rfl rfl fun H8 h8 => ?_
   refine ag (bQ ..) ?_
   exact ap (cO (g := g) (σ' := ia σ t) (t' := { t with at' := 9 }) (k := { k with a := 9, obj := t.obj, w := t.w, h := σ.μ.V (12, (t.obj : Int), 0) }) (by simp only [ak, hat, lq, hf]; rw [if_pos hw]; rfl) (by simp [fX]) (aJ (σ := σ) hg (by simp) rfl) h8.to)
  ·refine aa (aS hw) ?_
   with_reducible repeat refine gg ?_
   refine aK h7 ac rfl rfl fun H8 h8 => ?_
   refine ag (bQ ..) ?_
   exact ap (cO (g := g) (σ' := ia σ t) (t' := { t with at' := 12 }) (k := { k with a := 12, obj := t.obj, w := t.w, h := σ.μ.V (12, (t.obj : Int), 0) }) (by simp only [ak, hat, lq, hf]; rw [if_neg hw]; rfl) (by simp [fX]) (aJ (σ := σ) hg (by simp) rfl) h8.to)
 ·with_reducible repeat refine gg ?_
  refine aK h7 ac rfl rfl fun H8 h8 => ?_
  refine ag (bQ ..) ?_
  exact ap (cO (g := g) (σ' := ia σ t) (t' := { t with at' := 15 }) (k := { k with a := 15, obj := t.obj, w := t.w, h := σ.μ.V (12, (t.obj : Int), 0) }) (by simp only [ak, hat, lq, hf]; rfl) (by simp [fX]) (aJ (σ := σ) hg (by simp) rfl) h8.to)
theorem KO (g : XIds) (k : Xk) (S : SOk σ) (hg : fH g σ) (ha : k.a = 9 ∨ k.a = 13) (b : Nat) (ho : k.obj < σ.obs.length) (hb : g.rp[k.obj]? = some b) (hw0 : k.w < 18446744073709551616) :
 Sp i8 [vp x, vi now] (xB x P t k * ay P g σ) (fun _ : Value => .tuple #[]) (fun v => if eJ σ.μ k.obj k.w (aZ k.w 0) = true then
  xB x P t { k with q := if k.a = 13 then 1 else 0, a := k.a + 1, code := 0 } * ay P { g with pv := v } ((σ.mem (σ.μ.turn t.who k.obj k.w (aZ k.w 0))).note now t.who 0)
  else xB x P t { k with q := if k.a = 13 then 1 else 0, a := if k.a = 13 then 20 else 7 } * ay P g (σ.mem (σ.μ.turn t.who k.obj k.w (aZ k.w 0)))) := by
 have hN : σ.μ.N < 1099511627000 := by have := S.N; omega
 have hl := hg.1
 have hturn : σ.μ.N ≤ (σ.μ.turn t.who k.obj k.w (aZ k.w 0)).N := by cases aZ k.w 0 <;> simp
 have hturn2 : (σ.μ.turn t.who k.obj k.w (aZ k.w 0)).N ≤ σ.μ.N + 2 := by cases aZ k.w 0 <;> simp
 refine av fun R H h => ?_
 refine aw (fun r => uy _ _ H) ?_
 refine aK h ac rfl rfl fun H1 h1 => ?_
 refine ag (pM ..) ?_
 refine am h1 ac rfl ?_
 have main : ∀ (q : Nat) (H2 : AH), q = (if k.a = 13 then 1 else 0) → ae (xB x P t { k with q := q } * (ay P g σ * R)) H2 → wp (eZ (vp x) (vi now) H2) fun v' H' => ∃ v : Value, v' = .tuple #[] ∧ ae ((if eJ σ.μ k.obj k.w (aZ k.w 0) = true then
  xB x P t { k with q := if k.a = 13 then 1 else 0, a := k.a + 1, code := 0 } * ay P { g with pv := v } ((σ.mem (σ.μ.turn t.who k.obj k.w (aZ k.w 0))).note now t.who 0)
  else xB x P t { k with q := if k.a = 13 then 1 else 0, a := if k.a = 13 then 20 else 7 } * ay P g (σ.mem (σ.μ.turn t.who k.obj k.w (aZ k.w 0)))) * R) H' := by
  intro q H2 hq h2
  refine ag (pN ..) ?_
  refine af h2 (jq x P g σ t { k with q := q } hl b ho hb) fun _ H3 h3 => ?_
  refine aI ac ?_
  refine aE h3 rfl ?_
  refine aA h2 h3 (by rfl) ?_
  refine aI ac ?_
  refine aE h3 rfl ?_
  refine aA h2 h3 (by rfl) ?_
  refine af h3 (g8 (p := P) (μ' := σ.μ.turn t.who k.obj k.w (aZ k.w 0)) hturn hl ho hb (sZ g.m k.obj b (az σ k.obj) σ.μ t.who k.w 0 (by omega) hw0 hN)) fun _ H4 h4 => ?_
  cases hw : eJ σ.μ k.obj k.w (aZ k.w 0)
  ·with_reducible repeat refine gg ?_
   refine am h4 ac rfl ?_
   rcases ha with ha | ha
   ·refine aa (bp (show ((k.a : Nat) : Int) = 9 by omega)) ?_
    with_reducible repeat refine gg ?_
    refine aK h4 ac rfl rfl fun H5 h5 => ?_
    refine ap ⟨.bool true, rfl, ?_⟩
    rw [if_neg (by simp)]
    simp only [hq] at h5
    rw [if_neg (by omega)] at h5 ⊢
    rw [if_neg (by omega)]
    exact h5.to
   ·refine aa (aS (show ¬ ((k.a : Nat) : Int) = 9 by omega)) ?_
    with_reducible repeat refine gg ?_
    refine aK h4 ac rfl rfl fun H5 h5 => ?_
    refine ap ⟨.bool true, rfl, ?_⟩
    rw [if_neg (by simp)]
    simp only [hq] at h5
    rw [if_pos ha] at h5 ⊢
    rw [if_pos ha]
    exact h5.to
  ·with_reducible repeat refine gg ?_
   refine af h4 (zo x P g (σ.mem (σ.μ.turn t.who k.obj k.w (aZ k.w 0))) t { k with q := q } (aJ (σ := σ) hg hturn rfl) now 0 (by have := S.N; show (σ.μ.turn t.who k.obj k.w (aZ k.w 0)).N < _; omega) S.pts) fun v H5 h5 => ?_
   refine am h5 ac rfl ?_
   refine aa (aC (a := ((k.a : Nat) : Int)) (b := 1) (by omega) (by omega)) ?_
   rw [show ((k.a : Nat) : Int) + 1 = ((k.a + 1 : Nat) : Int) from by omega]
   refine aK h5 ac rfl rfl fun H6 h6 => ?_
   refine ap ⟨v, rfl, ?_⟩
   rw [if_pos rfl]
   simp only [hq] at h6
   exact h6.to
 rcases ha with ha | ha
 ·refine aa (aS (by omega)) ?_
  with_reducible repeat refine gg ?_
  exact main 0 H1 (by rw [if_neg (by omega)]) h1.to
 ·refine aa (bp (by omega)) ?_
  with_reducible repeat refine gg ?_
  refine aK h1 ac rfl rfl fun H2 h2 => ?_
  exact main 1 H2 (by rw [if_pos ha]) h2.to
theorem agT (S : SOk σ) (T : fY σ t) (hat : t.at' = 9) : Sp dB [vp x, vi now] (xP x P σ t) (fun _ : Unit => vb (ak σ t now).2.2) (fun _ => xQ x P (ak σ t now)) := by
 have hN : σ.μ.N < 1099511627000 := by have := S.N; omega
 refine av fun R H h => ?_
 obtain ⟨k, g, hR, hg, h0⟩ := cf h
 have hl := hg.1
 simp only [fX, hat] at hR
 obtain ⟨ha, hobj, hw0⟩ := hR
 have ho := T.obj (.inl (by omega))
 have hob : k.obj < σ.obs.length := by omega
 obtain ⟨b, hb⟩ : ∃ b, g.rp[k.obj]? = some b := ⟨_, List.getElem?_eq_getElem (by omega)⟩
 refine bF x P g σ t k now S T (by omega) h0 fun b1 H1 h1 => ?_
 refine ch8 (by omega) ?_
 refine aa (aS (by omega)) ?_
 refine ag (nW ..) ?_
 with_reducible repeat refine gg ?_
 refine aa (bp (by omega)) ?_
 with_reducible repeat refine gg ?_
 refine ag (sL ..) ?_
 with_reducible repeat refine gg ?_
 have hturn : σ.μ.N ≤ (σ.μ.turn t.who k.obj k.w (aZ k.w 0)).N := by cases aZ k.w 0 <;> simp
 refine af h1 (KO x P σ t now g k S hg (by omega) b hob hb (by rw [hw0]; exact T.w)) fun v H2 h2 => ?_
 refine ag (bQ ..) ?_
 cases hw : eJ σ.μ t.obj t.w (aZ t.w 0)
 ·rw [if_neg (by rw [hobj, hw0, hw]; simp)] at h2
  rw [hobj, hw0, ha, if_neg (by omega), if_neg (by omega)] at h2
  exact ap (cO (g := g) (σ' := σ.mem (σ.μ.turn t.who t.obj t.w (aZ t.w 0))) (t' := { t with at' := 7 }) (k := { k with a := 7, obj := t.obj, w := t.w, q := 0 }) (by simp only [ak, hat, hw]; rfl) (by simp [fX]) (aJ (σ := σ) hg (by rw [hobj, hw0] at hturn; exact hturn) rfl) h2.to)
 ·rw [if_pos (by rw [hobj, hw0, hw])] at h2
  rw [hobj, hw0, ha, if_neg (by omega)] at h2
  exact ap (cO (g := { g with pv := v }) (σ' := (σ.mem (σ.μ.turn t.who t.obj t.w (aZ t.w 0))).note now t.who 0) (t' := { t with at' := 10, code := 0 }) (k := { k with a := 10, obj := t.obj, w := t.w, q := 0, code := 0 }) (by simp only [ak, hat, hw]; rfl) (by simp [fX]) (kS (σ := σ) hg (by rw [hobj, hw0] at hturn; exact hturn) rfl) h2.to)
theorem adR (S : SOk σ) (T : fY σ t) (hat : t.at' = 13) : Sp dB [vp x, vi now] (xP x P σ t) (fun _ : Unit => vb (ak σ t now).2.2) (fun _ => xQ x P (ak σ t now)) := by
 have hN : σ.μ.N < 1099511627000 := by have := S.N; omega
 refine av fun R H h => ?_
 obtain ⟨k, g, hR, hg, h0⟩ := cf h
 have hl := hg.1
 simp only [fX, hat] at hR
 obtain ⟨ha, hobj, hw0⟩ := hR
 have ho := T.obj (.inl (by omega))
 have hob : k.obj < σ.obs.length := by omega
 obtain ⟨b, hb⟩ : ∃ b, g.rp[k.obj]? = some b := ⟨_, List.getElem?_eq_getElem (by omega)⟩
 refine bF x P g σ t k now S T (by omega) h0 fun b1 H1 h1 => ?_
 refine ch8 (by omega) ?_
 refine aa (aS (by omega)) ?_
 refine ag (nW ..) ?_
 with_reducible repeat refine gg ?_
 refine aa (aS (by omega)) ?_
 with_reducible repeat refine gg ?_
 refine aa (bp (by omega)) ?_
 refine ag (sL ..) ?_
 with_reducible repeat refine gg ?_
 have hturn : σ.μ.N ≤ (σ.μ.turn t.who k.obj k.w (aZ k.w 0)).N := by cases aZ k.w 0 <;> simp
 refine af h1 (KO x P σ t now g k S hg (by omega) b hob hb (by rw [hw0]; exact T.w)) fun v H2 h2 => ?_
 refine ag (bQ ..) ?_
 cases hw : eJ σ.μ t.obj t.w (aZ t.w 0)
 ·rw [if_neg (by rw [hobj, hw0, hw]; simp)] at h2
  rw [hobj, hw0, ha, if_pos rfl, if_pos rfl] at h2
  exact ap (cO (g := g) (σ' := σ.mem (σ.μ.turn t.who t.obj t.w (aZ t.w 0))) (t' := { t with at' := 20 }) (k := { k with a := 20, obj := t.obj, w := t.w, q := 1 }) (by simp only [ak, hat, hw]; rfl) (by simp [fX]) (aJ (σ := σ) hg (by rw [hobj, hw0] at hturn; exact hturn) rfl) h2.to)
 ·rw [if_pos (by rw [hobj, hw0, hw])] at h2
  rw [hobj, hw0, ha, if_pos rfl] at h2
  exact ap (cO (g := { g with pv := v }) (σ' := (σ.mem (σ.μ.turn t.who t.obj t.w (aZ t.w 0))).note now t.who 0) (t' := { t with at' := 14, code := 0 }) (k := { k with a := 14, obj := t.obj, w := t.w, q := 1, code := 0 }) (by simp only [ak, hat, hw]; rfl) (by simp [fX]) (kS (σ := σ) hg (by rw [hobj, hw0] at hturn; exact hturn) rfl) h2.to)
theorem adO (S : SOk σ) (T : fY σ t) (hat : t.at' = 10) : Sp dB [vp x, vi now] (xP x P σ t) (fun _ : Unit => vb (ak σ t now).2.2) (fun _ => xQ x P (ak σ t now)) := by
 have hN : σ.μ.N < 1099511627000 := by have := S.N; omega
 refine av fun R H h => ?_
 obtain ⟨k, g, hR, hg, h0⟩ := cf h
 have hl := hg.1
 simp only [fX, hat] at hR
 obtain ⟨ha, hobj, hw0, hq, hcode⟩ := hR
 have ho := T.obj (.inl (by omega))
 have hob : k.obj < σ.obs.length := by omega
 obtain ⟨b, hb⟩ : ∃ b, g.rp[k.obj]? = some b := ⟨_, List.getElem?_eq_getElem (by omega)⟩
 refine bF x P g σ t k now S T (by omega) h0 fun b1 H1 h1 => ?_
 refine ah7 (by omega) ?_
 refine aa (bp (by omega)) ?_
 with_reducible repeat refine gg ?_
 refine ag (sM ..) ?_
 with_reducible repeat refine gg ?_
 refine af h1 (jq x P g σ t k hl b hob hb) fun _ H2 h2 => ?_
 refine aI ac ?_
 refine aE h2 rfl ?_
 refine aA h1 h2 (by rfl) ?_
 refine af h2 (uW x P t k (by rw [hw0]; exact T.w)) fun _ H3 h3 => ?_
 refine aA h3 h2 (by rfl) ?_
 refine aL h3 ?_
 refine bg h1 h3 rfl ?_
 refine bg h2 h3 rfl ?_
 refine af h3 (ET (p := P) (μ' := σ.μ.acc t.who 6 (16, (k.obj : Int), ((aR k.w % (az σ k.obj).length : Nat) : Int))) (by simp) hl hob hb (EQ g.m k.obj b (az σ k.obj) σ.μ t.who (aR k.w) ⟨t.x.flow, t.x.a, t.x.b⟩ (S.cells _ hob) hN)) fun _ H4 h4 => ?_
 refine aK h4 ac rfl rfl fun H5 h5 => ?_
 refine am h5 ac rfl ?_
 refine aa (aS (by omega)) ?_
 with_reducible repeat refine gg ?_
 refine ag (bQ ..) ?_
 have e1 := y9 σ t
 rw [hobj, hw0, ← e1] at h5
 exact ap (cO (g := g) (σ' := sc σ t) (t' := { t with at' := 11 }) (k := { k with a := 11, obj := t.obj, w := t.w }) (by simp only [ak, hat]) (by simp [fX, hcode]) (aJ (σ := σ) hg (by simp) (jB σ t)) h5.to)
theorem adS (S : SOk σ) (T : fY σ t) (hat : t.at' = 14) : Sp dB [vp x, vi now] (xP x P σ t) (fun _ : Unit => vb (ak σ t now).2.2) (fun _ => xQ x P (ak σ t now)) := by
 have hN : σ.μ.N < 1099511627000 := by have := S.N; omega
 refine av fun R H h => ?_
 obtain ⟨k, g, hR, hg, h0⟩ := cf h
 have hl := hg.1
 simp only [fX, hat] at hR
 obtain ⟨ha, hobj, hw0, hq, hcode⟩ := hR
 have ho := T.obj (.inl (by omega))
 have hob : k.obj < σ.obs.length := by omega
 obtain ⟨b, hb⟩ : ∃ b, g.rp[k.obj]? = some b := ⟨_, List.getElem?_eq_getElem (by omega)⟩
 refine bF x P g σ t k now S T (by omega) h0 fun b1 H1 h1 => ?_
 refine ah7 (by omega) ?_
 refine aa (aS (by omega)) ?_
 with_reducible repeat refine gg ?_
 refine aa (bp (by omega)) ?_
 refine ag (sM ..) ?_
 with_reducible repeat refine gg ?_
 refine af h1 (jq x P g σ t k hl b hob hb) fun _ H2 h2 => ?_
 refine aI ac ?_
 refine aE h2 rfl ?_
 refine aA h1 h2 (by rfl) ?_
 refine af h2 (uW x P t k (by rw [hw0]; exact T.w)) fun _ H3 h3 => ?_
 refine aA h3 h2 (by rfl) ?_
 refine aL h3 ?_
 refine bg h1 h3 rfl ?_
 refine bg h2 h3 rfl ?_
 refine af h3 (ET (p := P) (μ' := σ.μ.acc t.who 6 (16, (k.obj : Int), ((aR k.w % (az σ k.obj).length : Nat) : Int))) (by simp) hl hob hb (EQ g.m k.obj b (az σ k.obj) σ.μ t.who (aR k.w) ⟨t.x.flow, t.x.a, t.x.b⟩ (S.cells _ hob) hN)) fun _ H4 h4 => ?_
 refine aK h4 ac rfl rfl fun H5 h5 => ?_
 refine am h5 ac rfl ?_
 refine aa (bp (by omega)) ?_
 with_reducible repeat refine gg ?_
 refine aK h5 ac rfl rfl fun H6 h6 => ?_
 refine ag (bQ ..) ?_
 have e1 := y9 σ t
 rw [hobj, hw0, ← e1] at h6
 exact ap (cO (g := g) (σ' := sc σ t) (t' := { t with at' := 21 }) (k := { k with a := 21, obj := t.obj, w := t.w }) (by simp only [ak, hat]) (by simp [fX, hcode]) (aJ (σ := σ) hg (by simp) (jB σ t)) h6.to)
theorem adP (S : SOk σ) (T : fY σ t) (hat : t.at' = 11) : Sp dB [vp x, vi now] (xP x P σ t) (fun _ : Unit => vb (ak σ t now).2.2) (fun _ => xQ x P (ak σ t now)) := by
 have hN : σ.μ.N < 1099511627000 := by have := S.N; omega
 refine av fun R H h => ?_
 obtain ⟨k, g, hR, hg, h0⟩ := cf h
 have hl := hg.1
 simp only [fX, hat] at hR
 obtain ⟨ha, hobj, hw0, hcode⟩ := hR
 have ho := T.obj (.inl (by omega))
 have hob : k.obj < σ.obs.length := by omega
 obtain ⟨b, hb⟩ : ∃ b, g.rp[k.obj]? = some b := ⟨_, List.getElem?_eq_getElem (by omega)⟩
 refine bF x P g σ t k now S T (by omega) h0 fun b1 H1 h1 => ?_
 refine ah8 (by omega) ?_
 refine aa (bp (by omega)) ?_
 refine ag (sN ..) ?_
 with_reducible repeat refine gg ?_
 refine af h1 (jq x P g σ t k hl b hob hb) fun _ H2 h2 => ?_
 refine aI ac ?_
 refine aE h2 rfl ?_
 refine aA h1 h2 (by rfl) ?_
 refine af h2 (uW x P t k (by rw [hw0]; exact T.w)) fun _ H3 h3 => ?_
 refine aA h3 h2 (by rfl) ?_
 have hwc := dc k.w
 refine af h3 (g8 (p := P) (μ' := (σ.μ.acc t.who 2 (15, (k.obj : Int), ((aR k.w % (az σ k.obj).length : Nat) : Int))).put (15, (k.obj : Int), ((aR k.w % (az σ k.obj).length : Nat) : Int)) (aR k.w + 1)) (by simp) hl hob hb (CH g.m k.obj b (az σ k.obj) σ.μ t.who (aR k.w) (by omega) (S.cells _ hob) hN)) fun _ H4 h4 => ?_
 rw [hobj, hw0] at h4
 exact ap (CB (g := g) (k := k) (σ' := xu σ t) (t' := t) (by simp only [ak, hat]) hcode (aJ (σ := σ) hg (by simp) rfl) h4.to)
theorem adQ (S : SOk σ) (T : fY σ t) (hat : t.at' = 12) : Sp dB [vp x, vi now] (xP x P σ t) (fun _ : Unit => vb (ak σ t now).2.2) (fun _ => xQ x P (ak σ t now)) := by
 have hN : σ.μ.N < 1099511627000 := by have := S.N; omega
 refine av fun R H h => ?_
 obtain ⟨k, g, hR, hg, h0⟩ := cf h
 have hl := hg.1
 simp only [fX, hat] at hR
 obtain ⟨ha, hobj, hw0⟩ := hR
 have ho := T.obj (.inl (by omega))
 have hob : k.obj < σ.obs.length := by omega
 obtain ⟨b, hb⟩ : ∃ b, g.rp[k.obj]? = some b := ⟨_, List.getElem?_eq_getElem (by omega)⟩
 refine bF x P g σ t k now S T (by omega) h0 fun b1 H1 h1 => ?_
 refine ah8 (by omega) ?_
 refine aa (aS (by omega)) ?_
 refine ag (sN ..) ?_
 with_reducible repeat refine gg ?_
 refine aa (bp (by omega)) ?_
 refine ag (B0 ..) ?_
 with_reducible repeat refine gg ?_
 refine am h1 ac rfl ?_
 refine am h1 ac rfl ?_
 refine af h1 (u1 (p := P) (g := g) (σ := σ) (μ' := σ.μ.cnt t.who (3, 0, 0) 4294967296) (L := σ.μ.N) (by simp) (HO g.ib g.m σ.c.sh σ.nx σ.μ.N σ.μ t.who hN)) fun _ H2 h2 => ?_
 refine aK h2 ac rfl rfl fun H3 h3 => ?_
 refine ag (bQ ..) ?_
 exact ap (cO (g := g) (σ' := σ.mem (σ.μ.cnt t.who (3, 0, 0) 4294967296)) (t' := { t with at' := 13 }) (k := { k with a := 13 }) (by simp only [ak, hat]) (by simp [fX, hobj, hw0]) (aJ (σ := σ) hg (by simp) rfl) h3.to)
theorem adT (S : SOk σ) (T : fY σ t) (hat : t.at' = 15) : Sp dB [vp x, vi now] (xP x P σ t) (fun _ : Unit => vb (ak σ t now).2.2) (fun _ => xQ x P (ak σ t now)) := by
 have hN : σ.μ.N < 1099511627000 := by have := S.N; omega
 refine av fun R H h => ?_
 obtain ⟨k, g, hR, hg, h0⟩ := cf h
 have hl := hg.1
 simp only [fX, hat] at hR
 obtain ⟨ha, hobj⟩ := hR
 have ho := T.obj (.inl (by omega))
 have hob : k.obj < σ.obs.length := by omega
 obtain ⟨b, hb⟩ : ∃ b, g.rp[k.obj]? = some b := ⟨_, List.getElem?_eq_getElem (by omega)⟩
 refine bF x P g σ t k now S T (by omega) h0 fun b1 H1 h1 => ?_
 refine WJ (by omega) ?_
 refine aa (bp (by omega)) ?_
 with_reducible repeat refine gg ?_
 refine ag (kV ..) ?_
 with_reducible repeat refine gg ?_
 refine mj ?_
 refine aw (fun r => G9 _ _ H1) ?_
 refine ag (qL ..) ?_
 refine am h1 ac rfl ?_
 refine ag (qM ..) ?_
 refine aa (bp (by omega)) ?_
 with_reducible repeat refine gg ?_
 refine am h1 ac rfl ?_
 refine am h1 ac rfl ?_
 refine af h1 (CD P g σ t.who S.N) fun _ H2 h2 => ?_
 refine aK h2 ac rfl rfl fun H3 h3 => ?_
 refine aK h3 ac rfl rfl fun H4 h4 => ?_
 refine am h4 ac rfl ?_
 refine aa (Ry 2 (by omega)) ?_
 by_cases hw : σ.μ.V (2, 0, 0) % 2 = 1
 ·refine aa (bp (show ((σ.μ.V (2, 0, 0) % 2 : Nat) : Int) = 1 by omega)) ?_
  with_reducible repeat refine gg ?_
  refine aK h4 ac rfl rfl fun H5 h5 => ?_
  refine ag (jd ..) ?_
  exact ap (cO (g := g) (σ' := oK σ t) (t' := { t with at' := 7, q := σ.μ.V (2, 0, 0) }) (k := { k with a := 7, q := σ.μ.V (2, 0, 0) }) (by simp only [ak, hat]; rw [if_pos hw]) (by simp [fX, hobj]) (aJ (σ := σ) hg (by simp) rfl) h5.to)
 ·refine aa (aS (show ¬ ((σ.μ.V (2, 0, 0) % 2 : Nat) : Int) = 1 by omega)) ?_
  with_reducible repeat refine gg ?_
  refine ag (jd ..) ?_
  exact ap (cO (g := g) (σ' := oK σ t) (t' := { t with at' := 16, q := σ.μ.V (2, 0, 0) }) (k := { k with a := 16, q := σ.μ.V (2, 0, 0) }) (by simp only [ak, hat]; rw [if_neg hw]) (by simp [fX, hobj]) (aJ (σ := σ) hg (by simp) rfl) h4.to)
theorem adU (S : SOk σ) (T : fY σ t) (hat : t.at' = 16) : Sp dB [vp x, vi now] (xP x P σ t) (fun _ : Unit => vb (ak σ t now).2.2) (fun _ => xQ x P (ak σ t now)) := by
 have hN : σ.μ.N < 1099511627000 := by have := S.N; omega
 refine av fun R H h => ?_
 obtain ⟨k, g, hR, hg, h0⟩ := cf h
 have hl := hg.1
 simp only [fX, hat] at hR
 obtain ⟨ha, hobj, hq⟩ := hR
 have ho := T.obj (.inl (by omega))
 have hob : k.obj < σ.obs.length := by omega
 obtain ⟨b, hb⟩ : ∃ b, g.rp[k.obj]? = some b := ⟨_, List.getElem?_eq_getElem (by omega)⟩
 refine bF x P g σ t k now S T (by omega) h0 fun b1 H1 h1 => ?_
 refine WJ (by omega) ?_
 refine aa (aS (by omega)) ?_
 with_reducible repeat refine gg ?_
 refine aa (bp (by omega)) ?_
 with_reducible repeat refine gg ?_
 refine ag (kV ..) ?_
 with_reducible repeat refine gg ?_
 refine mj ?_
 refine aw (fun r => G9 _ _ H1) ?_
 refine ag (qL ..) ?_
 refine am h1 ac rfl ?_
 refine ag (qM ..) ?_
 refine aa (aS (by omega)) ?_
 with_reducible repeat refine gg ?_
 refine aa (bp (by omega)) ?_
 with_reducible repeat refine gg ?_
 refine aK h1 ac rfl rfl fun H2 h2 => ?_
 refine af h2 (Sd x P g σ t { k with a := 17 } S hl b hob hb) fun _ H3 h3 => ?_
 dsimp only at h3
 rw [hobj] at h3
 by_cases hw : br (σ.μ.V (11, (t.obj : Int), 0)) = 2
 ·refine aa (bp (by rw [hobj]; exact hw)) ?_
  with_reducible repeat refine gg ?_
  refine aK h3 ac rfl rfl fun H4 h4 => ?_
  refine ag (jd ..) ?_
  exact ap (cO (g := g) (σ' := lS σ t) (t' := { t with at' := 3, w := σ.μ.V (11, (t.obj : Int), 0) }) (k := { k with a := 3, obj := t.obj, w := σ.μ.V (11, (t.obj : Int), 0) }) (by simp only [ak, hat]; rw [if_pos hw]) (by simp [fX]) (aJ (σ := σ) hg (by simp) rfl) h4.to)
 ·refine aa (aS (by rw [hobj]; exact hw)) ?_
  with_reducible repeat refine gg ?_
  refine ag (jd ..) ?_
  exact ap (cO (g := g) (σ' := lS σ t) (t' := { t with at' := 17, w := σ.μ.V (11, (t.obj : Int), 0) }) (k := { k with a := 17, obj := t.obj, w := σ.μ.V (11, (t.obj : Int), 0) }) (by simp only [ak, hat]; rw [if_neg hw]) (by simp [fX, hq]) (aJ (σ := σ) hg (by simp) rfl) h3.to)
theorem adV (S : SOk σ) (T : fY σ t) (hat : t.at' = 17) : Sp dB [vp x, vi now] (xP x P σ t) (fun _ : Unit => vb (ak σ t now).2.2) (fun _ => xQ x P (ak σ t now)) := by
 have hN : σ.μ.N < 1099511627000 := by have := S.N; omega
 refine av fun R H h => ?_
 obtain ⟨k, g, hR, hg, h0⟩ := cf h
 have hl := hg.1
 simp only [fX, hat] at hR
 obtain ⟨ha, hobj, hw0, hq⟩ := hR
 have ho := T.obj (.inl (by omega))
 have hob : k.obj < σ.obs.length := by omega
 obtain ⟨b, hb⟩ : ∃ b, g.rp[k.obj]? = some b := ⟨_, List.getElem?_eq_getElem (by omega)⟩
 refine bF x P g σ t k now S T (by omega) h0 fun b1 H1 h1 => ?_
 refine WJ (by omega) ?_
 refine aa (aS (by omega)) ?_
 with_reducible repeat refine gg ?_
 refine aa (aS (by omega)) ?_
 with_reducible repeat refine gg ?_
 refine aa (bp (by omega)) ?_
 with_reducible repeat refine gg ?_
 refine ag (kV ..) ?_
 with_reducible repeat refine gg ?_
 refine mj ?_
 refine aw (fun r => G9 _ _ H1) ?_
 refine ag (qL ..) ?_
 refine am h1 ac rfl ?_
 refine ag (qM ..) ?_
 refine aa (aS (by omega)) ?_
 with_reducible repeat refine gg ?_
 refine aa (aS (by omega)) ?_
 with_reducible repeat refine gg ?_
 refine aa (bp (by omega)) ?_
 with_reducible repeat refine gg ?_
 refine af h1 (jq x P g σ t k hl b hob hb) fun _ H2 h2 => ?_
 refine aI ac ?_
 refine aE h2 rfl ?_
 refine aA h1 h2 (by rfl) ?_
 refine af h2 (g8 (p := P) (μ' := σ.μ.acc t.who 1 (12, (k.obj : Int), 0)) (by simp) hl hob hb (CG g.m k.obj b (az σ k.obj) σ.μ t.who hN)) fun _ H3 h3 => ?_
 refine aK h3 ac rfl rfl fun H4 h4 => ?_
 refine aK h4 ac rfl rfl fun H5 h5 => ?_
 refine aK h5 ac rfl rfl fun H6 h6 => ?_
 refine af h6 (jq x P g (σ.mem (σ.μ.acc t.who 1 (12, (k.obj : Int), 0))) t { k with h := σ.μ.V (12, (k.obj : Int), 0), mark := now, a := 18 } hl b hob hb) fun _ H7 h7 => ?_
 refine aI ac ?_
 refine aE h7 rfl ?_
 refine aA h6 h7 (by rfl) ?_
 refine aI ac ?_
 refine aE h7 rfl ?_
 refine aA h6 h7 (by rfl) ?_
 refine af h7 (HP (p := P) (σ := σ.mem (σ.μ.acc t.who 1 (12, (k.obj : Int), 0))) hl hob hb (CF g.m k.obj b (az σ k.obj) k.w (σ.μ.V (12, (k.obj : Int), 0)) (by rw [hw0]; exact T.w) (S.cells _ hob).2)) fun _ H8 h8 => ?_
 rw [hobj, hw0] at h8
 rw [hobj, hw0]
 cases hf : lr t.w (σ.μ.V (12, (t.obj : Int), 0)) (az σ t.obj).length
 ·with_reducible repeat refine gg ?_
  rw [Bool.not_false]
  with_reducible repeat refine gg ?_
  refine aK h8 ac rfl rfl fun H9 h9 => ?_
  refine ag (jd ..) ?_
  exact ap (cO (g := g) (σ' := ia σ t) (t' := { t with at' := 7 }) (k := { k with a := 7, obj := t.obj, w := t.w, h := σ.μ.V (12, (t.obj : Int), 0), mark := now }) (by simp only [ak, hat, lq, hf]; rfl) (by simp [fX]) (aJ (σ := σ) hg (by simp) rfl) h9.to)
 ·with_reducible repeat refine gg ?_
  rw [Bool.not_true]
  with_reducible repeat refine gg ?_
  refine ag (jd ..) ?_
  exact ap (cO (g := g) (σ' := ia σ t) (t' := { t with at' := 18, mark := now }) (k := { k with a := 18, obj := t.obj, w := t.w, h := σ.μ.V (12, (t.obj : Int), 0), mark := now }) (by simp only [ak, hat, lq, hf]; rfl) (by simp [fX, hq]) (aJ (σ := σ) hg (by simp) rfl) h8.to)
theorem adW (S : SOk σ) (T : fY σ t) (hat : t.at' = 18) : Sp dB [vp x, vi now] (xP x P σ t) (fun _ : Unit => vb (ak σ t now).2.2) (fun _ => xQ x P (ak σ t now)) := by
 have hN : σ.μ.N < 1099511627000 := by have := S.N; omega
 refine av fun R H h => ?_
 obtain ⟨k, g, hR, hg, h0⟩ := cf h
 have hl := hg.1
 simp only [fX, hat] at hR
 obtain ⟨ha, hobj, hq, hm⟩ := hR
 have ho := T.obj (.inl (by omega))
 have hob : k.obj < σ.obs.length := by omega
 obtain ⟨b, hb⟩ : ∃ b, g.rp[k.obj]? = some b := ⟨_, List.getElem?_eq_getElem (by omega)⟩
 refine bF x P g σ t k now S T (by omega) h0 fun b1 H1 h1 => ?_
 refine WJ (by omega) ?_
 refine aa (aS (by omega)) ?_
 with_reducible repeat refine gg ?_
 refine aa (aS (by omega)) ?_
 with_reducible repeat refine gg ?_
 refine aa (aS (by omega)) ?_
 with_reducible repeat refine gg ?_
 refine aa (bp (by omega)) ?_
 refine ag (kV ..) ?_
 with_reducible repeat refine gg ?_
 refine mj ?_
 refine aw (fun r => G9 _ _ H1) ?_
 refine ag (qL ..) ?_
 refine am h1 ac rfl ?_
 refine ag (qM ..) ?_
 refine aa (aS (by omega)) ?_
 with_reducible repeat refine gg ?_
 refine aa (aS (by omega)) ?_
 with_reducible repeat refine gg ?_
 refine aa (aS (by omega)) ?_
 with_reducible repeat refine gg ?_
 refine aa (bp (by omega)) ?_
 with_reducible repeat refine gg ?_
 refine am h1 ac rfl ?_
 refine am h1 ac rfl ?_
 refine af h1 (CD P g σ t.who S.N) fun _ H2 h2 => ?_
 refine aI ac ?_
 refine aE h2 rfl ?_
 refine aA h1 h2 (by rfl) ?_
 by_cases hw : σ.μ.V (2, 0, 0) = t.q
 ·refine aa (bp (show ((σ.μ.V (2, 0, 0) : Nat) : Int) = (k.q : Int) by omega)) ?_
  with_reducible repeat refine gg ?_
  refine am h2 ac rfl ?_
  rw [hm]
  refine af h2 (zo x P g (oK σ t) t k (aJ (σ := σ) hg (by simp) rfl) t.mark 9 (by have := S.N; show σ.μ.N + 2 < _; omega) S.pts) fun v H3 h3 => ?_
  exact ap (CB (g := { g with pv := v }) (k := { k with code := 9 }) (σ' := (oK σ t).note t.mark t.who 9) (t' := { t with code := 9 }) (by simp only [ak, hat]; rw [if_pos hw]) rfl (kS (σ := σ) hg (by simp) rfl) h3.to)
 ·refine aa (aS (show ¬ ((σ.μ.V (2, 0, 0) : Nat) : Int) = (k.q : Int) by omega)) ?_
  with_reducible repeat refine gg ?_
  refine aK h2 ac rfl rfl fun H3 h3 => ?_
  refine ag (jd ..) ?_
  exact ap (cO (g := g) (σ' := oK σ t) (t' := { t with at' := 7 }) (k := { k with a := 7 }) (by simp only [ak, hat]; rw [if_neg hw]) (by simp [fX, hobj]) (aJ (σ := σ) hg (by simp) rfl) h3.to)
theorem adX (S : SOk σ) (T : fY σ t) (hat : t.at' = 20) : Sp dB [vp x, vi now] (xP x P σ t) (fun _ : Unit => vb (ak σ t now).2.2) (fun _ => xQ x P (ak σ t now)) := by
 have hN : σ.μ.N < 1099511627000 := by have := S.N; omega
 refine av fun R H h => ?_
 obtain ⟨k, g, hR, hg, h0⟩ := cf h
 have hl := hg.1
 simp only [fX, hat] at hR
 obtain ⟨ha, hobj⟩ := hR
 have ho := T.obj (.inl (by omega))
 have hob : k.obj < σ.obs.length := by omega
 obtain ⟨b, hb⟩ : ∃ b, g.rp[k.obj]? = some b := ⟨_, List.getElem?_eq_getElem (by omega)⟩
 refine bF x P g σ t k now S T (by omega) h0 fun b1 H1 h1 => ?_
 refine chw (by omega) ?_
 refine mj ?_
 refine aw (fun r => wm _ _ H1) ?_
 refine am h1 ac rfl ?_
 refine ag (km ..) ?_
 refine am h1 ac rfl ?_
 refine ag (kp ..) ?_
 refine aa (bp (by omega)) ?_
 with_reducible repeat refine gg ?_
 refine am h1 ac rfl ?_
 refine am h1 ac rfl ?_
 refine af h1 (u1 (p := P) (g := g) (σ := σ) (μ' := σ.μ.cnt t.who (3, 0, 0) 1) (L := σ.μ.N) (by simp) (CC g.ib g.m σ.c.sh σ.nx σ.μ.N σ.μ t.who hN)) fun _ H2 h2 => ?_
 refine aK h2 ac rfl rfl fun H3 h3 => ?_
 refine ag (ko ..) ?_
 exact ap (cO (g := g) (σ' := σ.mem (σ.μ.cnt t.who (3, 0, 0) 1)) (t' := { t with at' := 7 }) (k := { k with a := 7 }) (by simp only [ak, hat]) (by simp [fX, hobj]) (aJ (σ := σ) hg (by simp) rfl) h3.to)
theorem adY (S : SOk σ) (T : fY σ t) (hat : t.at' = 21) : Sp dB [vp x, vi now] (xP x P σ t) (fun _ : Unit => vb (ak σ t now).2.2) (fun _ => xQ x P (ak σ t now)) := by
 have hN : σ.μ.N < 1099511627000 := by have := S.N; omega
 refine av fun R H h => ?_
 obtain ⟨k, g, hR, hg, h0⟩ := cf h
 have hl := hg.1
 simp only [fX, hat] at hR
 obtain ⟨ha, hobj, hw0, hcode⟩ := hR
 have ho := T.obj (.inl (by omega))
 have hob : k.obj < σ.obs.length := by omega
 obtain ⟨b, hb⟩ : ∃ b, g.rp[k.obj]? = some b := ⟨_, List.getElem?_eq_getElem (by omega)⟩
 refine bF x P g σ t k now S T (by omega) h0 fun b1 H1 h1 => ?_
 refine chw (by omega) ?_
 refine mj ?_
 refine aw (fun r => wm _ _ H1) ?_
 refine am h1 ac rfl ?_
 refine ag (km ..) ?_
 refine am h1 ac rfl ?_
 refine ag (kp ..) ?_
 refine aa (aS (by omega)) ?_
 with_reducible repeat refine gg ?_
 refine aa (bp (by omega)) ?_
 with_reducible repeat refine gg ?_
 refine af h1 (jq x P g σ t k hl b hob hb) fun _ H2 h2 => ?_
 refine aI ac ?_
 refine aE h2 rfl ?_
 refine aA h1 h2 (by rfl) ?_
 refine af h2 (uW x P t k (by rw [hw0]; exact T.w)) fun _ H3 h3 => ?_
 refine aA h3 h2 (by rfl) ?_
 have hwc := dc k.w
 refine af h3 (g8 (p := P) (μ' := (σ.μ.acc t.who 2 (15, (k.obj : Int), ((aR k.w % (az σ k.obj).length : Nat) : Int))).put (15, (k.obj : Int), ((aR k.w % (az σ k.obj).length : Nat) : Int)) (aR k.w + 1)) (by simp) hl hob hb (CH g.m k.obj b (az σ k.obj) σ.μ t.who (aR k.w) (by omega) (S.cells _ hob) hN)) fun _ H4 h4 => ?_
 refine aK h4 ac rfl rfl fun H5 h5 => ?_
 refine ag (ko ..) ?_
 rw [hobj, hw0] at h5
 exact ap (cO (g := g) (σ' := xu σ t) (t' := { t with at' := 22 }) (k := { k with a := 22, obj := t.obj, w := t.w }) (by simp only [ak, hat]) (by simp [fX, hcode]) (aJ (σ := σ) hg (by simp) rfl) h5.to)
theorem adZ (S : SOk σ) (T : fY σ t) (hat : t.at' = 22) : Sp dB [vp x, vi now] (xP x P σ t) (fun _ : Unit => vb (ak σ t now).2.2) (fun _ => xQ x P (ak σ t now)) := by
 have hN : σ.μ.N < 1099511627000 := by have := S.N; omega
 refine av fun R H h => ?_
 obtain ⟨k, g, hR, hg, h0⟩ := cf h
 have hl := hg.1
 simp only [fX, hat] at hR
 obtain ⟨ha, hobj, hcode⟩ := hR
 have ho := T.obj (.inl (by omega))
 have hob : k.obj < σ.obs.length := by omega
 obtain ⟨b, hb⟩ : ∃ b, g.rp[k.obj]? = some b := ⟨_, List.getElem?_eq_getElem (by omega)⟩
 refine bF x P g σ t k now S T (by omega) h0 fun b1 H1 h1 => ?_
 refine chw (by omega) ?_
 refine mj ?_
 refine aw (fun r => wm _ _ H1) ?_
 refine am h1 ac rfl ?_
 refine ag (km ..) ?_
 refine am h1 ac rfl ?_
 refine ag (kp ..) ?_
 refine aa (aS (by omega)) ?_
 with_reducible repeat refine gg ?_
 refine aa (aS (by omega)) ?_
 with_reducible repeat refine gg ?_
 refine aa (bp (by omega)) ?_
 with_reducible repeat refine gg ?_
 refine am h1 ac rfl ?_
 refine am h1 ac rfl ?_
 refine af h1 (u1 (p := P) (g := g) (σ := σ) (μ' := σ.μ.acc t.who 1 (9, t.s, 0)) (L := σ.μ.N) (by simp) (ON g.ib g.m σ.c.sh σ.nx σ.μ.N σ.μ t.who t.s hN)) fun _ H2 h2 => ?_
 refine aK h2 ac rfl rfl fun H3 h3 => ?_
 refine aK h3 ac rfl rfl fun H4 h4 => ?_
 refine ag (ko ..) ?_
 exact ap (cO (g := g) (σ' := σ.mem (σ.μ.acc t.who 1 (9, t.s, 0))) (t' := { t with at' := 23, top := σ.μ.V (9, t.s, 0) }) (k := { k with a := 23, top := σ.μ.V (9, t.s, 0) }) (by simp only [ak, hat]) (by simp [fX, hobj, hcode]) (aJ (σ := σ) hg (by simp) rfl) h4.to)
theorem ad0 (S : SOk σ) (T : fY σ t) (hat : t.at' = 23) : Sp dB [vp x, vi now] (xP x P σ t) (fun _ : Unit => vb (ak σ t now).2.2) (fun _ => xQ x P (ak σ t now)) := by
 have hN : σ.μ.N < 1099511627000 := by have := S.N; omega
 refine av fun R H h => ?_
 obtain ⟨k, g, hR, hg, h0⟩ := cf h
 have hl := hg.1
 simp only [fX, hat] at hR
 obtain ⟨ha, hobj, htop, hcode⟩ := hR
 have ho := T.obj (.inl (by omega))
 have hob : k.obj < σ.obs.length := by omega
 obtain ⟨b, hb⟩ : ∃ b, g.rp[k.obj]? = some b := ⟨_, List.getElem?_eq_getElem (by omega)⟩
 refine bF x P g σ t k now S T (by omega) h0 fun b1 H1 h1 => ?_
 refine chw (by omega) ?_
 refine mj ?_
 refine aw (fun r => wm _ _ H1) ?_
 refine am h1 ac rfl ?_
 refine ag (km ..) ?_
 refine am h1 ac rfl ?_
 refine ag (kp ..) ?_
 refine aa (aS (by omega)) ?_
 with_reducible repeat refine gg ?_
 refine aa (aS (by omega)) ?_
 with_reducible repeat refine gg ?_
 refine aa (aS (by omega)) ?_
 with_reducible repeat refine gg ?_
 refine aa (bp (by omega)) ?_
 with_reducible repeat refine gg ?_
 refine am h1 ac rfl ?_
 refine am h1 ac rfl ?_
 refine am h1 ac rfl ?_
 refine am h1 ac rfl ?_
 refine af h1 (u1 (p := P) (g := g) (σ := σ) (μ' := σ.μ.acc t.who 6 (14, (k.obj : Int), 0)) (L := σ.μ.N + 1) (by simp) (KL g.ib g.m σ.c.sh σ.nx σ.μ.N σ.μ t.who k.obj k.top (by have := S.N; omega) hN)) fun _ H2 h2 => ?_
 refine aK h2 ac rfl rfl fun H3 h3 => ?_
 refine ag (ko ..) ?_
 rw [hobj, htop] at h3
 exact ap (cO (g := g) (σ' := { σ with μ := σ.μ.acc t.who 6 (14, (t.obj : Int), 0), nx := fun k => if k = (t.obj : Int) then some t.top else σ.nx k }) (t' := { t with at' := 24 }) (k := { k with a := 24, obj := t.obj, top := t.top }) (by simp only [ak, hat]) (by simp [fX, hcode]) (aJ (σ := σ) hg (by simp) rfl) h3.to)
theorem ad1 (S : SOk σ) (T : fY σ t) (hat : t.at' = 24) : Sp dB [vp x, vi now] (xP x P σ t) (fun _ : Unit => vb (ak σ t now).2.2) (fun _ => xQ x P (ak σ t now)) := by
 have hN : σ.μ.N < 1099511627000 := by have := S.N; omega
 refine av fun R H h => ?_
 obtain ⟨k, g, hR, hg, h0⟩ := cf h
 have hl := hg.1
 simp only [fX, hat] at hR
 obtain ⟨ha, hobj, htop, hcode⟩ := hR
 have ho := T.obj (.inl (by omega))
 have hob : k.obj < σ.obs.length := by omega
 obtain ⟨b, hb⟩ : ∃ b, g.rp[k.obj]? = some b := ⟨_, List.getElem?_eq_getElem (by omega)⟩
 refine bF x P g σ t k now S T (by omega) h0 fun b1 H1 h1 => ?_
 refine chw (by omega) ?_
 refine mj ?_
 refine aw (fun r => wm _ _ H1) ?_
 refine am h1 ac rfl ?_
 refine ag (km ..) ?_
 refine am h1 ac rfl ?_
 refine ag (kp ..) ?_
 refine aa (aS (by omega)) ?_
 with_reducible repeat refine gg ?_
 refine aa (aS (by omega)) ?_
 with_reducible repeat refine gg ?_
 refine aa (aS (by omega)) ?_
 with_reducible repeat refine gg ?_
 refine aa (aS (by omega)) ?_
 with_reducible repeat refine gg ?_
 refine aa (bp (by omega)) ?_
 with_reducible repeat refine gg ?_
 refine aK h1 ac rfl rfl fun H2 h2 => ?_
 refine am h2 ac rfl ?_
 refine am h2 ac rfl ?_
 refine am h2 ac rfl ?_
 refine am h2 ac rfl ?_
 refine af h2 (u1 (p := P) (g := g) (σ := σ) (μ' := σ.μ.swp t.who (9, t.s, 0) k.top (k.obj + 1)) (L := σ.μ.N) (by simp) (KM g.ib g.m σ.c.sh σ.nx σ.μ.N σ.μ t.who t.s k.top k.obj (by have := S.obs; omega) hN)) fun _ H3 h3 => ?_
 rw [hobj, htop] at h3
 rw [htop]
 by_cases hw : σ.μ.V (9, t.s, 0) = t.top
 ·rw [decide_eq_true hw]
  with_reducible repeat refine gg ?_
  refine aK h3 ac rfl rfl fun H4 h4 => ?_
  refine ag (ko ..) ?_
  exact ap (cO (g := g) (σ' := σ.mem (σ.μ.swp t.who (9, t.s, 0) t.top (t.obj + 1))) (t' := { t with at' := 25 }) (k := { k with a := 25, obj := t.obj, top := t.top }) (by simp only [ak, hat]; rw [if_pos hw]) (by simp [fX, hcode]) (aJ (σ := σ) hg (by simp) rfl) h4.to)
 ·rw [decide_eq_false hw]
  with_reducible repeat refine gg ?_
  refine ag (ko ..) ?_
  exact ap (cO (g := g) (σ' := σ.mem (σ.μ.swp t.who (9, t.s, 0) t.top (t.obj + 1))) (t' := { t with at' := 22 }) (k := { k with a := 22, obj := t.obj, top := t.top }) (by simp only [ak, hat]; rw [if_neg hw]) (by simp [fX, hcode]) (aJ (σ := σ) hg (by simp) rfl) h3.to)
theorem ad2 (S : SOk σ) (T : fY σ t) (hat : t.at' = 25) : Sp dB [vp x, vi now] (xP x P σ t) (fun _ : Unit => vb (ak σ t now).2.2) (fun _ => xQ x P (ak σ t now)) := by
 have hN : σ.μ.N < 1099511627000 := by have := S.N; omega
 refine av fun R H h => ?_
 obtain ⟨k, g, hR, hg, h0⟩ := cf h
 have hl := hg.1
 simp only [fX, hat] at hR
 obtain ⟨ha, hcode⟩ := hR
 refine bF x P g σ t k now S T (by omega) h0 fun b1 H1 h1 => ?_
 refine chw (by omega) ?_
 refine mj ?_
 refine aw (fun r => wm _ _ H1) ?_
 refine am h1 ac rfl ?_
 refine ag (km ..) ?_
 refine am h1 ac rfl ?_
 refine ag (kp ..) ?_
 refine aa (aS (by omega)) ?_
 with_reducible repeat refine gg ?_
 refine aa (aS (by omega)) ?_
 with_reducible repeat refine gg ?_
 refine aa (aS (by omega)) ?_
 with_reducible repeat refine gg ?_
 refine aa (aS (by omega)) ?_
 with_reducible repeat refine gg ?_
 refine aa (aS (by omega)) ?_
 with_reducible repeat refine gg ?_
 refine aa (bp (by omega)) ?_
 with_reducible repeat refine gg ?_
 refine am h1 ac rfl ?_
 refine am h1 ac rfl ?_
 refine af h1 (u1 (p := P) (g := g) (σ := σ) (μ' := σ.μ.cnt t.who (3, 0, 0) 1) (L := σ.μ.N) (by simp) (CC g.ib g.m σ.c.sh σ.nx σ.μ.N σ.μ t.who hN)) fun _ H2 h2 => ?_
 exact ap (CB (g := g) (k := k) (σ' := σ.mem (σ.μ.cnt t.who (3, 0, 0) 1)) (t' := t) (by simp only [ak, hat]) hcode (aJ (σ := σ) hg (by simp) rfl) h2.to)
theorem adN {R : SP} {H1 : AH} {b1 : Nat} {sv : Value} (g : XIds) (k : Xk) (S : SOk σ) (T : fY σ t) (hg : fH g σ) (ha : k.a = 2) (hI : k.I = t.i) (hh : k.hit = false) (hi : (t.i : Int) < σ.c.sl)
 (h1 : ae (blk b1 (.cells false [vi t.x.flow, vi t.x.a, vi t.x.b]) * (xB x P t k * (ay P g σ * R))) H1) :
 wp (NN (vp x) (vi now) (vb false) (vp P) sv (vp b1) (vi k.a) (vb true) H1) fun v' H' => ∃ y : Unit, v' = vb (e6 σ t).2.2 ∧ ae (xQ x P (e6 σ t) * R) H' := by
 refine ag (nb ..) ?_
 with_reducible repeat refine gg ?_
 refine af h1 (Sc x P g σ t k S T hI hi) fun k2 H2 h2 => ?_
 rw [ar, ae.pu] at h2
 obtain ⟨hX, h2⟩ := h2
 obtain ⟨x1, x2, x3, x4, x5, x6, x7, x8⟩ := hX
 refine aa (v := vb (aM σ t).found) rfl ?_
 refine aa (v := vb (!(aM σ t).found && dI σ (aM σ t))) rfl ?_
 cases hf : (aM σ t).found
 ·obtain ⟨y1, y2⟩ := x8 hf
  with_reducible repeat refine gg ?_
  rw [Bool.not_false, Bool.true_and]
  cases hla : dI σ (aM σ t)
  ·with_reducible repeat refine gg ?_
   refine ag (bQ ..) ?_
   exact ap (cO (g := g) (k := k2) (σ' := cD σ t) (t' := { aM σ t with at' := 2 }) (by simp only [e6, hf, hla]; rfl) (by simp [fX, x1, ha, y1, y2, hh, hI, aM]) (aJ (σ := σ) hg (by simp) rfl) (show ae (xB x P t k2 * (ay P g (cD σ t) * R)) H2 from h2.to))
  ·with_reducible repeat refine gg ?_
   refine aK h2 ac rfl rfl fun H3 h3 => ?_
   refine ag (bQ ..) ?_
   exact ap (cO (g := g) (k := { k2 with a := 3 }) (σ' := cD σ t) (t' := { aM σ t with at' := 3 }) (by simp only [e6, hf, hla]; rfl) (by simp [fX]) (aJ (σ := σ) hg (by simp) rfl) (show ae (xB x P t { k2 with a := 3 } * (ay P g (cD σ t) * R)) H3 from h3.to))
 ·obtain ⟨y1, y2⟩ := x7 hf
  with_reducible repeat refine gg ?_
  refine aK h2 ac rfl rfl fun H3 h3 => ?_
  refine ag (bQ ..) ?_
  exact ap (cO (g := g) (k := { k2 with a := 6 }) (σ' := cD σ t) (t' := { aM σ t with at' := 6 }) (by simp only [e6, hf]; rfl) (by simp [fX, y2]) (aJ (σ := σ) hg (by simp) rfl) (show ae (xB x P t { k2 with a := 6 } * (ay P g (cD σ t) * R)) H3 from h3.to))
theorem agM (S : SOk σ) (T : fY σ t) (hat : t.at' = 2) : Sp dB [vp x, vi now] (xP x P σ t) (fun _ : Unit => vb (ak σ t now).2.2) (fun _ => xQ x P (ak σ t now)) := by
 have hN : σ.μ.N < 1099511627000 := by have := S.N; omega
 refine av fun R H h => ?_
 obtain ⟨k, g, hR, hg, h0⟩ := cf h
 have hl := hg.1
 simp only [fX, hat] at hR
 obtain ⟨ha, hI, hh⟩ := hR
 have hi := T.i (by omega) (by omega)
 have hs : ak σ t now = e6 σ t := by simp only [ak, hat, e6]
 rw [hs]
 refine bF x P g σ t k now S T (by omega) h0 fun b1 H1 h1 => ?_
 refine ag (kj ..) ?_
 refine aa (bp (by omega)) ?_
 exact adN x P σ t now g k S T hg ha hI hh hi h1
theorem agO (S : SOk σ) (T : fY σ t) (hat : t.at' = 4) : Sp dB [vp x, vi now] (xP x P σ t) (fun _ : Unit => vb (ak σ t now).2.2) (fun _ => xQ x P (ak σ t now)) := by
 have hN : σ.μ.N < 1099511627000 := by have := S.N; omega
 refine av fun R H h => ?_
 obtain ⟨k, g, hR, hg, h0⟩ := cf h
 have hl := hg.1
 simp only [fX, hat] at hR
 obtain ⟨ha, hI, hh⟩ := hR
 have hi := T.i (by omega) (by omega)
 refine bF x P g σ t k now S T (by omega) h0 fun b1 H1 h1 => ?_
 refine ag (kj ..) ?_
 refine aa (aS (by omega)) ?_
 refine ag (nb ..) ?_
 with_reducible repeat refine gg ?_
 refine aa (aS (by omega)) ?_
 refine ag (nU ..) ?_
 with_reducible repeat refine gg ?_
 refine aa (bp (by omega)) ?_
 refine ag (sJ ..) ?_
 with_reducible repeat refine gg ?_
 refine af h1 (Sc x P g σ t k S T hI hi) fun k2 H2 h2 => ?_
 rw [ar, ae.pu] at h2
 obtain ⟨hX, h2⟩ := h2
 obtain ⟨x1, x2, x3, x4, x5, x6, x7, x8⟩ := hX
 refine aa (v := vb (aM σ t).found) rfl ?_
 refine aa (v := vb (!(aM σ t).found && dI σ (aM σ t))) rfl ?_
 cases hf : (aM σ t).found
 ·obtain ⟨y1, y2⟩ := x8 hf
  with_reducible repeat refine gg ?_
  rw [Bool.not_false, Bool.true_and]
  cases hla : dI σ (aM σ t)
  ·with_reducible repeat refine gg ?_
   refine ag (bQ ..) ?_
   exact ap (cO (g := g) (k := k2) (σ' := cD σ t) (t' := aM σ t) (by simp only [ak, hat, hf, hla]; rfl) (by simp [fX, x1, ha, y1, y2, hh, hI, aM, hat]) (aJ (σ := σ) hg (by simp) rfl) (show ae (xB x P t k2 * (ay P g (cD σ t) * R)) H2 from h2.to))
  ·with_reducible repeat refine gg ?_
   refine af h2 (zo x P g (cD σ t) t k2 (aJ (σ := σ) hg (by simp) rfl) now 5 (by have := S.N; show σ.μ.N + 2 < _; omega) S.pts) fun v H3 h3 => ?_
   refine aK h3 ac rfl rfl fun H4 h4 => ?_
   refine ag (bQ ..) ?_
   exact ap (cO (g := { g with pv := v }) (k := { k2 with a := 5, code := 5 }) (σ' := (cD σ t).note now t.who 5) (t' := { aM σ t with at' := 5, code := 5 }) (by simp only [ak, hat, hf, hla]; rfl) (by simp [fX, hf, y1, hh]) (kS (σ := σ) hg (by simp) rfl) (show ae (xB x P t { k2 with a := 5, code := 5 } * (ay P { g with pv := v } ((cD σ t).note now t.who 5) * R)) H4 from h4.to))
 ·obtain ⟨y1, y2⟩ := x7 hf
  with_reducible repeat refine gg ?_
  refine aK h2 ac rfl rfl fun H3 h3 => ?_
  refine ag (bQ ..) ?_
  exact ap (cO (g := g) (k := { k2 with a := 5 }) (σ' := cD σ t) (t' := { aM σ t with at' := 5 }) (by simp only [ak, hat, hf]; rfl) (by simp [fX, hf, y1, y2]) (aJ (σ := σ) hg (by simp) rfl) (show ae (xB x P t { k2 with a := 5 } * (ay P g (cD σ t) * R)) H3 from h3.to))
theorem agL (S : SOk σ) (T : fY σ t) (hat : t.at' = 0) : Sp dB [vp x, vi now] (xP x P σ t) (fun _ : Unit => vb (ak σ t now).2.2) (fun _ => xQ x P (ak σ t now)) := by
 have hN : σ.μ.N < 1099511627000 := by have := S.N; omega
 refine av fun R H h => ?_
 obtain ⟨k, g, hR, hg, h0⟩ := cf h
 have hl := hg.1
 simp only [fX, hat] at hR
 obtain ⟨ha, hI, hh⟩ := hR
 have hi := T.i (by omega) (by omega)
 refine KJ x P g σ t k now S T h0 fun b1 H1 h1 => ?_
 refine ag (Ee ..) ?_
 refine am h1 ac rfl ?_
 refine aa (bp (by omega)) ?_
 with_reducible repeat refine gg ?_
 have fin : ∀ code, dN t.x = some code → wp ((FF cr [vp x, vi now, vi code] H1).bind fun r125 => some ((vb true), r125.2)) fun v' H' => ∃ y : Unit, v' = vb (ak σ t now).2.2 ∧ ae (xQ x P (ak σ t now) * R) H' := by
  intro code hx
  refine af h1 (zo x P g σ t k hg now code (by have := S.N; omega) S.pts) fun v H2 h2 => ?_
  exact ap (CB (g := { g with pv := v }) (k := { k with code := code }) (σ' := σ.note now t.who code) (t' := { t with code := code }) (by simp only [ak, hat, hx]) rfl (kS (σ := σ) hg (Nat.le_refl _) rfl) h2.to)
 refine am h1 (fK (bW (bW bZ))) rfl ?_
 by_cases ha1 : t.x.a < 1
 ·refine aa (bI ha1) ?_
  with_reducible repeat refine gg ?_
  exact fin 3 (by rw [dN, if_pos (.inl ha1)])
 ·refine aa (bu ha1) ?_
  with_reducible repeat refine gg ?_
  refine am h1 (fK (bW (bW bZ))) rfl ?_
  with_reducible repeat refine gg ?_
  by_cases ha2 : 65536 < t.x.a
  ·refine aa (mJ ha2) ?_
   with_reducible repeat refine gg ?_
   exact fin 3 (by rw [dN, if_pos (.inr ha2)])
  ·refine aa (gT ha2) ?_
   with_reducible repeat refine gg ?_
   refine am h1 (fK (bW (bW bZ))) rfl ?_
   by_cases hf : t.x.flow < 0
   ·refine aa (bI hf) ?_
    with_reducible repeat refine gg ?_
    exact fin 5 (by rw [dN, if_neg (by omega), if_pos (.inl hf)])
   ·refine aa (bu hf) ?_
    with_reducible repeat refine gg ?_
    refine am h1 (fK (bW (bW bZ))) rfl ?_
    with_reducible repeat refine gg ?_
    by_cases hf2 : 1048576 < t.x.flow
    ·refine aa (mJ hf2) ?_
     with_reducible repeat refine gg ?_
     exact fin 5 (by rw [dN, if_neg (by omega), if_pos (.inr hf2)])
    ·refine aa (gT hf2) ?_
     with_reducible repeat refine gg ?_
     have hx : dN t.x = none := by rw [dN, if_neg (by omega), if_neg (by omega)]
     have hs : ak σ t now = e6 σ t := by simp only [ak, hat, hx, e6]
     rw [hs]
     refine aK h1 ac rfl rfl fun H2 h2 => ?_
     refine ag (Ef ..) ?_
     refine am h2 ac rfl ?_
     refine ag (kj ..) ?_
     refine aa (bp (by omega)) ?_
     exact adN x P σ t now g { k with a := 2 } S T hg rfl hI hh hi h2.to
theorem Wd (S : SOk σ) (T : fY σ t) : Sp dB [vp x, vi now] (xP x P σ t) (fun _ : Unit => vb (ak σ t now).2.2) (fun _ => xQ x P (ak σ t now)) := by
 rcases T.ats with hat | hat | hat | hat | hat | hat | hat | hat | hat | hat | hat | hat | hat | hat | hat | hat | hat | hat | hat | hat | hat | hat | hat | hat
 ·exact agL x P σ t now S T hat
 ·exact agM x P σ t now S T hat
 ·exact agN x P σ t now S T hat
 ·exact agO x P σ t now S T hat
 ·exact agP x P σ t now S T hat
 ·exact agQ x P σ t now S T hat
 ·exact agR x P σ t now S T hat
 ·exact agS x P σ t now S T hat
 ·exact agT x P σ t now S T hat
 ·exact adO x P σ t now S T hat
 ·exact adP x P σ t now S T hat
 ·exact adQ x P σ t now S T hat
 ·exact adR x P σ t now S T hat
 ·exact adS x P σ t now S T hat
 ·exact adT x P σ t now S T hat
 ·exact adU x P σ t now S T hat
 ·exact adV x P σ t now S T hat
 ·exact adW x P σ t now S T hat
 ·exact adX x P σ t now S T hat
 ·exact adY x P σ t now S T hat
 ·exact adZ x P σ t now S T hat
 ·exact ad0 x P σ t now S T hat
 ·exact ad1 x P σ t now S T hat
 ·exact ad2 x P σ t now S T hat
end
theorem EZ (s : Value) (l : List Ev) (hl : l.length ≤ 1000000) : Sp aaP [s] (ts 5 Ev.cells s l) (fun v : Value => v) (fun v => ts 5 Ev.cells v l * ts 5 Ev.cells s l) := by
 refine av fun R H h => ?_
 refine aw (fun r => ajK _ H) ?_
 rcases lR h (enc := Ev.cells) (s := s) with ⟨rfl, rfl, h1⟩ | ⟨b, rfl, h1⟩
 ·refine aa (v := vb true) rfl ?_
  with_reducible repeat refine gg ?_
  exact ap ⟨_, rfl, by have := cY 5 Ev.cells (cY 5 Ev.cells h1); exact this.to⟩
 ·refine aa (v := vb false) rfl ?_
  with_reducible repeat refine gg ?_
  refine EN (cs := []) h rfl fun b2 H2 h2 => ?_
  have h3 := qP (e := 5) (enc := Ev.cells) (l := []) h2
  refine wC (s := vs b2 0 5) (l := ([] : List Ev)) (m := l) h3 ?_ (by omega) fun v H4 h4 => ?_
  ·unfold cp; simp; omega
  rw [List.nil_append] at h4
  exact ap ⟨v, rfl, h4.to⟩
theorem Nc (m : Nat) (μ : Mu) (hE : μ.E.length ≤ 1000000) : Sp fC [vp m] (bd m μ) (fun v : Value => v) (fun v => ts 5 Ev.cells v μ.E * bd m μ) := by
 refine av fun R H h => ?_
 obtain ⟨⟨c, l, al, es, ck⟩, h1⟩ := ae.ex.1 h
 rw [ar, ae.pu] at h1
 obtain ⟨hp, h1⟩ := h1
 dsimp only at h1
 have h2 : ae (blk m (.cells false [.map (some c), l]) * (blk c (.map es ck) * ts 5 Ev.cells l μ.E) * R) H := h1
 refine aw (fun r => t3 _ H) ?_
 refine am h2 ac rfl ?_
 refine af h2 (EZ l μ.E hE) fun v H3 h3 => ?_
 refine ap ⟨v, rfl, ?_⟩
 have h4 : ae (bd m μ * (ts 5 Ev.cells v μ.E * R)) H3 := by
  refine ae.ex.2 ⟨(c, l, al, es, ck), ?_⟩
  rw [ar, ae.pu]
  refine ⟨hp, ?_⟩
  have h5 : ae (blk m (.cells false [.map (some c), l]) * (blk c (.map es ck) * ts 5 Ev.cells l μ.E) * (ts 5 Ev.cells v μ.E * R)) H3 := h3.to
  exact h5
 exact h4.to
theorem Ly (x : Ev) : Sp bE [.agg (Ev.cells x).toArray, .agg (Ev.cells x).toArray] emp (fun _ : Unit => vb true) (fun _ => emp) := by
 refine av fun R H h => ?_
 refine aw (fun r => lX _ _ H) ?_
 refine aG (l := [vi x.who, vi x.kind, vi x.loc.1, vi x.loc.2.1, vi x.loc.2.2]) h fun b1 H1 h1 => ?_
 refine aG (l := [vi x.who, vi x.kind, vi x.loc.1, vi x.loc.2.1, vi x.loc.2.2]) h1 fun b2 H2 h2 => ?_
 refine aL h2 ?_
 refine aL h2 ?_
 refine aa (v := vb true) ?_ ?_
 ·show (nP (.flat 5) (.agg #[vi x.who, vi x.kind, vi x.loc.1, vi x.loc.2.1, vi x.loc.2.2]) (.agg #[vi x.who, vi x.kind, vi x.loc.1, vi x.loc.2.1, vi x.loc.2.2])).map (fun b => Value.bool b) = _
  simp only [nP]
  rw [if_pos ⟨rfl, rfl⟩]
  simp [bn]
 exact ap ⟨(), rfl, h2.to⟩
theorem Is {P : SP} (s1 s2 : Value) (l : List Ev) (hl : l.length ≤ 1000000) [r1 : Rd P s1 5 Ev.cells l] [r2 : Rd P s2 5 Ev.cells l] {H : AH} (h : ae P H) {k : Value × AH → OV} {Q : Value → AH → Prop} (hk : ∀ H', ae P H' → wp (k (vb true, H')) Q) :
 wp ((FF dm [s1, s2] H).bind k) Q := by
 have same : Sp sf [s1, s2, .func (.func bE) #[] #[]] P (fun _ : Unit => vb true) (fun _ => P) := by
  refine av fun R H h => ?_
  refine aw (fun r => Je _ _ _ H) ?_
  refine dH (s := s1) (l := l) h ?_
  refine dH (s := s2) (l := l) h ?_
  refine aa (xh rfl) ?_
  with_reducible repeat refine gg ?_
  refine ag (A8 ..) ?_
  refine ag (Ba ..) ?_
  have loop : ∀ (d i : Nat) (H : AH), i + d = l.length → ae (P * R) H → wp (lu s1 s2 (.func (.func bE) #[] #[]) (vb false) (vi (i : Int)) H) fun v' H' => ∃ x : Unit, v' = vb true ∧ ae (P * R) H' := by
   intro d
   induction d with
   | zero =>
    intro i H hi hh
    refine ag (pg ..) ?_
    refine dH (s := s1) (l := l) hh ?_
    refine aa (bu (by omega)) ?_
    with_reducible repeat refine gg ?_
    refine ag (vo ..) ?_
    refine ag (A9 ..) ?_
    exact ap ⟨(), rfl, hh⟩
   | succ d ih =>
    intro i H hi hh
    have hil : i < l.length := by omega
    refine ag (pg ..) ?_
    refine dH (s := s1) (l := l) hh ?_
    refine aa (bI (by omega)) ?_
    with_reducible repeat refine gg ?_
    refine ag (Bb ..) ?_
    refine sT (s := s1) (l := l) hh hil ?_
    refine sT (s := s2) (l := l) hh hil ?_
    refine ag (show ((bM (.func (.func bE) #[] #[]) [.agg (Ev.cells l[i]).toArray, .agg (Ev.cells l[i]).toArray]).bind fun c => FF c.1 c.2 H).bind _ = (FF bE [.agg (Ev.cells l[i]).toArray, .agg (Ev.cells l[i]).toArray] H).bind _ from rfl) ?_
    refine af hh (Ly l[i]) fun _ H1 h1 => ?_
    with_reducible repeat refine gg ?_
    rw [Bool.not_true]
    with_reducible repeat refine gg ?_
    refine ag (Bc ..) ?_
    refine aa (aC (by omega) (by omega)) ?_
    exact ih (i + 1) H1 (by omega) h1.to
  exact loop l.length 0 H (by omega) h
 obtain ⟨x, H', e, h'⟩ := (av (f := dm) (args := [s1, s2]) (P := P) (v := fun _ : Unit => vb true) (Q := fun _ => P) fun R H h => by
  refine aw (fun r => nJ _ _ H) ?_
  refine af h same fun _ H1 h1 => ?_
  exact ap ⟨(), rfl, h1.to⟩) emp H (by rw [cX]; exact h)
 rw [e]
 rw [cX] at h'
 exact hk H' h'
theorem JR {P : SP} (s1 s2 : Value) (l : List Pt) (hl : l.length ≤ 1000000) [r1 : Rd P s1 7 Pt.cells l] [r2 : Rd P s2 7 Pt.cells l] {H : AH} (h : ae P H) {k : Value × AH → OV} {Q : Value → AH → Prop} (hk : ∀ H', ae P H' → wp (k (vb true, H')) Q) :
 wp ((FF nK [s1, s2, .func (.func dA) #[] #[]] H).bind k) Q := by
 have same : Sp nK [s1, s2, .func (.func dA) #[] #[]] P (fun _ : Unit => vb true) (fun _ => P) := by
  refine av fun R H h => ?_
  refine aw (fun r => Jf _ _ _ H) ?_
  refine dH (s := s1) (l := l) h ?_
  refine dH (s := s2) (l := l) h ?_
  refine aa (xh rfl) ?_
  with_reducible repeat refine gg ?_
  refine ag (Bd ..) ?_
  refine ag (Bf ..) ?_
  have loop : ∀ (d i : Nat) (H : AH), i + d = l.length → ae (P * R) H → wp (lw s1 s2 (.func (.func dA) #[] #[]) (vb false) (vi (i : Int)) H) fun v' H' => ∃ x : Unit, v' = vb true ∧ ae (P * R) H' := by
   intro d
   induction d with
   | zero =>
    intro i H hi hh
    refine ag (pi ..) ?_
    refine dH (s := s1) (l := l) hh ?_
    refine aa (bu (by omega)) ?_
    with_reducible repeat refine gg ?_
    refine ag (vq ..) ?_
    refine ag (Be ..) ?_
    exact ap ⟨(), rfl, hh⟩
   | succ d ih =>
    intro i H hi hh
    have hil : i < l.length := by omega
    refine ag (pi ..) ?_
    refine dH (s := s1) (l := l) hh ?_
    refine aa (bI (by omega)) ?_
    with_reducible repeat refine gg ?_
    refine ag (Bg ..) ?_
    refine sT (s := s1) (l := l) hh hil ?_
    refine sT (s := s2) (l := l) hh hil ?_
    refine ag (show ((bM (.func (.func dA) #[] #[]) [.agg (Pt.cells l[i]).toArray, .agg (Pt.cells l[i]).toArray]).bind fun c => FF c.1 c.2 H).bind _ = (FF dA [.agg (Pt.cells l[i]).toArray, .agg (Pt.cells l[i]).toArray] H).bind _ from rfl) ?_
    refine af hh (MS l[i]) fun _ H1 h1 => ?_
    with_reducible repeat refine gg ?_
    rw [Bool.not_true]
    with_reducible repeat refine gg ?_
    refine ag (Bh ..) ?_
    refine aa (aC (by omega) (by omega)) ?_
    exact ih (i + 1) H1 (by omega) h1.to
  exact loop l.length 0 H (by omega) h
 obtain ⟨x, H', e, h'⟩ := same emp H (by rw [cX]; exact h)
 rw [e]
 rw [cX] at h'
 exact hk H' h'
theorem Wl {p : Nat} {g : PIds} {σ : a7} (hE : σ.μ.E.length ≤ 1000000) : Sp fC [vp g.m] (aH p g σ) (fun v : Value => v) (fun v => ts 5 Ev.cells v σ.μ.E * aH p g σ) := by
 intro R H h
 unfold aH at h
 obtain ⟨x, H', h1, h2⟩ := Nc g.m σ.μ hE _ H (ae.fr (A := bd g.m σ.μ) h)
 refine ⟨x, H', h1, ?_⟩
 unfold aH
 exact h2.to
theorem D8 {x : Nat} {g : XIds} {σ : a7} {R : SP} {H : AH} (h : ae (ay x g σ * R) H) : ∃ (kv vv ev : Value) (Z : SP), ae (blk g.m (.cells false [kv, vv, ev]) * (ts 5 Ev.cells ev σ.μ.E * (blk x (.cells false [vi σ.c.sh, vi σ.c.sl, vi σ.c.wk, vi σ.c.wd, vu σ.c.un, vp g.m, vp g.ib, vp g.tb, vp g.po, vp g.co, g.ov, g.rv, g.wv, g.pv]) * (Z * R)))) H ∧
 ∀ {R' : SP} {H' : AH}, ae (blk g.m (.cells false [kv, vv, ev]) * (ts 5 Ev.cells ev σ.μ.E * (blk x (.cells false [vi σ.c.sh, vi σ.c.sl, vi σ.c.wk, vi σ.c.wd, vu σ.c.un, vp g.m, vp g.ib, vp g.tb, vp g.po, vp g.co, g.ov, g.rv, g.wv, g.pv]) * (Z * R')))) H' → ae (ay x g σ * R') H' := by
 unfold ay at h
 have h1 : ae (bi g.m σ.μ * (blk x (.cells false [vi σ.c.sh, vi σ.c.sl, vi σ.c.wk, vi σ.c.wd, vu σ.c.un, vp g.m, vp g.ib, vp g.tb, vp g.po, vp g.co, g.ov, g.rv, g.wv, g.pv]) * ((fw g.ib g.m σ.c.sh σ.nx σ.μ.N * (tab g.tb g.m σ.c.sh.toNat σ.c.sl.toNat *
  (ts 3 oT g.ov (σ.obs.map fun x => x.1) * (ts 1 lc g.rv g.rp * (iE g.m 0 (g.rp.zip (σ.obs.map fun x => x.2)) * (ts 1 da g.wv (d6 g.ws) * ts 7 Pt.cells g.pv (a8 σ.pts))))))) * R))) H := h.to
 obtain ⟨al, h2⟩ := ae.ex.1 h1
 rw [ar, ae.pu] at h2
 obtain ⟨hp, h2⟩ := h2
 obtain ⟨⟨kv, vv, ev⟩, h3⟩ := ae.ex.1 h2
 dsimp only at h3
 refine ⟨kv, vv, ev, (ts 3 E9 kv al * ts 1 Ip vv al) * (fw g.ib g.m σ.c.sh σ.nx σ.μ.N * (tab g.tb g.m σ.c.sh.toNat σ.c.sl.toNat *
  (ts 3 oT g.ov (σ.obs.map fun x => x.1) * (ts 1 lc g.rv g.rp * (iE g.m 0 (g.rp.zip (σ.obs.map fun x => x.2)) * (ts 1 da g.wv (d6 g.ws) * ts 7 Pt.cells g.pv (a8 σ.pts))))))), h3.to, fun {R' H'} h4 => ?_⟩
 unfold ay
 have h5 : ae (bi g.m σ.μ * (blk x (.cells false [vi σ.c.sh, vi σ.c.sl, vi σ.c.wk, vi σ.c.wd, vu σ.c.un, vp g.m, vp g.ib, vp g.tb, vp g.po, vp g.co, g.ov, g.rv, g.wv, g.pv]) * ((fw g.ib g.m σ.c.sh σ.nx σ.μ.N * (tab g.tb g.m σ.c.sh.toNat σ.c.sl.toNat *
  (ts 3 oT g.ov (σ.obs.map fun x => x.1) * (ts 1 lc g.rv g.rp * (iE g.m 0 (g.rp.zip (σ.obs.map fun x => x.2)) * (ts 1 da g.wv (d6 g.ws) * ts 7 Pt.cells g.pv (a8 σ.pts))))))) * R'))) H' := by
  refine ae.ex.2 ⟨al, ?_⟩
  rw [ar, ae.pu]
  refine ⟨hp, ae.ex.2 ⟨(kv, vv, ev), ?_⟩⟩
  dsimp only
  exact h4.to
 exact h5.to
theorem D7 (p x : Nat) (rp : List Nat) (σ : a7) (hE : σ.μ.E.length ≤ 1000000) (hp : σ.pts.length < 400000) :
 Sp gf [.agg [vp p, vp x].toArray] (bm p rp σ * bj x σ) (fun _ : Unit => vb true) (fun _ => bm p rp σ * bj x σ) := by
 refine av fun R H h => ?_
 refine aw (fun r => vD _ H) ?_
 refine aG (l := [vp p, vp x]) h fun b H1 h1 => ?_
 obtain ⟨g, rfl, hg, k1⟩ := ee (p := p) (rp := rp) (σ := σ) (R := bj x σ * (blk b (.cells false [vp p, vp x]) * R)) (H := H1) h1.to
 obtain ⟨gx, hgx, l1⟩ := ef (p := x) (σ := σ) (R := aH p g σ * (blk b (.cells false [vp p, vp x]) * R)) (H := H1) k1.to
 obtain ⟨kv, vv, ev, Z, m1, back⟩ := D8 (x := x) (g := gx) (σ := σ) (R := aH p g σ * (blk b (.cells false [vp p, vp x]) * R)) (H := H1) l1.to
 refine am m1 ah rfl ?_
 refine am m1 ac rfl ?_
 refine af m1 (Wl (p := p) (g := g) (σ := σ) hE) fun v H2 m2 => ?_
 refine aI ah ?_
 refine aE m2 rfl ?_
 refine aA m1 m2 (by rfl) ?_
 refine aI ac ?_
 refine aE m2 rfl ?_
 refine aA m1 m2 (by rfl) ?_
 refine aI ac ?_
 refine aE m2 rfl ?_
 refine aA m1 m2 (by rfl) ?_
 refine Is v ev σ.μ.E hE m2 fun H3 m3 => ?_
 with_reducible repeat refine gg ?_
 refine am m3 ah rfl ?_
 have m4 := back (R' := ts 5 Ev.cells v σ.μ.E * (aH p g σ * (blk b (.cells false [vp p, vp x]) * R))) (H' := H3) m3.to
 have n3 := bo (p := p) (rp := g.rp) (σ := σ) (R := ay x gx σ * (ts 5 Ev.cells v σ.μ.E * (blk b (.cells false [vp p, vp x]) * R))) (H := H3) g rfl hg m4.to
 refine nZ ?_
 refine af n3 (Nw p g.rp σ hp) fun pv H4 n4 => ?_
 refine uV ?_
 refine aI ah ?_
 refine gt ?_
 refine aE n4 rfl ?_
 refine aA n3 n4 (by rfl) ?_
 refine uV ?_
 refine aI ac ?_
 refine gt ?_
 refine aE n4 rfl ?_
 refine aA n3 n4 (by rfl) ?_
 refine nZ ?_
 have n5 := n4
 unfold ay at n5
 refine JR pv gx.pv (a8 σ.pts) (by rw [rP]; omega) n5 fun H5 n6 => ?_
 refine aa (BI _ _) ?_
 refine ap ⟨(), rfl, ?_⟩
 have n7 : ae (ay x gx σ * (bm p g.rp σ * R)) H5 := by
  unfold ay
  exact n6.to
 have n8 := cG (p := x) (σ := σ) (R := bm p g.rp σ * R) gx hgx n7
 exact n8.to
theorem adD {w how n : Nat} (h : aZ w how = some n) : n < 18446744073709551616 := by
 have := dc w
 unfold aZ at h
 split at h
 ·split at h
  ·have := Option.some.inj h; omega
  ·cases h
 ·split at h
  ·have := Option.some.inj h; omega
  ·cases h
 ·split at h
  ·have := Option.some.inj h; omega
  ·cases h
 ·cases h
structure SI (σ : a7) (k : Nat) : Prop where
 c : dh σ.c = true
 N : σ.μ.N ≤ k
 E : σ.μ.E.length ≤ k
 pts : σ.pts.length ≤ k
 V : ∀ l, σ.μ.V l < 18446744073709551616
 obs : σ.obs.length ≤ 100
 cells : ∀ o, o < σ.obs.length → 1 ≤ (az σ o).length ∧ (az σ o).length < 1000
 slot : ∀ s i, σ.μ.V (10, s, i) ≠ 0 → σ.μ.V (10, s, i) % 4294967296 < σ.obs.length
 head : ∀ o, σ.μ.V (12, o, 0) ≤ k
theorem SI.ok {σ : a7} {k : Nat} (h : SI σ k) (hk : k < 300000) : SOk σ :=
 ⟨h.c, by have := h.N; omega, by have := h.pts; omega, h.V, by have := h.obs; omega, h.cells, h.slot⟩
theorem SI.mono {σ : a7} {k k' : Nat} (h : SI σ k) (hk : k ≤ k') : SI σ k' :=
 ⟨h.c, Nat.le_trans h.N hk, Nat.le_trans h.E hk, Nat.le_trans h.pts hk, h.V, h.obs, h.cells, h.slot, fun o => Nat.le_trans (h.head o) hk⟩
theorem SI.acc {σ : a7} {k : Nat} (h : SI σ k) (who kd : Int) (l : cn) : SI (σ.mem (σ.μ.acc who kd l)) (k + 2) :=
 ⟨h.c, by have := h.N; show σ.μ.N + 2 ≤ _; omega, by have := h.E; show (σ.μ.E ++ [_]).length ≤ _; simp; omega, Nat.le_trans h.pts (by omega), h.V, h.obs, h.cells, h.slot, fun o => Nat.le_trans (h.head o) (by omega)⟩
theorem SI.put {σ : a7} {k : Nat} (h : SI σ k) (l : cn) (v : Nat) (hv : v < 18446744073709551616) (h1 : l.1 ≠ 10) (h2 : l.1 ≠ 12 ∨ v ≤ k) : SI (σ.mem (σ.μ.put l v)) k := by
 refine ⟨h.c, h.N, h.E, h.pts, fun x => ?_, h.obs, h.cells, fun s i => ?_, fun o => ?_⟩
 ·show (if x = l then v else σ.μ.V x) < _
  split
  ·exact hv
  ·exact h.V x
 ·show (if (10, s, i) = l then v else σ.μ.V (10, s, i)) ≠ 0 → (if (10, s, i) = l then v else σ.μ.V (10, s, i)) % _ < _
  rw [if_neg (fun e => h1 (by rw [← e]))]
  exact h.slot s i
 ·show (if (12, o, 0) = l then v else σ.μ.V (12, o, 0)) ≤ _
  split
  ·rename_i e
   rcases h2 with h2 | h2
   ·exact absurd (by rw [← e]) h2
   ·exact h2
  ·exact h.head o
theorem SI.swp {σ : a7} {k : Nat} (h : SI σ k) (who : Int) (l : cn) (was now : Nat) (hv : now < 18446744073709551616) (h1 : l.1 ≠ 10) (h2 : l.1 ≠ 12) : SI (σ.mem (σ.μ.swp who l was now)) (k + 2) := by
 have e : σ.μ.swp who l was now = (if σ.μ.V l = was then (σ.μ.acc who 3 l).put l now else σ.μ.acc who 4 l) := by
  show (⟨_, _, _⟩ : Mu) = _
  unfold Mu.swap
  split <;> rfl
 rw [e]
 split
 ·exact (h.acc who 3 l).put l now hv h1 (.inl h2)
 ·exact h.acc who 4 l
theorem SI.turn {σ : a7} {k : Nat} (h : SI σ k) (who : Int) (o w how : Nat) : SI (σ.mem (σ.μ.turn who o w (aZ w how))) (k + 2) := by
 cases e : aZ w how with
 | none => exact h.mono (by omega)
 | some n => exact h.swp who (11, (o : Int), 0) w n (adD e) (by simp) (by simp)
theorem SI.cnt {σ : a7} {k : Nat} (h : SI σ k) (who : Int) (l : cn) (n : Nat) (h1 : l.1 ≠ 10) (h2 : l.1 ≠ 12) : SI (σ.mem (σ.μ.cnt who l n)) (k + 2) :=
 (h.acc who 3 l).put l _ (Nat.mod_lt _ (by omega)) h1 (.inl h2)
theorem SI.note {σ : a7} {k : Nat} (h : SI σ k) (step who e : Int) : SI (σ.note step who e) (k + 1) :=
 ⟨h.c, Nat.le_trans h.N (by omega), Nat.le_trans h.E (by omega), by have := h.pts; show (σ.pts ++ [_]).length ≤ _; simp; omega, h.V, h.obs, h.cells, h.slot, fun o => Nat.le_trans (h.head o) (by omega)⟩
theorem SI.link {σ : a7} {k : Nat} (h : SI σ k) (who : Int) (l : cn) (nx : Int → Option Nat) : SI { σ with μ := σ.μ.acc who 6 l, nx := nx } (k + 2) := by
 have := h.acc who 6 l
 exact ⟨this.c, this.N, this.E, this.pts, this.V, this.obs, this.cells, this.slot, this.head⟩
theorem SI.begin {σ : a7} {k : Nat} (h : SI σ k) (who place : Int) : SI (σ.begin who place) (k + 1) :=
 ⟨h.c, by have := h.N; show σ.μ.N + 1 ≤ _; omega, Nat.le_trans h.E (by omega), Nat.le_trans h.pts (by omega), h.V, h.obs, h.cells, h.slot, fun o => Nat.le_trans (h.head o) (by omega)⟩
theorem SI.lay {σ : a7} {k : Nat} (h : SI σ k) (t : Tk) : SI (sc σ t) (k + 2) := by
 have ha := h.acc t.who 6 (16, (t.obj : Int), ((aR t.w % (az σ t.obj).length : Nat) : Int))
 rw [y9]
 have hl : (σ.obs.modify t.obj fun q => (q.1, (az σ t.obj).set (aR t.w % (az σ t.obj).length) (⟨t.x.flow, t.x.a, t.x.b⟩ : Pk))).length = σ.obs.length := by simp
 refine ⟨ha.c, ha.N, ha.E, ha.pts, ha.V, by rw [hl]; exact h.obs, fun o ho => ?_, fun s i hs => by show _ < List.length _; rw [hl]; exact h.slot s i hs, ha.head⟩
 have ho' : o < σ.obs.length := by
  have : o < (σ.obs.modify t.obj fun q => (q.1, (az σ t.obj).set (aR t.w % (az σ t.obj).length) (⟨t.x.flow, t.x.a, t.x.b⟩ : Pk))).length := ho
  rwa [hl] at this
 have hc := h.cells o ho'
 rw [td ho'] at hc
 have hx : ∀ z : Ob × List Pk, z.2.length = (σ.obs[o]).2.length → 1 ≤ z.2.length ∧ z.2.length < 1000 := fun z hz => by rw [hz]; exact hc
 unfold az
 rw [List.getElem?_modify, List.getElem?_eq_getElem ho']
 refine hx (if t.obj = o then ((σ.obs[o]).1, (az σ t.obj).set (aR t.w % (az σ t.obj).length) ⟨t.x.flow, t.x.a, t.x.b⟩) else σ.obs[o]) ?_
 split
 ·rename_i e
  subst e
  rw [td ho', List.length_set]
 ·rfl
theorem fY.mono {σ σ' : a7} {t : Tk} (T : fY σ t) (hc : σ'.c = σ.c) (ho : σ'.obs.length = σ.obs.length) : fY σ' t :=
 ⟨fun h => by rw [ho]; exact T.obj h, by rw [hc]; exact T.s, by rw [hc]; exact T.i, T.w, T.c5, T.c0, T.ats⟩
abbrev Tk.new (c : f0) (who : Int) (x : Cl) : Tk := ⟨who, x, (x.flow.tmod c.sh + c.sh).tmod c.sh, 0, 0, 0, false, 0, 0, 0, 0, 0⟩
theorem fY.new {σ : a7} (hc : dh σ.c = true) (who : Int) (x : Cl) : fY σ (Tk.new σ.c who x) := by
 have := b7.1 hc
 exact ⟨fun h => by simp at h, rfl, fun _ _ => by simp; omega, by simp, fun h => by simp at h, fun h => by simp at h, .inl rfl⟩
theorem QV (σ : a7) (t : Tk) : ((sc σ t).obs.map fun q => q.1) = σ.obs.map fun q => q.1 := by
 unfold sc
 apply List.ext_getElem?
 intro j
 simp only [List.getElem?_map, List.getElem?_modify]
 cases σ.obs[j]? with
 | none => rfl
 | some q =>
  show some (if t.obj = j then _ else q).1 = some q.1
  split <;> rfl
structure Kept (σ : a7) (t : Tk) (r : a7 × Tk × Bool) (k : Nat) : Prop where
 si : SI r.1 (k + 3)
 c : r.1.c = σ.c
 obs : r.1.obs.length = σ.obs.length
 hd : (r.1.obs.map fun q => q.1) = σ.obs.map fun q => q.1
 pts : r.1.pts.length ≤ σ.pts.length + 1
 who : r.2.1.who = t.who
 x : r.2.1.x = t.x
 ok : r.2.2 = false → fY r.1 r.2.1
theorem EA {σ : a7} {t : Tk} {k : Nat} (h : SI σ k) (T : fY σ t) (hat : t.at' = 0 ∨ t.at' = 2) : Kept σ t (e6 σ t) k := by
 refine ⟨(h.acc _ _ _).mono (by omega), rfl, rfl, rfl, Nat.le_succ _, rfl, rfl, fun _ => ?_⟩
 have hi := T.i (by omega) (by omega)
 refine ⟨fun hh => ?_, T.s, fun h1 h2 => ?_, T.w, fun hh => ?_, fun hh => ?_, ?_⟩
 ·show (aM σ t).obj < σ.obs.length
  have hf : (aM σ t).found = true := by
   cases hf : (aM σ t).found with
   | true => rfl
   | false =>
    have hh' : 6 ≤ (if (aM σ t).found = true then 6 else if dI σ (aM σ t) = true then 3 else 2 : Nat) ∨ (if (aM σ t).found = true then 6 else if dI σ (aM σ t) = true then 3 else 2 : Nat) = 5 ∧ _ := hh
    rw [hf, if_neg (by simp)] at hh'
    rcases hh' with q | q
    ·split at q <;> omega
    ·have q := q.1
     split at q <;> omega
  have hf' : Gu (σ.μ.V (10, t.s, (t.i : Int))) t.x.flow = true := hf
  have e : (aM σ t).obj = σ.μ.V (10, t.s, (t.i : Int)) % 4294967296 := if_pos hf'
  rw [e]
  have hv := (of_decide_eq_true hf').1
  exact h.slot _ _ hv
 ·have h1 : (if (aM σ t).found = true then 6 else if dI σ (aM σ t) = true then 3 else 2 : Nat) < 5 := h1
  have h2 : (if (aM σ t).found = true then 6 else if dI σ (aM σ t) = true then 3 else 2 : Nat) ≠ 3 := h2
  have hl : ¬ dI σ (aM σ t) = true := by
   intro hl
   rw [if_pos hl] at h1 h2
   split at h1
   ·omega
   ·rename_i hn
    rw [if_neg hn] at h2
    exact h2 rfl
  have : ¬ (σ.c.sl ≤ ((t.i + 1 : Nat) : Int)) := fun q => hl (decide_eq_true q)
  show ((t.i + 1 : Nat) : Int) < σ.c.sl
  omega
 ·have hh : (if (aM σ t).found = true then 6 else if dI σ (aM σ t) = true then 3 else 2 : Nat) = 5 := hh
  split at hh
  ·omega
  ·split at hh <;> omega
 ·have hh : (if (aM σ t).found = true then 6 else if dI σ (aM σ t) = true then 3 else 2 : Nat) = 10 ∨ (if (aM σ t).found = true then 6 else if dI σ (aM σ t) = true then 3 else 2 : Nat) = 11 ∨ (if (aM σ t).found = true then 6 else if dI σ (aM σ t) = true then 3 else 2 : Nat) = 14 ∨ 21 ≤ (if (aM σ t).found = true then 6 else if dI σ (aM σ t) = true then 3 else 2 : Nat) := hh
  split at hh
  ·omega
  ·split at hh <;> omega
 ·show (if (aM σ t).found = true then 6 else if dI σ (aM σ t) = true then 3 else 2 : Nat) = 0 ∨ _
  simp only [e6]
  split
  ·simp
  ·split <;> simp
theorem VR {σ : a7} {t : Tk} {k : Nat} (now : Int) (h : SI σ k) (T : fY σ t) : Kept σ t (ak σ t now) k := by
 rcases T.ats with hat | hat | hat | hat | hat | hat | hat | hat | hat | hat | hat | hat | hat | hat | hat | hat | hat | hat | hat | hat | hat | hat | hat | hat
 ·-- 0
  cases hx : dN t.x with
  | some e =>
   have hs : ak σ t now = (σ.note now t.who e, { t with code := e }, true) := by simp only [ak, hat, hx]
   rw [hs]
   exact ⟨(h.note _ _ _).mono (by omega), rfl, rfl, rfl, (by simp [a7.note]), rfl, rfl, fun h => by simp at h⟩
  | none =>
   have hs : ak σ t now = e6 σ t := by simp only [ak, hat, hx, e6]
   rw [hs]
   exact EA h T (.inl hat)
 ·-- 2
  have hs : ak σ t now = e6 σ t := by simp only [ak, hat, e6]
  rw [hs]
  exact EA h T (.inr hat)
 ·-- 3
  by_cases hw : σ.μ.V (8, t.s, 0) = 0
  ·have hs : ak σ t now = (σ.mem (σ.μ.swp t.who (8, t.s, 0) 0 1), { t with at' := 4, i := 0 }, false) := by simp only [ak, hat]; rw [if_pos hw]
   rw [hs]
   exact ⟨(h.swp _ _ _ _ (by omega) (by simp) (by simp)).mono (by omega), rfl, rfl, rfl, Nat.le_succ _, rfl, rfl, fun _ => ⟨fun _ => (by rename_i hh; simp at hh), T.s, (fun _ _ => by have := b7.1 h.c; show ((0 : Nat) : Int) < σ.c.sl; omega), T.w, (fun h => by simp at h), (fun h => by simp at h), (by simp)⟩⟩
  ·have hs : ak σ t now = (σ.mem (σ.μ.swp t.who (8, t.s, 0) 0 1), t, false) := by simp only [ak, hat]; rw [if_neg hw]
   rw [hs]
   exact ⟨(h.swp _ _ _ _ (by omega) (by simp) (by simp)).mono (by omega), rfl, rfl, rfl, Nat.le_succ _, rfl, rfl, fun _ => T.mono rfl rfl⟩
 ·-- 4
  have hi := T.i (by omega) (by omega)
  cases hf : (aM σ t).found with
  | true =>
   have hs : ak σ t now = (cD σ t, { aM σ t with at' := 5 }, false) := by simp only [ak, hat, hf]; rfl
   rw [hs]
   have hf' : Gu (σ.μ.V (10, t.s, (t.i : Int))) t.x.flow = true := hf
   have e : (aM σ t).obj = σ.μ.V (10, t.s, (t.i : Int)) % 4294967296 := if_pos hf'
   have ho : (aM σ t).obj < σ.obs.length := by rw [e]; exact h.slot _ _ (of_decide_eq_true hf').1
   exact ⟨(h.acc _ _ _).mono (by omega), rfl, rfl, rfl, Nat.le_succ _, rfl, rfl, fun _ => ⟨fun _ => ho, T.s, (fun h1 h2 => by simp at h1), T.w, (fun _ h2 => by rw [show (aM σ t).found = false from h2] at hf; cases hf), (fun h => by simp at h), (by simp)⟩⟩
  | false =>
   cases hla : dI σ (aM σ t) with
   | true =>
    have hs : ak σ t now = ((cD σ t).note now t.who 5, { aM σ t with at' := 5, code := 5 }, false) := by simp only [ak, hat, hf, hla]; rfl
    rw [hs]
    exact ⟨((h.acc _ _ _).note _ _ _).mono (by omega), rfl, rfl, rfl, (by simp [a7.note]), rfl, rfl, fun _ => ⟨fun _ => (by rename_i hh; rw [show (aM σ t).found = false from hf] at hh; simp at hh), T.s, (fun h1 h2 => by simp at h1), T.w, (fun _ _ => rfl), (fun h => by simp at h), (by simp)⟩⟩
   | false =>
    have hs : ak σ t now = (cD σ t, aM σ t, false) := by simp only [ak, hat, hf, hla]; rfl
    rw [hs]
    have hl : ¬ (σ.c.sl ≤ ((t.i + 1 : Nat) : Int)) := fun q => by rw [show dI σ (aM σ t) = true from decide_eq_true q] at hla; cases hla
    have ea : (aM σ t).at' = 4 := hat
    exact ⟨(h.acc _ _ _).mono (by omega), rfl, rfl, rfl, Nat.le_succ _, rfl, rfl, fun _ => ⟨fun _ => (by rename_i hh; rw [ea] at hh; simp at hh), T.s, (fun _ _ => by show ((t.i + 1 : Nat) : Int) < σ.c.sl; omega), T.w, (fun h => by rw [ea] at h; simp at h), (fun h => by rw [ea] at h; simp at h), (by rw [ea]; simp)⟩⟩
 ·-- 5
  cases hf : t.found with
  | false =>
   have hs : ak σ t now = (σ.mem ((σ.μ.acc t.who 2 (8, t.s, 0)).put (8, t.s, 0) 0), { t with at' := 6 }, true) := by simp only [ak, hat, hf]; rfl
   rw [hs]
   exact ⟨((h.acc _ _ _).put _ _ (by omega) (by simp) (.inl (by simp))).mono (by omega), rfl, rfl, rfl, Nat.le_succ _, rfl, rfl, fun h => by simp at h⟩
  | true =>
   have hs : ak σ t now = (σ.mem ((σ.μ.acc t.who 2 (8, t.s, 0)).put (8, t.s, 0) 0), { t with at' := 6 }, false) := by simp only [ak, hat, hf]; rfl
   rw [hs]
   exact ⟨((h.acc _ _ _).put _ _ (by omega) (by simp) (.inl (by simp))).mono (by omega), rfl, rfl, rfl, Nat.le_succ _, rfl, rfl, fun _ => ⟨fun _ => T.obj (.inr ⟨hat, hf⟩), T.s, (fun h1 h2 => by simp at h1), T.w, (fun h => by simp at h), (fun h => by simp at h), (by simp)⟩⟩
 ·-- 6
  have hs : ak σ t now = (σ.mem (σ.μ.acc t.who 5 (13, (t.obj : Int), 0)), { t with at' := 7 }, false) := by simp only [ak, hat]
  rw [hs]
  exact ⟨(h.acc _ _ _).mono (by omega), rfl, rfl, rfl, Nat.le_succ _, rfl, rfl, fun _ => ⟨fun _ => T.obj (.inl (by omega)), T.s, (fun h1 h2 => by simp at h1), T.w, (fun h => by simp at h), (fun h => by simp at h), (by simp)⟩⟩
 ·-- 7
  by_cases hw : br (σ.μ.V (11, (t.obj : Int), 0)) = 2
  ·have hs : ak σ t now = (lS σ t, { t with w := σ.μ.V (11, (t.obj : Int), 0), at' := 3 }, false) := by simp only [ak, hat]; rw [if_pos hw]
   rw [hs]
   exact ⟨(h.acc _ _ _).mono (by omega), rfl, rfl, rfl, Nat.le_succ _, rfl, rfl, fun _ => ⟨fun _ => (by rename_i hh; simp at hh), T.s, (fun _ h2 => by simp at h2), h.V _, (fun h => by simp at h), (fun h => by simp at h), (by simp)⟩⟩
  ·have hs : ak σ t now = (lS σ t, { t with w := σ.μ.V (11, (t.obj : Int), 0), at' := 8 }, false) := by simp only [ak, hat]; rw [if_neg hw]
   rw [hs]
   exact ⟨(h.acc _ _ _).mono (by omega), rfl, rfl, rfl, Nat.le_succ _, rfl, rfl, fun _ => ⟨fun _ => T.obj (.inl (by omega)), T.s, (fun h1 h2 => by simp at h1), h.V _, (fun h => by simp at h), (fun h => by simp at h), (by simp)⟩⟩
 ·-- 8
  cases hf : lq σ t with
  | true =>
   have hs : ak σ t now = (ia σ t, { t with at' := 15 }, false) := by simp only [ak, hat, hf]; rfl
   rw [hs]
   exact ⟨(h.acc _ _ _).mono (by omega), rfl, rfl, rfl, Nat.le_succ _, rfl, rfl, fun _ => ⟨fun _ => T.obj (.inl (by omega)), T.s, (fun h1 h2 => by simp at h1), T.w, (fun h => by simp at h), (fun h => by simp at h), (by simp)⟩⟩
  | false =>
   by_cases hw : br t.w = 1
   ·have hs : ak σ t now = (ia σ t, { t with at' := 9 }, false) := by simp only [ak, hat, hf]; rw [if_pos hw]; rfl
    rw [hs]
    exact ⟨(h.acc _ _ _).mono (by omega), rfl, rfl, rfl, Nat.le_succ _, rfl, rfl, fun _ => ⟨fun _ => T.obj (.inl (by omega)), T.s, (fun h1 h2 => by simp at h1), T.w, (fun h => by simp at h), (fun h => by simp at h), (by simp)⟩⟩
   ·have hs : ak σ t now = (ia σ t, { t with at' := 12 }, false) := by simp only [ak, hat, hf]; rw [if_neg hw]; rfl
    rw [hs]
    exact ⟨(h.acc _ _ _).mono (by omega), rfl, rfl, rfl, Nat.le_succ _, rfl, rfl, fun _ => ⟨fun _ => T.obj (.inl (by omega)), T.s, (fun h1 h2 => by simp at h1), T.w, (fun h => by simp at h), (fun h => by simp at h), (by simp)⟩⟩
 ·-- 9
  cases hw : eJ σ.μ t.obj t.w (aZ t.w 0) with
  | true =>
   have hs : ak σ t now = ((σ.mem (σ.μ.turn t.who t.obj t.w (aZ t.w 0))).note now t.who 0, { t with at' := 10, code := 0 }, false) := by simp only [ak, hat, hw]; rfl
   rw [hs]
   exact ⟨((h.turn _ _ _ _).note _ _ _).mono (by omega), rfl, rfl, rfl, (by simp [a7.note]), rfl, rfl, fun _ => ⟨fun _ => T.obj (.inl (by omega)), T.s, (fun h1 h2 => by simp at h1), T.w, (fun h => by simp at h), (fun _ => rfl), (by simp)⟩⟩
  | false =>
   have hs : ak σ t now = (σ.mem (σ.μ.turn t.who t.obj t.w (aZ t.w 0)), { t with at' := 7 }, false) := by simp only [ak, hat, hw]; rfl
   rw [hs]
   exact ⟨(h.turn _ _ _ _).mono (by omega), rfl, rfl, rfl, Nat.le_succ _, rfl, rfl, fun _ => ⟨fun _ => T.obj (.inl (by omega)), T.s, (fun h1 h2 => by simp at h1), T.w, (fun h => by simp at h), (fun h => by simp at h), (by simp)⟩⟩
 ·-- 10
  have hs : ak σ t now = (sc σ t, { t with at' := 11 }, false) := by simp only [ak, hat]
  rw [hs]
  exact ⟨(h.lay t).mono (by omega), rfl, jB σ t, QV σ t, Nat.le_succ _, rfl, rfl, fun _ => (by have := jB σ t; exact ⟨fun _ => (by rw [this]; exact T.obj (.inl (by omega))), T.s, (fun h1 h2 => by simp at h1), T.w, (fun h => by simp at h), (fun _ => T.c0 (by omega)), (by simp)⟩)⟩
 ·-- 11
  have hs : ak σ t now = (xu σ t, t, true) := by simp only [ak, hat]
  rw [hs]
  exact ⟨((h.acc _ _ _).put _ _ (by have := dc t.w; omega) (by simp) (.inl (by simp))).mono (by omega), rfl, rfl, rfl, Nat.le_succ _, rfl, rfl, fun h => by simp at h⟩
 ·-- 12
  have hs : ak σ t now = (σ.mem (σ.μ.cnt t.who (3, 0, 0) 4294967296), { t with at' := 13 }, false) := by simp only [ak, hat]
  rw [hs]
  exact ⟨(h.cnt _ _ _ (by simp) (by simp)).mono (by omega), rfl, rfl, rfl, Nat.le_succ _, rfl, rfl, fun _ => ⟨fun _ => T.obj (.inl (by omega)), T.s, (fun h1 h2 => by simp at h1), T.w, (fun h => by simp at h), (fun h => by simp at h), (by simp)⟩⟩
 ·-- 13
  cases hw : eJ σ.μ t.obj t.w (aZ t.w 0) with
  | true =>
   have hs : ak σ t now = ((σ.mem (σ.μ.turn t.who t.obj t.w (aZ t.w 0))).note now t.who 0, { t with at' := 14, code := 0 }, false) := by simp only [ak, hat, hw]; rfl
   rw [hs]
   exact ⟨((h.turn _ _ _ _).note _ _ _).mono (by omega), rfl, rfl, rfl, (by simp [a7.note]), rfl, rfl, fun _ => ⟨fun _ => T.obj (.inl (by omega)), T.s, (fun h1 h2 => by simp at h1), T.w, (fun h => by simp at h), (fun _ => rfl), (by simp)⟩⟩
  | false =>
   have hs : ak σ t now = (σ.mem (σ.μ.turn t.who t.obj t.w (aZ t.w 0)), { t with at' := 20 }, false) := by simp only [ak, hat, hw]; rfl
   rw [hs]
   exact ⟨(h.turn _ _ _ _).mono (by omega), rfl, rfl, rfl, Nat.le_succ _, rfl, rfl, fun _ => ⟨fun _ => T.obj (.inl (by omega)), T.s, (fun h1 h2 => by simp at h1), T.w, (fun h => by simp at h), (fun h => by simp at h), (by simp)⟩⟩
 ·-- 14
  have hs : ak σ t now = (sc σ t, { t with at' := 21 }, false) := by simp only [ak, hat]
  rw [hs]
  exact ⟨(h.lay t).mono (by omega), rfl, jB σ t, QV σ t, Nat.le_succ _, rfl, rfl, fun _ => (by have := jB σ t; exact ⟨fun _ => (by rw [this]; exact T.obj (.inl (by omega))), T.s, (fun h1 h2 => by simp at h1), T.w, (fun h => by simp at h), (fun _ => T.c0 (by omega)), (by simp)⟩)⟩
 ·-- 15
  by_cases hw : σ.μ.V (2, 0, 0) % 2 = 1
  ·have hs : ak σ t now = (oK σ t, { t with q := σ.μ.V (2, 0, 0), at' := 7 }, false) := by simp only [ak, hat]; rw [if_pos hw]
   rw [hs]
   exact ⟨(h.acc _ _ _).mono (by omega), rfl, rfl, rfl, Nat.le_succ _, rfl, rfl, fun _ => ⟨fun _ => T.obj (.inl (by omega)), T.s, (fun h1 h2 => by simp at h1), T.w, (fun h => by simp at h), (fun h => by simp at h), (by simp)⟩⟩
  ·have hs : ak σ t now = (oK σ t, { t with q := σ.μ.V (2, 0, 0), at' := 16 }, false) := by simp only [ak, hat]; rw [if_neg hw]
   rw [hs]
   exact ⟨(h.acc _ _ _).mono (by omega), rfl, rfl, rfl, Nat.le_succ _, rfl, rfl, fun _ => ⟨fun _ => T.obj (.inl (by omega)), T.s, (fun h1 h2 => by simp at h1), T.w, (fun h => by simp at h), (fun h => by simp at h), (by simp)⟩⟩
 ·-- 16
  by_cases hw : br (σ.μ.V (11, (t.obj : Int), 0)) = 2
  ·have hs : ak σ t now = (lS σ t, { t with w := σ.μ.V (11, (t.obj : Int), 0), at' := 3 }, false) := by simp only [ak, hat]; rw [if_pos hw]
   rw [hs]
   exact ⟨(h.acc _ _ _).mono (by omega), rfl, rfl, rfl, Nat.le_succ _, rfl, rfl, fun _ => ⟨fun _ => (by rename_i hh; simp at hh), T.s, (fun _ h2 => by simp at h2), h.V _, (fun h => by simp at h), (fun h => by simp at h), (by simp)⟩⟩
  ·have hs : ak σ t now = (lS σ t, { t with w := σ.μ.V (11, (t.obj : Int), 0), at' := 17 }, false) := by simp only [ak, hat]; rw [if_neg hw]
   rw [hs]
   exact ⟨(h.acc _ _ _).mono (by omega), rfl, rfl, rfl, Nat.le_succ _, rfl, rfl, fun _ => ⟨fun _ => T.obj (.inl (by omega)), T.s, (fun h1 h2 => by simp at h1), h.V _, (fun h => by simp at h), (fun h => by simp at h), (by simp)⟩⟩
 ·-- 17
  cases hf : lq σ t with
  | true =>
   have hs : ak σ t now = (ia σ t, { t with at' := 18, mark := now }, false) := by simp only [ak, hat, hf]; rfl
   rw [hs]
   exact ⟨(h.acc _ _ _).mono (by omega), rfl, rfl, rfl, Nat.le_succ _, rfl, rfl, fun _ => ⟨fun _ => T.obj (.inl (by omega)), T.s, (fun h1 h2 => by simp at h1), T.w, (fun h => by simp at h), (fun h => by simp at h), (by simp)⟩⟩
  | false =>
   have hs : ak σ t now = (ia σ t, { t with at' := 7 }, false) := by simp only [ak, hat, hf]; rfl
   rw [hs]
   exact ⟨(h.acc _ _ _).mono (by omega), rfl, rfl, rfl, Nat.le_succ _, rfl, rfl, fun _ => ⟨fun _ => T.obj (.inl (by omega)), T.s, (fun h1 h2 => by simp at h1), T.w, (fun h => by simp at h), (fun h => by simp at h), (by simp)⟩⟩
 ·-- 18
  by_cases hw : σ.μ.V (2, 0, 0) = t.q
  ·have hs : ak σ t now = ((oK σ t).note t.mark t.who 9, { t with code := 9 }, true) := by simp only [ak, hat]; rw [if_pos hw]
   rw [hs]
   exact ⟨((h.acc _ _ _).note _ _ _).mono (by omega), rfl, rfl, rfl, (by simp [a7.note]), rfl, rfl, fun h => by simp at h⟩
  ·have hs : ak σ t now = (oK σ t, { t with at' := 7 }, false) := by simp only [ak, hat]; rw [if_neg hw]
   rw [hs]
   exact ⟨(h.acc _ _ _).mono (by omega), rfl, rfl, rfl, Nat.le_succ _, rfl, rfl, fun _ => ⟨fun _ => T.obj (.inl (by omega)), T.s, (fun h1 h2 => by simp at h1), T.w, (fun h => by simp at h), (fun h => by simp at h), (by simp)⟩⟩
 ·-- 20
  have hs : ak σ t now = (σ.mem (σ.μ.cnt t.who (3, 0, 0) 1), { t with at' := 7 }, false) := by simp only [ak, hat]
  rw [hs]
  exact ⟨(h.cnt _ _ _ (by simp) (by simp)).mono (by omega), rfl, rfl, rfl, Nat.le_succ _, rfl, rfl, fun _ => ⟨fun _ => T.obj (.inl (by omega)), T.s, (fun h1 h2 => by simp at h1), T.w, (fun h => by simp at h), (fun h => by simp at h), (by simp)⟩⟩
 ·-- 21
  have hs : ak σ t now = (xu σ t, { t with at' := 22 }, false) := by simp only [ak, hat]
  rw [hs]
  exact ⟨((h.acc _ _ _).put _ _ (by have := dc t.w; omega) (by simp) (.inl (by simp))).mono (by omega), rfl, rfl, rfl, Nat.le_succ _, rfl, rfl, fun _ => ⟨fun _ => T.obj (.inl (by omega)), T.s, (fun h1 h2 => by simp at h1), T.w, (fun h => by simp at h), (fun _ => T.c0 (by omega)), (by simp)⟩⟩
 ·-- 22
  have hs : ak σ t now = (σ.mem (σ.μ.acc t.who 1 (9, t.s, 0)), { t with top := σ.μ.V (9, t.s, 0), at' := 23 }, false) := by simp only [ak, hat]
  rw [hs]
  exact ⟨(h.acc _ _ _).mono (by omega), rfl, rfl, rfl, Nat.le_succ _, rfl, rfl, fun _ => ⟨fun _ => T.obj (.inl (by omega)), T.s, (fun h1 h2 => by simp at h1), T.w, (fun h => by simp at h), (fun _ => T.c0 (by omega)), (by simp)⟩⟩
 ·-- 23
  have hs : ak σ t now = ({ σ with μ := σ.μ.acc t.who 6 (14, (t.obj : Int), 0), nx := fun k => if k = (t.obj : Int) then some t.top else σ.nx k }, { t with at' := 24 }, false) := by simp only [ak, hat]
  rw [hs]
  exact ⟨(h.link _ _ _).mono (by omega), rfl, rfl, rfl, Nat.le_succ _, rfl, rfl, fun _ => ⟨fun _ => T.obj (.inl (by omega)), T.s, (fun h1 h2 => by simp at h1), T.w, (fun h => by simp at h), (fun _ => T.c0 (by omega)), (by simp)⟩⟩
 ·-- 24
  by_cases hw : σ.μ.V (9, t.s, 0) = t.top
  ·have hs : ak σ t now = (σ.mem (σ.μ.swp t.who (9, t.s, 0) t.top (t.obj + 1)), { t with at' := 25 }, false) := by simp only [ak, hat]; rw [if_pos hw]
   rw [hs]
   exact ⟨(h.swp _ _ _ _ (by have := T.obj (.inl (by omega)); have := h.obs; omega) (by simp) (by simp)).mono (by omega), rfl, rfl, rfl, Nat.le_succ _, rfl, rfl, fun _ => ⟨fun _ => T.obj (.inl (by omega)), T.s, (fun h1 h2 => by simp at h1), T.w, (fun h => by simp at h), (fun _ => T.c0 (by omega)), (by simp)⟩⟩
  ·have hs : ak σ t now = (σ.mem (σ.μ.swp t.who (9, t.s, 0) t.top (t.obj + 1)), { t with at' := 22 }, false) := by simp only [ak, hat]; rw [if_neg hw]
   rw [hs]
   exact ⟨(h.swp _ _ _ _ (by have := T.obj (.inl (by omega)); have := h.obs; omega) (by simp) (by simp)).mono (by omega), rfl, rfl, rfl, Nat.le_succ _, rfl, rfl, fun _ => ⟨fun _ => T.obj (.inl (by omega)), T.s, (fun h1 h2 => by simp at h1), T.w, (fun h => by simp at h), (fun _ => T.c0 (by omega)), (by simp)⟩⟩
 ·-- 25
  have hs : ak σ t now = (σ.mem (σ.μ.cnt t.who (3, 0, 0) 1), t, true) := by simp only [ak, hat]
  rw [hs]
  exact ⟨(h.cnt _ _ _ (by simp) (by simp)).mono (by omega), rfl, rfl, rfl, Nat.le_succ _, rfl, rfl, fun h => by simp at h⟩
theorem Lz {α : Type} (F : α → SP) (R : SP) : (ex fun x => F x * R) = ex F * R := by
 apply SP.ext
 intro h
 constructor
 ·rintro ⟨x, a, b, hd, rfl, ha, hb⟩
  exact ⟨a, b, hd, rfl, ⟨x, ha⟩, hb⟩
 ·rintro ⟨a, b, hd, rfl, ⟨x, ha⟩, hb⟩
  exact ⟨x, a, b, hd, rfl, ha, hb⟩
def eT (e p : Nat) (rp : List Nat) (t : Tk) : SP := ex fun v : Value => pu (Hf rp t v) * eB e p (Uk e (yf t.at')) v t
def xT (x P : Nat) (t : Tk) : SP := ex fun k : Xk => pu (fX t k) * xB x P t k
theorem WT (e p : Nat) (rp : List Nat) (σ : a7) (t : Tk) : eP e p rp σ t = eT e p rp t * bm p rp σ := by
 unfold eP eT
 rw [← Lz]
 congr 1
 funext v
 rw [ar]
theorem ak5 (x P : Nat) (σ : a7) (t : Tk) : xP x P σ t = xT x P t * bj P σ := by
 unfold xP xT
 rw [← Lz]
 congr 1
 funext v
 rw [ar]
def xU (x P : Nat) (r : a7 × Tk × Bool) : SP := ex fun k : Xk => pu (if r.2.2 = true then k.code = r.2.1.code else fX r.2.1 k) * xB x P r.2.1 k
theorem ak6 (x P : Nat) (r : a7 × Tk × Bool) : xQ x P r = xU x P r * bj P r.1 := by
 unfold xQ xU
 rw [← Lz]
 congr 1
 funext v
 rw [ar]
def eU (e p : Nat) (rp : List Nat) (r : a7 × Tk × Bool) : SP := if r.2.2 = true then emp else eT e p rp r.2.1
theorem akG (e p : Nat) (rp : List Nat) (r : a7 × Tk × Bool) : eQ e p rp r = eU e p rp r * bm p rp r.1 := by
 unfold eQ eU
 split
 ·rw [jg]
 ·rw [WT]
theorem ak7 {x P : Nat} {r : a7 × Tk × Bool} (h : r.2.2 = false) : xU x P r = xT x P r.2.1 := by
 unfold xU xT
 simp only [h]
 rfl
theorem akH {e p : Nat} {rp : List Nat} {r : a7 × Tk × Bool} (h : r.2.2 = false) : eU e p rp r = eT e p rp r.2.1 := by
 unfold eU
 rw [if_neg (by rw [h]; simp)]
section
variable (p x : Nat) (rp : List Nat) (σ : a7)
theorem WW (hc : dh σ.c = true) (who : Int) (c : Cl) : Sp vM [vp p, vi who, .agg (Cl.cells c).toArray] (bm p rp σ) (fun e : Nat => vp e) (fun e => eT e p rp (Tk.new σ.c who c) * bm p rp σ) := by
 have hr := b7.1 hc
 refine av fun R H h => ?_
 refine aw (fun r => Lv _ _ _ H) ?_
 refine aG h fun b H1 h1 => ?_
 refine aL h1 ?_
 obtain ⟨g, hrp, hg, k1⟩ := ee (p := p) (rp := rp) (σ := σ) (R := blk b (.cells false (Cl.cells c)) * R) (H := H1) h1.to
 refine am k1 ac rfl ?_
 refine am k1 ah rfl ?_
 refine af k1 (Wn (p := p) (g := g) (σ := σ) (Kw g.tb g.m σ.c.sh.toNat σ.c.sl.toNat (by omega) c.flow)) fun _ H2 k2 => ?_
 refine bg k2 k1 rfl ?_
 have es : vi ((c.flow.tmod (σ.c.sh.toNat : Int) + (σ.c.sh.toNat : Int)).tmod (σ.c.sh.toNat : Int)) = vi (Tk.new σ.c who c).s := by rw [show ((σ.c.sh.toNat : Nat) : Int) = σ.c.sh from by omega]
 rw [es]
 have h2 := bo (p := p) (rp := rp) (σ := σ) (R := blk b (.cells false (Cl.cells c)) * R) (H := H2) g hrp hg k2.to
 refine dO ?_
 refine aG h2 fun e H3 h3 => ?_
 refine aK h3 ac rfl rfl fun H4 h4 => ?_
 refine ap ⟨e, rfl, ?_⟩
 rw [← WT]
 exact In (v := .pointer none) (n := kH) (gr (by simp)) rfl h4.to
theorem J0 (who : Int) (c : Cl) (s : Int) : Sp mi [vp x, vi who, .agg (Cl.cells c).toArray] emp (fun b : Nat => vp b) (fun b => xT b x (Tk.new σ.c who c)) := by
 refine av fun R H h => ?_
 refine aw (fun r => BR _ _ _ H) ?_
 refine aG h fun b H1 h1 => ?_
 refine aL h1 ?_
 refine dO ?_
 refine aG h1 fun xb H2 h2 => ?_
 refine ap ⟨xb, rfl, ?_⟩
 refine ae.ex.2 ⟨⟨0, 0, -1, false, 0, 0, 0, 0, 0, 0, 0⟩, ?_⟩
 rw [ar, ae.pu]
 exact ⟨by simp [fX], h2.to⟩
theorem Nq (who place : Int) (hN : σ.μ.N < 1000000) : Sp i0 [.agg [vp p, vp x].toArray, vi who, vi place] (bm p rp σ * bj x σ) (fun _ : Unit => .tuple #[]) (fun _ => bm p rp (σ.begin who place) * bj x (σ.begin who place)) := by
 refine av fun R H h => ?_
 refine aw (fun r => tT _ _ _ H) ?_
 refine aG (l := [vp p, vp x]) h fun b H1 h1 => ?_
 refine am h1 ah rfl ?_
 refine af h1 (ah4 p rp σ who place) fun _ H2 h2 => ?_
 refine am h2 ah rfl ?_
 refine af h2 (aj0 x σ who place (by omega)) fun _ H3 h3 => ?_
 exact ap ⟨(), rfl, h3.to⟩
theorem ac7 (xb : Nat) (r : a7 × Tk × Bool) : Sp sj [vp xb, vb r.2.2] (xU xb x r) (fun _ : Unit => .agg (nc (if r.2.2 = true then r.2.1.code else 0)).toArray) (fun _ => xU xb x r) := by
 refine av fun R H h => ?_
 obtain ⟨k, h1⟩ := ae.ex.1 h
 rw [ar, ae.pu] at h1
 obtain ⟨hk, h1⟩ := h1
 refine aw (fun r => Jn _ _ H) ?_
 refine aO h1 fun b H2 h2 => ?_
 have back : ∀ {H' : AH}, ae (xB xb x r.2.1 k * R) H' → ae (xU xb x r * R) H' := fun h => ae.ex.2 ⟨k, by rw [ar]; exact ae.pu.2 ⟨hk, h⟩⟩
 cases hd : r.2.2
 ·with_reducible repeat refine gg ?_
  refine dO ?_
  refine bX h2 rfl rfl fun H3 h3 => ?_
  refine aL h3 ?_
  exact ap ⟨(), rfl, back h3.to⟩
 ·with_reducible repeat refine gg ?_
  rw [hd, if_pos rfl] at hk
  refine aW h2 ac ?_
  rw [hk]
  refine bX h2 rfl rfl fun H3 h3 => ?_
  refine aL h3 ?_
  exact ap ⟨(), rfl, back h3.to⟩
end
theorem ai4 (d : Bool) : ai .bool .neq (vb d) (vb d) = some (vb false) := by cases d <;> rfl
theorem ajY {p x pb : Nat} {rp : List Nat} {σ : a7} {P R : SP} {H : AH} {Q : Value → AH → Prop} {k : Value × AH → Value → OV} (h : ae P H) [f : Fr P (blk pb (.cells false [vp p, vp x]) * (bm p rp σ * bj x σ)) R]
 (hk : ∀ H', ae (blk pb (.cells false [vp p, vp x]) * (bm p rp σ * bj x σ) * R) H' → wp (k (vi σ.μ.E.length, H') (vb false)) Q) :
 wp (fu (vb false) false [.f 0] (vp pb) H fun v29 =>
  fu (vb false) false [.n, .f 0] v29 H fun v30 =>
  (gE (vb false) false H (FF f8 [v30] H)).bind fun r31 =>
  A7 (vb false) false [.f 1] (vp pb) fun v32 =>
  (gB (vb false) false (aq v32 r31.2)).bind fun v33 =>
  bD (aq v32 H) (aq v32 r31.2) <|
  A7 (vb false) false [.n, .f 5] v33 fun v34 =>
  (gB (vb false) false (aq v34 r31.2)).bind fun v35 =>
  bD (aq v34 H) (aq v34 r31.2) <|
  A7 (vb false) false [.n, .f 2] v35 fun v36 =>
  (gB (vb false) false (aq v36 r31.2)).bind fun v37 =>
  bD (aq v36 H) (aq v36 r31.2) <|
  (uY (yv (vb false)) false (dG v37 some) (some undef)).bind fun v38 =>
  bD (afN v37) (afN v37) <|
  (gB (vb false) false (ai .other .neq r31.1 v38)).bind fun v39 =>
  (aQ (vb false) (vb true) v39).bind (k r31)) Q := by
 have h0 := ae.fr (A := blk pb (.cells false [vp p, vp x]) * (bm p rp σ * bj x σ)) h
 obtain ⟨g, hrp, hg, k1⟩ := ee (p := p) (rp := rp) (σ := σ) (R := bj x σ * (blk pb (.cells false [vp p, vp x]) * R)) (H := H) h0.to
 obtain ⟨gx, hgx, l1⟩ := ef (p := x) (σ := σ) (R := aH p g σ * (blk pb (.cells false [vp p, vp x]) * R)) (H := H) k1.to
 obtain ⟨kv, vv, ev, Z, m1, back⟩ := D8 (x := x) (g := gx) (σ := σ) (R := aH p g σ * (blk pb (.cells false [vp p, vp x]) * R)) (H := H) l1.to
 with_reducible repeat refine gg ?_
 refine am m1 ah rfl ?_
 with_reducible repeat refine gg ?_
 refine am m1 ac rfl ?_
 have bl : Sp f8 [vp g.m] (aH p g σ) (fun _ : Unit => vi σ.μ.E.length) (fun _ => aH p g σ) := OS (p := p) (g := g) (σ := σ) (afS g.m σ.μ)
 refine zn ?_
 refine af m1 bl fun _ H2 m2 => ?_
 have gadff : ∀ {o : List Stp} {y : Value} {kk : Value → OV}, wp (ad o y kk) Q → wp (A7 (vb false) false o y kk) Q := fun {o y kk} q => by rw [Gr]; exact q
 refine gadff ?_
 refine aI ah ?_
 refine nY ?_
 refine aE m2 rfl ?_
 refine aA m1 m2 (by rfl) ?_
 refine gadff ?_
 refine aI ac ?_
 refine nY ?_
 refine aE m2 rfl ?_
 refine aA m1 m2 (by rfl) ?_
 refine gadff ?_
 refine aI ac ?_
 refine nY ?_
 refine aE m2 rfl ?_
 refine aA m1 m2 (by rfl) ?_
 refine Cx ?_
 refine gu (s := ev) (l := σ.μ.E) m2 ?_
 refine aP ?_
 refine nY ?_
 refine aa (xh rfl) ?_
 refine aa (GQ _ _) ?_
 refine hk H2 ?_
 have m3 := back (R' := aH p g σ * (blk pb (.cells false [vp p, vp x]) * R)) (H' := H2) m2.to
 have m4 := cG (p := x) (σ := σ) (R := aH p g σ * (blk pb (.cells false [vp p, vp x]) * R)) gx hgx m3
 have m5 := bo (p := p) (rp := rp) (σ := σ) (R := bj x σ * (blk pb (.cells false [vp p, vp x]) * R)) (H := H2) g hrp hg m4.to
 exact m5.to
theorem agD {n : Int} (b : Int) (hb : 0 ≤ b) (hn : -4611686018427387904 ≤ n ∧ n < 4611686018427387904) : -4611686018427387904 ≤ n.tdiv b ∧ n.tdiv b ≤ 4611686018427387904 := by
 by_cases h : 0 ≤ n
 ·have h1 := Int.tdiv_nonneg h hb
  have h2 := Int.tdiv_le_self b h
  omega
 ·have e : n.tdiv b = -((-n).tdiv b) := by rw [Int.neg_tdiv, Int.neg_neg]
  have h1 := Int.tdiv_nonneg (show 0 ≤ -n by omega) hb
  have h2 := Int.tdiv_le_self b (show 0 ≤ -n by omega)
  omega
abbrev a7.bump (σ : a7) (n : Nat) : a7 := { σ with μ := { σ.μ with N := σ.μ.N + n } }
theorem SI.bump {σ : a7} {k : Nat} (h : SI σ k) (n : Nat) : SI (σ.bump n) (k + n) :=
 ⟨h.c, by have := h.N; show σ.μ.N + n ≤ _; omega, Nat.le_trans h.E (by omega), Nat.le_trans h.pts (by omega), h.V, h.obs, h.cells, h.slot, fun o => Nat.le_trans (h.head o) (by omega)⟩
theorem SI.clear {σ : a7} {k : Nat} (h : SI σ k) (s i : Int) : SI (σ.mem (σ.μ.put (10, s, i) 0)) k := by
 refine ⟨h.c, h.N, h.E, h.pts, fun x => ?_, h.obs, h.cells, fun s' i' => ?_, fun o => ?_⟩
 ·show (if x = (10, s, i) then 0 else σ.μ.V x) < _
  split
  ·omega
  ·exact h.V x
 ·show (if ((10 : Int), s', i') = (10, s, i) then 0 else σ.μ.V (10, s', i')) ≠ 0 → (if ((10 : Int), s', i') = (10, s, i) then 0 else σ.μ.V (10, s', i')) % _ < _
  split
  ·intro h; exact absurd rfl h
  ·exact h.slot s' i'
 ·show (if ((12 : Int), (o : Int), (0 : Int)) = (10, s, i) then 0 else σ.μ.V (12, o, 0)) ≤ _
  rw [if_neg (by simp)]
  exact h.head o
structure After (σ σ' : a7) (k : Nat) : Prop where
 si : SI σ' k
 c : σ'.c = σ.c
 obs : σ'.obs.length = σ.obs.length
 hd : (σ'.obs.map fun q => q.1) = σ.obs.map fun q => q.1
theorem HH {α : Type} {P : SP} {H : AH} {s : Value} {enc : α → List Value} {l : List α} {i : Nat} {kk : IntKind} {v : Value} {Q : Value → AH → Prop} {k : Value → OV} (h : ae P H) [r : Rd P s 1 enc l] [E : Enc enc 1] (hi : i < l.length) (hv : enc l[i] = [v])
 (hk : ∀ a : Value, (∀ {P' : SP} {H' : AH}, ae P' H' → [Rd P' s 1 enc l] → aq a H' = some v) → wp (k a) Q) : wp (ad [.i 1 (.int kk (i : Int))] s k) Q := by
 obtain ⟨b, o, ro, row, rfl, h2, h3, h4⟩ := B1 (s := s) (enc := enc) (l := l) h hi
 rw [So hi]
 refine hk (oM b (o + i * 1)) fun {P' H'} h' _ => ?_
 obtain ⟨b', o', ro', row', e', h2', h3', h4'⟩ := B1 (s := .slice (some ⟨b, o, none⟩) l.length 1) (enc := enc) (l := l) h' hi
 obtain ⟨rfl, rfl⟩ : b = b' ∧ o = o' := by simpa using e'
 have c := Rx (enc := enc) (l := l) (g := 0) h4' hi (by omega)
 rw [hv] at c
 simp only [aq, sr, dr, Option.bind_some, h2']
 exact c
section
variable (p x : Nat) (rp : List Nat) (σ : a7) (K : Nat)
theorem Cw {P : SP} {H : AH} {Q : Value → AH → Prop} {k : Value × AH → OV} {a b : Int} (h : ae P H) (h0 : 0 < b) (h1 : b < 9223372036854775808) (hk : ∀ H', ae P H' → wp (k (vi (cS a b), H')) Q) : wp ((FF a9 [vi a, vi b] H).bind k) Q := by
 refine af h (b9 a b h0 h1) fun _ H1 h2 => ?_
 exact hk H1 h2.to
theorem UO (S : SI σ K) (hK : K < 200000) (hfl : ∀ q ∈ σ.obs, 0 ≤ q.1.flow ∧ q.1.flow < 1000) (n : Int) (hn : -4611686018427387904 ≤ n ∧ n < 4611686018427387904) :
 Sp jJ [.agg [vp p, vp x].toArray, vi n] (bm p rp σ * bj x σ) (fun _ : a7 => vb true) (fun σ' => pu (After σ σ' (K + 8)) * (bm p rp σ' * bj x σ')) := by
 have hc := b7.1 S.c
 have hobs := S.obs
 refine av fun R H h => ?_
 refine aw (fun r => vE _ _ H) ?_
 refine aG (l := [vp p, vp x]) h fun pb H1 h1 => ?_
 refine am h1 ah rfl ?_
 obtain ⟨g, rfl, hg, k1⟩ := ee (p := p) (rp := rp) (σ := σ) (R := bj x σ * (blk pb (.cells false [vp p, vp x]) * R)) (H := H1) h1.to
 obtain ⟨gx, hgx, l1⟩ := ef (p := x) (σ := σ) (R := aH p g σ * (blk pb (.cells false [vp p, vp x]) * R)) (H := H1) k1.to
 refine am l1 ac rfl ?_
 have l1u := l1
 unfold ay at l1u
 have hxl := hgx.1
 refine dH (s := gx.rv) (l := gx.rp) l1u ?_
 by_cases h0 : gx.rp.length = 0
 ·refine aa (bp (by omega)) ?_
  with_reducible repeat refine gg ?_
  refine ap ⟨σ, rfl, ?_⟩
  rw [ar, ae.pu]
  refine ⟨⟨S.mono (by omega), rfl, rfl, rfl⟩, ?_⟩
  have l2 := cG (p := x) (σ := σ) (R := aH p g σ * (blk pb (.cells false [vp p, vp x]) * R)) gx hgx l1
  have k2 := bo (p := p) (rp := g.rp) (σ := σ) (R := bj x σ * (blk pb (.cells false [vp p, vp x]) * R)) (H := H1) g rfl hg l2.to
  exact k2.to
 ·refine aa (aS (by omega)) ?_
  with_reducible repeat refine gg ?_
  have q4 := agD 4 (by omega) hn
  refine aa (sy (by omega) (by omega) (by omega)) ?_
  refine am l1 ah rfl ?_
  refine am l1 ac rfl ?_
  refine dH (s := gx.rv) (l := gx.rp) l1u ?_
  refine Cw l1 (by omega) (by omega) fun H2 l2 => ?_
  have m0 := dM (v := n.tdiv 4) (n := gx.rp.length) (by omega)
  obtain ⟨o, ho⟩ : ∃ o : Nat, (o : Int) = cS (n.tdiv 4) gx.rp.length := ⟨(cS (n.tdiv 4) gx.rp.length).toNat, by omega⟩
  rw [← ho]
  rw [← ho] at m0
  have hol : o < σ.obs.length := by omega
  obtain ⟨b, hb⟩ : ∃ b, g.rp[o]? = some b := ⟨_, List.getElem?_eq_getElem (by omega)⟩
  obtain ⟨bx, hbx⟩ : ∃ b, gx.rp[o]? = some b := ⟨_, List.getElem?_eq_getElem (by omega)⟩
  refine am l2 ah rfl ?_
  refine af l2 (xn p g σ hg o b hol hb) fun _ H3 l3 => ?_
  refine aI ah ?_
  refine aE l3 rfl ?_
  refine aA l2 l3 (by rfl) ?_
  refine aI ac ?_
  refine aE l3 rfl ?_
  refine aA l2 l3 (by rfl) ?_
  have l3u := l3
  unfold ay at l3u
  have l2u := l2
  unfold ay at l2u
  have hbx' : lc (gx.rp[o]'(by omega)) = [vp bx] := by
   rw [List.getElem?_eq_getElem (by omega)] at hbx
   rw [Option.some.inj hbx]
  refine HH (s := gx.rv) (enc := lc) (l := gx.rp) (i := o) l3u (by omega) hbx' fun a ha => ?_
  refine aa (ha l3u) ?_
  refine rO ((ha l2u).trans (ha l3u).symm) ?_
  refine aa (v := vb false) rfl ?_
  with_reducible repeat refine gg ?_
  -- the ring of the reference
  have ob : ay x gx σ = ay x gx σ := rfl
  obtain ⟨Rr, er1, er2⟩ := nS x gx σ o bx hxl hol hbx
  have l4 : ae (ca gx.m o bx (az σ o) * (bi gx.m σ.μ * (fw gx.ib gx.m σ.c.sh σ.nx σ.μ.N * (Rr * (aH p g σ * (blk pb (.cells false [vp p, vp x]) * R)))))) H3 := by
   have l5 : ae (ay x gx σ * (aH p g σ * (blk pb (.cells false [vp p, vp x]) * R))) H3 := l3.to
   rw [er1 _ rfl] at l5
   exact l5.to
  obtain ⟨cv, l6⟩ := di l4
  refine aI ac ?_
  refine aE l6 rfl ?_
  refine af l6 (cw 11 (o : Int) 0) fun _ H4 l7 => ?_
  refine aA l7 l6 (by rfl) ?_
  refine af l7 (J1 gx.m σ.μ (11, (o : Int), 0) (by have := S.N; omega)) fun _ H5 l8 => ?_
  refine aI ac ?_
  refine aE l8 rfl ?_
  refine aA l6 l8 (by rfl) ?_
  refine aA l7 l8 (by rfl) ?_
  refine af l8 (cw 12 (o : Int) 0) fun _ H6 l9 => ?_
  refine aA l9 l8 (by rfl) ?_
  refine af l9 (J1 gx.m { σ.μ with N := σ.μ.N + 1 } (12, (o : Int), 0) (by have := S.N; show σ.μ.N + 1 < _; omega)) fun _ H7 l10 => ?_
  refine ag (qV ..) ?_
  -- both parts again, each a little older
  obtain ⟨σ1, hs1⟩ : ∃ σ1, σ1 = σ.bump 2 := ⟨_, rfl⟩
  have S1 : SI σ1 (K + 2) := by rw [hs1]; exact S.bump 2
  have m1 : ae (aH p g σ1 * (ay x gx σ1 * (blk pb (.cells false [vp p, vp x]) * R))) H7 := by
   have q1 : ae (ca gx.m o bx (az σ o) * (bi gx.m { σ.μ with N := σ.μ.N + 2 } * (fw gx.ib gx.m σ.c.sh σ.nx σ.μ.N * (Rr * (aH p g σ * (blk pb (.cells false [vp p, vp x]) * R)))))) H7 := gY (cv := cv) l10.to
   have q2 := lx (L' := σ.μ.N + 2) (by omega) (ae.fr (A := fw gx.ib gx.m σ.c.sh σ.nx σ.μ.N) q1)
   have q3 : ae (ay x gx (σ.bump 2) * (aH p g σ * (blk pb (.cells false [vp p, vp x]) * R))) H7 := by
    have e2 := er2 { σ.μ with N := σ.μ.N + 2 } (az σ o)
    rw [BB hol] at e2
    have e3 : ay x gx (σ.bump 2) = _ := e2
    rw [e3]
    exact q2.to
   have q5 : ae (aH p g σ * (ay x gx (σ.bump 2) * (blk pb (.cells false [vp p, vp x]) * R))) H7 := q3.to
   unfold aH at q5
   have q6 := jl (V := σ.μ.V) (E := σ.μ.E) (N := σ.μ.N) (N' := σ.μ.N + 2) (by omega) (ae.fr (A := bd g.m σ.μ) q5)
   rw [hs1]
   unfold aH
   exact q6.to
  have es : σ1.obs = σ.obs ∧ σ1.c = σ.c ∧ σ1.μ.V = σ.μ.V ∧ σ1.places = σ.places ∧ σ.μ.N ≤ σ1.μ.N ∧ σ1.μ.N < 800000 := by rw [hs1]; exact ⟨rfl, rfl, rfl, rfl, by simp, by have := S.N; show σ.μ.N + 2 < _; omega⟩
  clear hs1
  obtain ⟨eo, ec, eV, ep, eN, eN8⟩ := es
  have hg1 : g.rp.length = σ1.obs.length := by rw [eo]; exact hg
  have hx1 : gx.rp.length = σ1.obs.length := by rw [eo]; exact hxl
  have ho1 : o < σ1.obs.length := by rw [eo]; exact hol
  have done : ∀ (σ' : a7) (H : AH), After σ σ' (K + 8) → σ'.places = σ.places → σ.μ.N ≤ σ'.μ.N → ae (aH p g σ' * (ay x gx σ' * (blk pb (.cells false [vp p, vp x]) * R))) H → ae (pu (After σ σ' (K + 8)) * (bm p g.rp σ' * bj x σ') * R) H := by
   intro σ' H A hpl hN h
   rw [ar, ae.pu]
   refine ⟨A, ?_⟩
   have q1 := bo (p := p) (rp := g.rp) (σ := σ') (R := ay x gx σ' * (blk pb (.cells false [vp p, vp x]) * R)) (H := H) g rfl (by rw [A.obs]; exact hg) h
   have q2 := cG (p := x) (σ := σ') (R := bm p g.rp σ' * (blk pb (.cells false [vp p, vp x]) * R)) (H := H) gx ⟨by rw [A.obs]; exact hxl, by rw [hpl]; exact hgx.2.1, Nat.le_trans hgx.2.2 hN⟩ q1.to
   exact q2.to
  clear l10 l9 l8 l7 l6 l4 l3 l2 l1 k1 l3u l2u l1u h1 h
  refine Cw m1 (by omega) (by omega) fun H8 m2 => ?_
  refine ag (qW ..) ?_
  have hw : σ.μ.V (11, (o : Int), 0) < 18446744073709551616 := S.V _
  have hN8 : σ1.μ.N < 1099511627000 := by omega
  by_cases c0 : cS n 4 = 0
  ·refine aa (bp c0) ?_
   with_reducible repeat refine gg ?_
   refine am m2 ah rfl ?_
   refine af m2 (JL p g σ1 5 eN8) fun _ H9 m3 => ?_
   refine am m3 ah rfl ?_
   refine af m3 (KN x gx σ1 5 eN8) fun _ H10 m4 => ?_
   refine ag (jR ..) ?_
   exact ap ⟨_, rfl, done (σ1.mem (σ1.μ.cnt 5 (2, 0, 0) 1)) H10 ⟨(S1.cnt 5 (2, 0, 0) 1 (by simp) (by simp)).mono (by omega), ec, by show σ1.obs.length = _; rw [eo], by show (σ1.obs.map _) = _; rw [eo]⟩ ep (by show σ.μ.N ≤ σ1.μ.N + 2; omega) m4.to⟩
  ·refine aa (aS c0) ?_
   with_reducible repeat refine gg ?_
   by_cases c1 : cS n 4 = 1
   ·refine aa (bp c1) ?_
    with_reducible repeat refine gg ?_
    refine af m2 (g7 (p := p) hg1 ho1 hb (Vi g.m o b (az σ1 o) σ1.μ 5 (σ.μ.V (11, (o : Int), 0)) hw hN8)) fun _ H9 m3 => ?_
    have ht : σ1.μ.N ≤ (σ1.μ.turn 5 o (σ.μ.V (11, (o : Int), 0)) (aZ (σ.μ.V (11, (o : Int), 0)) 1)).N := by cases aZ (σ.μ.V (11, (o : Int), 0)) 1 <;> simp
    refine af m3 (g8 (p := x) ht hx1 ho1 hbx (sZ gx.m o bx (az σ1 o) σ1.μ 5 (σ.μ.V (11, (o : Int), 0)) 1 (by omega) hw hN8)) fun _ H10 m4 => ?_
    refine aa (v := vb true) (by cases eJ σ1.μ o (σ.μ.V (11, (o : Int), 0)) (aZ (σ.μ.V (11, (o : Int), 0)) 1) <;> rfl) ?_
    exact ap ⟨_, rfl, done (σ1.mem (σ1.μ.turn 5 o (σ.μ.V (11, (o : Int), 0)) (aZ (σ.μ.V (11, (o : Int), 0)) 1))) H10 ⟨(S1.turn 5 o _ 1).mono (by omega), ec, by show σ1.obs.length = _; rw [eo], by show (σ1.obs.map _) = _; rw [eo]⟩ ep (Nat.le_trans eN ht) m4.to⟩
   ·refine aa (aS c1) ?_
    with_reducible repeat refine gg ?_
    by_cases c2 : cS n 4 = 2
    ·refine aa (bp c2) ?_
     with_reducible repeat refine gg ?_
     have hh := S.head o
     refine af m2 (g7 (p := p) hg1 ho1 hb (Vh g.m o b (az σ1 o) σ1.μ 5 (σ.μ.V (12, (o : Int), 0)) (by omega) hN8)) fun _ H9 m3 => ?_
     refine af m3 (g8 (p := x) (μ' := (σ1.μ.acc 5 2 (12, (o : Int), 0)).put (12, (o : Int), 0) (σ.μ.V (12, (o : Int), 0) + 1)) (by simp) hx1 ho1 hbx (OQ gx.m o bx (az σ1 o) σ1.μ 5 (σ.μ.V (12, (o : Int), 0)) (by omega) hN8)) fun _ H10 m4 => ?_
     refine ag (jR ..) ?_
     exact ap ⟨_, rfl, done (σ1.mem ((σ1.μ.acc 5 2 (12, (o : Int), 0)).put (12, (o : Int), 0) (σ.μ.V (12, (o : Int), 0) + 1))) H10 ⟨((S1.acc 5 2 (12, (o : Int), 0)).put (12, (o : Int), 0) _ (by omega) (by simp) (.inr (by omega))).mono (by omega), ec, by show σ1.obs.length = _; rw [eo], by show (σ1.obs.map _) = _; rw [eo]⟩ ep (by show σ.μ.N ≤ σ1.μ.N + 2; omega) m4.to⟩
    ·refine aa (aS c2) ?_
     with_reducible repeat refine gg ?_
     have hf := hfl (σ.obs[o]) (List.getElem_mem hol)
     have fl : (σ1.obs.map fun q : Ob × List Pk => q.1)[o]? = some (σ.obs[o]).1 := by rw [eo, List.getElem?_map, List.getElem?_eq_getElem hol]; rfl
     refine am m2 ah rfl ?_
     refine am m2 ac rfl ?_
     have m2u := m2
     unfold ay at m2u
     refine Cy (s := gx.ov) (enc := oT) (l := σ1.obs.map fun q : Ob × List Pk => q.1) (i := o) (v := vi (σ.obs[o]).1.flow) m2u (by rw [List.length_map]; exact ho1) (by omega) (by
      rw [List.getElem?_eq_getElem (by rw [List.length_map]; exact ho1)] at fl
      rw [Option.some.inj fl]; rfl) ?_
     have hd0 : 0 ≤ (σ.obs[o]).1.flow.tdiv σ1.c.sh := Int.tdiv_nonneg hf.1 (by rw [ec]; omega)
     have hd1 : (σ.obs[o]).1.flow.tdiv σ1.c.sh ≤ (σ.obs[o]).1.flow := Int.tdiv_le_self _ hf.1
     refine am m2 ah rfl ?_
     refine am m2 ac rfl ?_
     refine am m2 ah rfl ?_
     refine am m2 (fK (bW (bW bZ))) rfl ?_
     refine aa (iD (by rw [ec]; omega)) ?_
     refine am m2 ah rfl ?_
     refine am m2 (fK (bW (bW bZ))) rfl ?_
     refine aa (sy (by rw [ec]; omega) (by omega) (by omega)) ?_
     refine af m2 (OU (p := p) (g := g) (σ := σ1) (Kv g.tb g.m σ1.c.sh.toNat σ1.c.sl.toNat σ1.μ 5 ((σ.obs[o]).1.flow.tmod σ1.c.sh) ((σ.obs[o]).1.flow.tdiv σ1.c.sh) hN8)) fun _ H9 m3 => ?_
     refine am m3 ah rfl ?_
     refine am m3 ac rfl ?_
     refine am m3 ah rfl ?_
     refine am m3 (fK (bW (bW bZ))) rfl ?_
     refine aa (iD (by rw [ec]; omega)) ?_
     refine am m3 ah rfl ?_
     refine am m3 (fK (bW (bW bZ))) rfl ?_
     refine aa (sy (by rw [ec]; omega) (by omega) (by omega)) ?_
     refine af m3 (EU (p := x) (g := gx) (σ := σ1) (μ' := (σ1.μ.acc 5 2 (10, (σ.obs[o]).1.flow.tmod σ1.c.sh, (σ.obs[o]).1.flow.tdiv σ1.c.sh)).put (10, (σ.obs[o]).1.flow.tmod σ1.c.sh, (σ.obs[o]).1.flow.tdiv σ1.c.sh) 0) (by simp) (UW gx.tb gx.m σ1.c.sh.toNat σ1.c.sl.toNat σ1.μ 5 ((σ.obs[o]).1.flow.tmod σ1.c.sh) ((σ.obs[o]).1.flow.tdiv σ1.c.sh) hN8)) fun _ H10 m4 => ?_
     obtain ⟨σ2, hs2⟩ : ∃ σ2, σ2 = σ1.mem ((σ1.μ.acc 5 2 (10, (σ.obs[o]).1.flow.tmod σ1.c.sh, (σ.obs[o]).1.flow.tdiv σ1.c.sh)).put (10, (σ.obs[o]).1.flow.tmod σ1.c.sh, (σ.obs[o]).1.flow.tdiv σ1.c.sh) 0) := ⟨_, rfl⟩
     have S2 : SI σ2 (K + 4) := by rw [hs2]; exact (S1.acc 5 2 _).clear _ _
     have o2 : σ2.obs = σ.obs := by rw [hs2]; exact eo
     have c2' : σ2.c = σ.c := by rw [hs2]; exact ec
     have p2 : σ2.places = σ.places := by rw [hs2]; exact ep
     have n2 : σ.μ.N ≤ σ2.μ.N := by rw [hs2]; show σ.μ.N ≤ σ1.μ.N + 2; omega
     rw [← hs2] at m4
     have hN2 : σ2.μ.N < 1099511627000 := by have := S2.N; omega
     refine af m4 (g7 (p := p) (σ := σ2) (by rw [o2]; exact hg) (by rw [o2]; exact hol) hb (Vj g.m o b (az σ2 o) σ2.μ 5 (σ.μ.V (11, (o : Int), 0)) hw hN2)) fun _ H11 m5 => ?_
     have ht : σ2.μ.N ≤ (σ2.μ.turn 5 o (σ.μ.V (11, (o : Int), 0)) (aZ (σ.μ.V (11, (o : Int), 0)) 2)).N := by cases aZ (σ.μ.V (11, (o : Int), 0)) 2 <;> simp
     refine af m5 (g8 (p := x) (σ := σ2) ht (by rw [o2]; exact hxl) (by rw [o2]; exact hol) hbx (sZ gx.m o bx (az σ2 o) σ2.μ 5 (σ.μ.V (11, (o : Int), 0)) 2 (by omega) hw hN2)) fun _ H12 m6 => ?_
     refine aa (v := vb true) (by cases eJ σ2.μ o (σ.μ.V (11, (o : Int), 0)) (aZ (σ.μ.V (11, (o : Int), 0)) 2) <;> rfl) ?_
     exact ap ⟨_, rfl, done (σ2.mem (σ2.μ.turn 5 o (σ.μ.V (11, (o : Int), 0)) (aZ (σ.μ.V (11, (o : Int), 0)) 2))) H12 ⟨(S2.turn 5 o _ 2).mono (by omega), c2', by show σ2.obs.length = _; rw [o2], by show (σ2.obs.map _) = _; rw [o2]⟩ p2 (Nat.le_trans n2 ht) m6.to⟩
end
section
variable (p x : Nat) (rp : List Nat)
end
def wE (V : cn → Nat) (k : Nat) : Prop := ∀ o : Int, cN (V (11, o, 0)) = true ∧ br (V (11, o, 0)) ≠ 2 ∧ aR (V (11, o, 0)) ≤ k
theorem wE.mono {V : cn → Nat} {k k' : Nat} (h : wE V k) (hk : k ≤ k') : wE V k' := fun o => ⟨(h o).1, (h o).2.1, Nat.le_trans (h o).2.2 hk⟩
theorem wE.put {V : cn → Nat} {k : Nat} (h : wE V k) (l : cn) (v : Nat) (hl : l.1 ≠ 11) : wE (fun x => if x = l then v else V x) k := by
 intro o
 show cN (if ((11 : Int), o, (0 : Int)) = l then v else V (11, o, 0)) = true ∧ br (if ((11 : Int), o, (0 : Int)) = l then v else V (11, o, 0)) ≠ 2 ∧ aR (if ((11 : Int), o, (0 : Int)) = l then v else V (11, o, 0)) ≤ k
 rw [if_neg (fun e => hl (by rw [← e]))]
 exact h o
structure JS (σ : a7) (k : Nat) : Prop where
 words : wE σ.μ.V k
 seq : σ.μ.V (2, 0, 0) = 0
 mx : ∀ s : Int, σ.μ.V (8, s, 0) = 0
structure JA (σ : a7) (t : Tk) (k : Nat) : Prop where
 words : wE σ.μ.V k
 seq : σ.μ.V (2, 0, 0) = 0
 mx : ∀ s : Int, s ≠ t.s → σ.μ.V (8, s, 0) = 0
 mutS : t.at' ≠ 4 → t.at' ≠ 5 → σ.μ.V (8, t.s, 0) = 0
 w : t.at' = 8 ∨ t.at' = 9 ∨ t.at' = 12 ∨ t.at' = 13 ∨ t.at' = 17 → t.w = σ.μ.V (11, (t.obj : Int), 0)
 full : t.at' = 15 ∨ t.at' = 16 ∨ t.at' = 17 → lr (σ.μ.V (11, (t.obj : Int), 0)) (σ.μ.V (12, (t.obj : Int), 0)) (az σ t.obj).length = true
 q : t.at' = 16 ∨ t.at' = 17 ∨ t.at' = 18 → t.q = 0
 top : t.at' = 23 ∨ t.at' = 24 → t.top = σ.μ.V (9, t.s, 0)
 ne : t.at' ≠ 20
theorem JA.new {σ : a7} {k : Nat} (h : JS σ k) (who : Int) (x : Cl) : JA σ (Tk.new σ.c who x) k :=
 ⟨h.words, h.seq, fun s _ => h.mx s, fun _ _ => h.mx _, (fun h => by simp at h), (fun h => by simp at h), (fun h => by simp at h), (fun h => by simp at h), (by simp)⟩
theorem D9 {P : SP} {H : AH} {s : Value} {l : List Int} [hR : Rd P s 1 da l] (n most : Nat) (hn : 0 < n ∧ n < 1000) (hm : most < 1000) {k : Value × AH → OV} {Q : Value → AH → Prop} (h : ae P H)
 (hk : ∀ (v : Value) (o : List Int) (H' : AH), o.length ≤ most → (∀ y ∈ o, 0 ≤ y ∧ y < n) → ae (ts 1 da v o * P) H' → wp (k (v, H')) Q) : wp ((FF Jz [s, vi (n : Int), vi (most : Int)] H).bind k) Q := by
 have law : Sp Jz [s, vi (n : Int), vi (most : Int)] P (fun g : Value × List Int => g.1) (fun g => pu (g.2.length ≤ most ∧ ∀ y ∈ g.2, 0 ≤ y ∧ y < n) * (ts 1 da g.1 g.2 * P)) := by
  refine av fun R H h => ?_
  refine aw (fun r => ai7 _ _ _ H) ?_
  refine ag (UD ..) ?_
  refine ag (UE ..) ?_
  have app : ∀ (v : Value) (o : List Int) (x : Int) (H : AH) {kk : Value × AH → OV} {Q : Value → AH → Prop}, o.length < most → ae (ts 1 da v o * (P * R)) H → (∀ v' H', ae (ts 1 da v' (o ++ [x]) * (P * R)) H' → wp (kk (v', H')) Q) →
   wp (vJ 1 1 [(vi 0)] [(0, vi x)] H fun v25 H26 => (dq 1 8 v v25 H26).bind kk) Q := by
   intro v o x H kk Q ho hh hk
   refine jH hh fun b H1 h1 => ?_
   refine fW (s := v) (l := o) (x : Int) h1 rfl ?_ (by omega) fun a c H2 h2 => ?_
   ·unfold cp; omega
   exact hk _ H2 h2.to
  have snoc : ∀ {o : List Int} {x : Int}, (∀ y ∈ o, 0 ≤ y ∧ y < (n : Int)) → ∀ y ∈ o ++ [cS x n], 0 ≤ y ∧ y < (n : Int) := by
   intro o x hv y hy
   rcases List.mem_append.1 hy with hy | hy
   ·exact hv y hy
   ·rw [List.mem_singleton.1 hy]; exact dM (by omega)
  -- one again and again
  have inner : ∀ (d i j : Nat) (ki : Int) (v : Value) (o : List Int) (H : AH) {Q : Value → AH → Prop}, most - o.length = d → o.length ≤ most → (∀ y ∈ o, 0 ≤ y ∧ y < (n : Int)) → i < l.length → 0 ≤ ki ∧ ki < 40 → j < 1000 + o.length → ae (ts 1 da v o * (P * R)) H →
   (∀ v' o' H', o.length ≤ o'.length → o'.length ≤ most → (∀ y ∈ o', 0 ≤ y ∧ y < (n : Int)) → ae (ts 1 da v' o' * (P * R)) H' → wp (GL s (vi (n : Int)) (vi (most : Int)) (.slice none 0 0) v' (vi ki) (vi (i : Int)) H') Q) →
   wp (zc s (vi (n : Int)) (vi (most : Int)) (.slice none 0 0) v (vi ki) (vi (i : Int)) (vi (j : Int)) H) Q := by
   intro d
   induction d with
   | zero =>
    intro i j ki v o H Q hd ho hv hil hki hj hh hk
    refine ag (BD ..) ?_
    refine iI (s := s) (l := l) (v := vi l[i]) hh hil rfl ?_
    refine af hh (b9 l[i] 7 (by omega) (by omega)) fun _ H1 h1 => ?_
    have m7 := dM (v := l[i]) (n := 7) (by omega)
    refine aa (iD (by omega)) ?_
    have q3 : 0 ≤ ki.tmod 3 ∧ ki.tmod 3 < 3 := ⟨Int.tmod_nonneg _ hki.1, Int.tmod_lt_of_pos _ (by omega)⟩
    have p0 : 0 ≤ cS l[i] 7 * ki.tmod 3 := Int.mul_nonneg m7.1 q3.1
    have p1 : cS l[i] 7 * ki.tmod 3 ≤ 7 * 3 := Int.mul_le_mul (by omega) (by omega) q3.1 (by omega)
    refine aa (gR (by omega) (by omega)) ?_
    have out : wp (qI s (vi (n : Int)) (vi (most : Int)) (.slice none 0 0) v (vi ki) (vi (i : Int)) H1) Q := by
     refine ag (uc ..) ?_
     exact hk v o H1 (Nat.le_refl _) ho hv h1.to
    by_cases hlt : (j : Int) < cS l[i] 7 * ki.tmod 3
    ·refine aa (bI hlt) ?_
     with_reducible repeat refine gg ?_
     refine gu (s := v) (l := o) h1 ?_
     with_reducible repeat refine gg ?_
     refine aa (bu (by omega)) ?_
     with_reducible repeat refine gg ?_
     exact out
    ·refine aa (bu hlt) ?_
     with_reducible repeat refine gg ?_
     exact out
   | succ d ih =>
    intro i j ki v o H Q hd ho hv hil hki hj hh hk
    refine ag (BD ..) ?_
    refine iI (s := s) (l := l) (v := vi l[i]) hh hil rfl ?_
    refine af hh (b9 l[i] 7 (by omega) (by omega)) fun _ H1 h1 => ?_
    have m7 := dM (v := l[i]) (n := 7) (by omega)
    refine aa (iD (by omega)) ?_
    have q3 : 0 ≤ ki.tmod 3 ∧ ki.tmod 3 < 3 := ⟨Int.tmod_nonneg _ hki.1, Int.tmod_lt_of_pos _ (by omega)⟩
    have p0 : 0 ≤ cS l[i] 7 * ki.tmod 3 := Int.mul_nonneg m7.1 q3.1
    have p1 : cS l[i] 7 * ki.tmod 3 ≤ 7 * 3 := Int.mul_le_mul (by omega) (by omega) q3.1 (by omega)
    refine aa (gR (by omega) (by omega)) ?_
    have out : wp (qI s (vi (n : Int)) (vi (most : Int)) (.slice none 0 0) v (vi ki) (vi (i : Int)) H1) Q := by
     refine ag (uc ..) ?_
     exact hk v o H1 (Nat.le_refl _) ho hv h1.to
    by_cases hlt : (j : Int) < cS l[i] 7 * ki.tmod 3
    ·refine aa (bI hlt) ?_
     with_reducible repeat refine gg ?_
     refine gu (s := v) (l := o) h1 ?_
     with_reducible repeat refine gg ?_
     refine aa (bI (by omega)) ?_
     with_reducible repeat refine gg ?_
     refine ag (Nl ..) ?_
     refine iI (s := s) (l := l) (v := vi l[i]) h1 hil rfl ?_
     refine af h1 (b9 l[i] n (by omega) (by omega)) fun _ H2 h2 => ?_
     refine app v o (cS l[i] n) H2 (by omega) h2.to fun v' H3 h3 => ?_
     refine ag (Nm ..) ?_
     refine aa (aC (by omega) (by omega)) ?_
     rw [show ((j : Nat) : Int) + 1 = ((j + 1 : Nat) : Int) from by omega]
     have hl1 : (o ++ [cS l[i] n]).length = o.length + 1 := by simp
     exact ih i (j + 1) ki v' (o ++ [cS l[i] n]) H3 (by omega) (by omega) (snoc hv) hil hki (by omega) h3 (fun v4 o4 H4 hle h1' hv' h2' => hk v4 o4 H4 (by omega) h1' hv' h2')
    ·refine aa (bu hlt) ?_
     with_reducible repeat refine gg ?_
     exact out
  have mid : ∀ (d i : Nat) (ki : Int) (v : Value) (o : List Int) (H : AH) {Q : Value → AH → Prop}, most - o.length = d → o.length ≤ most → (∀ y ∈ o, 0 ≤ y ∧ y < (n : Int)) → i ≤ o.length → 0 ≤ ki ∧ ki < 40 → ae (ts 1 da v o * (P * R)) H →
   (∀ v' o' H', o'.length ≤ most → (∀ y ∈ o', 0 ≤ y ∧ y < (n : Int)) → ae (ts 1 da v' o' * (P * R)) H' → wp (Nn s (vi (n : Int)) (vi (most : Int)) (.slice none 0 0) v' (vi ki) H') Q) →
   wp (zb s (vi (n : Int)) (vi (most : Int)) (.slice none 0 0) v (vi ki) (vi (i : Int)) H) Q := by
   intro d
   induction d using Nat.strongRecOn with
   | ind d ih =>
    intro i ki v o H Q hd ho hv hio hki hh hk
    refine ag (Nh ..) ?_
    refine dH (s := s) (l := l) hh ?_
    have out : wp (vP s (vi (n : Int)) (vi (most : Int)) (.slice none 0 0) v (vi ki) H) Q := by
     refine ag (GK ..) ?_
     exact hk v o H ho hv hh
    by_cases hil : i < l.length
    ·refine aa (bI (by omega)) ?_
     with_reducible repeat refine gg ?_
     refine gu (s := v) (l := o) hh ?_
     with_reducible repeat refine gg ?_
     by_cases hlt : o.length < most
     ·refine aa (bI (by omega)) ?_
      with_reducible repeat refine gg ?_
      refine ag (Ni ..) ?_
      refine iI (s := s) (l := l) (v := vi l[i]) hh hil rfl ?_
      refine af hh (b9 l[i] n (by omega) (by omega)) fun _ H2 h2 => ?_
      refine app v o (cS l[i] n) H2 (by omega) h2.to fun v' H3 h3 => ?_
      refine ag (Nk ..) ?_
      have hl1 : (o ++ [cS l[i] n]).length = o.length + 1 := by simp
      refine inner (most - (o.length + 1)) i 0 ki v' (o ++ [cS l[i] n]) H3 (by omega) (by omega) (snoc hv) hil hki (by omega) h3 fun v4 o4 H4 hle h1' hv' h2' => ?_
      refine ag (Nj ..) ?_
      refine aa (aC (by omega) (by omega)) ?_
      rw [show ((i : Nat) : Int) + 1 = ((i + 1 : Nat) : Int) from by omega]
      exact ih (most - o4.length) (by omega) (i + 1) ki v4 o4 H4 rfl h1' hv' (by omega) hki h2' hk
     ·refine aa (bu (by omega)) ?_
      with_reducible repeat refine gg ?_
      exact out
    ·refine aa (bu (by omega)) ?_
     with_reducible repeat refine gg ?_
     exact out
  have outer : ∀ (d k : Nat) (v : Value) (o : List Int) (H : AH), k + d = 40 → o.length ≤ most → (∀ y ∈ o, 0 ≤ y ∧ y < (n : Int)) → ae (ts 1 da v o * (P * R)) H →
   wp (GM s (vi (n : Int)) (vi (most : Int)) (.slice none 0 0) v (vi (k : Int)) H) fun v' H' => ∃ g : Value × List Int, v' = g.1 ∧ ae (pu (g.2.length ≤ most ∧ ∀ y ∈ g.2, 0 ≤ y ∧ y < n) * (ts 1 da g.1 g.2 * P) * R) H' := by
   intro d
   induction d with
   | zero =>
    intro k v o H hk ho hv hh
    refine ag (D5 ..) ?_
    refine aa (bu (by omega)) ?_
    with_reducible repeat refine gg ?_
    refine ag (xi ..) ?_
    refine ag (D4 ..) ?_
    refine ap ⟨(v, o), rfl, ?_⟩
    rw [ar, ae.pu]
    exact ⟨⟨ho, hv⟩, hh.to⟩
   | succ d ih =>
    intro k v o H hk ho hv hh
    refine ag (D5 ..) ?_
    refine aa (bI (by omega)) ?_
    with_reducible repeat refine gg ?_
    refine gu (s := s) (l := l) hh ?_
    with_reducible repeat refine gg ?_
    by_cases hl0 : 0 < l.length
    ·refine aa (mJ (by omega)) ?_
     with_reducible repeat refine gg ?_
     refine ag (UF ..) ?_
     refine ag (UH ..) ?_
     refine mid (most - o.length) 0 k v o H rfl ho hv (Nat.zero_le _) (by omega) hh fun v' o' H' ho' hv' h' => ?_
     refine ag (UG ..) ?_
     refine aa (aC (by omega) (by omega)) ?_
     rw [show ((k : Nat) : Int) + 1 = ((k + 1 : Nat) : Int) from by omega]
     exact ih (k + 1) v' o' H' (by omega) ho' hv' h'
    ·refine aa (gT (by omega)) ?_
     with_reducible repeat refine gg ?_
     refine ag (xi ..) ?_
     refine ag (D4 ..) ?_
     refine ap ⟨(v, o), rfl, ?_⟩
     rw [ar, ae.pu]
     exact ⟨⟨ho, hv⟩, hh.to⟩
  have h0 := cY 1 da h
  exact outer 40 0 (.slice none 0 0) [] H rfl (Nat.zero_le _) (fun y hy => by cases hy) h0
 obtain ⟨⟨v, o⟩, H', e, h'⟩ := law emp H (by rw [cX]; exact h)
 rw [e]
 rw [cX, ae.pu] at h'
 exact hk v o H' h'.1.1 h'.1.2 h'.2
abbrev CI := Option Addr × Nat × Nat
abbrev KS (x : CI) : Value := .slice x.1 x.2.1 x.2.2
abbrev iK (x : CI) : List Value := [KS x]
instance : Enc iK 1 := ⟨fun _ => rfl, fun _ => rfl, by omega⟩
def dp : List (CI × List Cl) → SP
 | [] => emp
 | q :: l => ts 4 Cl.cells (KS q.1) q.2 * dp l
theorem tX : ∀ {LL : List (CI × List Cl)} {i : Nat} (h : i < LL.length), ∃ R, dp LL = ts 4 Cl.cells (KS LL[i].1) LL[i].2 * R ∧ ∀ q, dp (LL.set i q) = ts 4 Cl.cells (KS q.1) q.2 * R := by
 intro LL
 induction LL with
 | nil => intro i h; simp at h
 | cons q LL ih =>
  intro i h
  cases i with
  | zero => exact ⟨dp LL, rfl, fun q => rfl⟩
  | succ i =>
   obtain ⟨R, e1, e2⟩ := ih (i := i) (by simpa using h)
   refine ⟨ts 4 Cl.cells (KS q.1) q.2 * R, ?_, fun q' => ?_⟩
   ·show ts 4 Cl.cells (KS q.1) q.2 * dp LL = _
    rw [e1, bA]; rfl
   ·show ts 4 Cl.cells (KS q.1) q.2 * dp (LL.set i q') = _
    rw [e2, bA]
theorem DV {LL : List (CI × List Cl)} {i : Nat} (h : i < LL.length) : Rd (dp LL) (KS LL[i].1) 4 Cl.cells LL[i].2 := by
 obtain ⟨R, e1, _⟩ := tX h
 rw [e1]; infer_instance
abbrev bT (LL : List (CI × List Cl)) : List CI := LL.map fun q : CI × List Cl => q.1
theorem aaX {P : SP} {H : AH} {s : Value} {L : List Cl} [hR : Rd P s 4 Cl.cells L] (most : Nat) (hm : most < 1000) {k : Value × AH → OV} {Q : Value → AH → Prop} (h : ae P H)
 (hk : ∀ (b : Nat) (LL : List (CI × List Cl)) (H' : AH), LL.length = 4 → (∀ q ∈ LL, q.2.length ≤ most) → ae (ts 1 iK (vs b 4 1) (bT LL) * (dp LL * P)) H' → wp (k (vs b 4 1, H')) Q) :
 wp ((FF il [s, vi (most : Int)] H).bind k) Q := by
 have law : Sp il [s, vi (most : Int)] P (fun g : Nat × List (CI × List Cl) => vs g.1 4 1) (fun g => pu (g.2.length = 4 ∧ ∀ q ∈ g.2, q.2.length ≤ most) * (ts 1 iK (vs g.1 4 1) (bT g.2) * (dp g.2 * P))) := by
  refine av fun R H h => ?_
  refine aw (fun r => CY _ _ H) ?_
  refine HG (n := 4) (enc := iK) ((none, 0, 0) : CI) h rfl (by unfold cp; omega) (by omega) fun b H1 h1 => ?_
  refine ag (vy ..) ?_
  refine ag (vz ..) ?_
  have loop : ∀ (d i : Nat) (LL : List (CI × List Cl)) (H : AH), most - i = d → i ≤ most → LL.length = 4 → (∀ q ∈ LL, q.2.length ≤ i) → ae (ts 1 iK (vs b 4 1) (bT LL) * (dp LL * (P * R))) H →
   wp (jk s (vi (most : Int)) (.slice none 0 0) (vs b 4 1) (vi (i : Int)) H) fun v' H' => ∃ g : Nat × List (CI × List Cl), v' = vs g.1 4 1 ∧ ae (pu (g.2.length = 4 ∧ ∀ q ∈ g.2, q.2.length ≤ most) * (ts 1 iK (vs g.1 4 1) (bT g.2) * (dp g.2 * P)) * R) H' := by
   intro d
   induction d with
   | zero =>
    intro i LL H hd hi h4 hq hh
    have out : wp (ge (.slice none 0 0) (vs b 4 1) H) fun v' H' => ∃ g : Nat × List (CI × List Cl), v' = vs g.1 4 1 ∧ ae (pu (g.2.length = 4 ∧ ∀ q ∈ g.2, q.2.length ≤ most) * (ts 1 iK (vs g.1 4 1) (bT g.2) * (dp g.2 * P)) * R) H' := by
     refine ag (kG ..) ?_
     refine ag (mP ..) ?_
     refine ap ⟨(b, LL), rfl, ?_⟩
     rw [ar, ae.pu]
     exact ⟨⟨h4, fun q hq2 => Nat.le_trans (hq q hq2) hi⟩, hh.to⟩
    refine ag (mQ ..) ?_
    refine dH (s := s) (l := L) hh ?_
    by_cases hl : i < L.length
    ·refine aa (bI (by omega)) ?_
     with_reducible repeat refine gg ?_
     refine aa (bu (by omega)) ?_
     with_reducible repeat refine gg ?_
     exact out
    ·refine aa (bu (by omega)) ?_
     with_reducible repeat refine gg ?_
     exact out
   | succ d ih =>
    intro i LL H hd hi h4 hq hh
    have out : wp (ge (.slice none 0 0) (vs b 4 1) H) fun v' H' => ∃ g : Nat × List (CI × List Cl), v' = vs g.1 4 1 ∧ ae (pu (g.2.length = 4 ∧ ∀ q ∈ g.2, q.2.length ≤ most) * (ts 1 iK (vs g.1 4 1) (bT g.2) * (dp g.2 * P)) * R) H' := by
     refine ag (kG ..) ?_
     refine ag (mP ..) ?_
     refine ap ⟨(b, LL), rfl, ?_⟩
     rw [ar, ae.pu]
     exact ⟨⟨h4, fun q hq2 => Nat.le_trans (hq q hq2) hi⟩, hh.to⟩
    refine ag (mQ ..) ?_
    refine dH (s := s) (l := L) hh ?_
    by_cases hl : i < L.length
    case neg =>
     refine aa (bu (by omega)) ?_
     with_reducible repeat refine gg ?_
     exact out
    refine aa (bI (by omega)) ?_
    with_reducible repeat refine gg ?_
    refine aa (bI (by omega)) ?_
    with_reducible repeat refine gg ?_
    refine ag (vA ..) ?_
    refine sT (s := s) (l := L) hh hl ?_
    refine af hh (US L[i]) fun y H2 h2 => ?_
    refine aO h2 fun cb H3 h3 => ?_
    refine bX h3 rfl rfl fun H4 h4' => ?_
    refine aK h4' ah rfl rfl fun H5 h5 => ?_
    refine ag (vC ..) ?_
    refine Cy (s := s) (l := L) (v := vi L[i].a) h5 hl (by omega) rfl ?_
    refine Cw h5 (by omega) (by omega) fun H6 h6 => ?_
    have tail : ∀ (z : Cl) (H : AH), ae (blk cb (.cells false (Cl.cells z)) * (ts 1 iK (vs b 4 1) (bT LL) * (dp LL * (P * R)))) H →
     wp (ic s (vi (most : Int)) (.slice none 0 0) (vs b 4 1) (vi (i : Int)) (vp cb) H) fun v' H' => ∃ g : Nat × List (CI × List Cl), v' = vs g.1 4 1 ∧ ae (pu (g.2.length = 4 ∧ ∀ q ∈ g.2, q.2.length ≤ most) * (ts 1 iK (vs g.1 4 1) (bT g.2) * (dp g.2 * P)) * R) H' := by
     intro z H hz
     have hw4 : i % 4 < LL.length := by omega
     have hhl : (bT LL).length = LL.length := by simp [bT]
     refine ag (tS ..) ?_
     refine aK hz ah rfl rfl fun H7 h7 => ?_
     refine aa (iD (by omega)) ?_
     refine aa (iD (by omega)) ?_
     rw [show (i : Int).tmod 4 = ((i % 4 : Nat) : Int) from by rw [Int.tmod_eq_emod_of_nonneg (by omega)]; omega]
     refine adL (s := vs b 4 1) (l := bT LL) (i := i % 4) (v := KS LL[i % 4].1) h7 (by omega) (by simp [bT]) ?_
     refine aL h7 ?_
     refine jH h7 fun rb H8 h8 => ?_
     obtain ⟨Rr, e1, e2⟩ := tX hw4
     have hql := hq LL[i % 4] (List.getElem_mem hw4)
     rw [e1] at h8
     refine fW (s := KS LL[i % 4].1) (l := LL[i % 4].2) (⟨z.op, z.flow, z.a, (i : Int)⟩ : Cl) h8 rfl ?_ (by omega) fun a c H9 h9 => ?_
     ·unfold cp; omega
     refine EO (s := vs b 4 1) (l := bT LL) (i := i % 4) ((a, LL[i % 4].2.length + 1, c) : CI) h9 (by omega) (.inl ⟨rfl, rfl⟩) rfl (by omega) rfl rfl fun H10 h10 => ?_
     refine ag (vB ..) ?_
     refine aa (aC (by omega) (by omega)) ?_
     rw [show ((i : Nat) : Int) + 1 = ((i + 1 : Nat) : Int) from by omega]
     have eh : bT (LL.set (i % 4) ((a, LL[i % 4].2.length + 1, c), LL[i % 4].2 ++ [⟨z.op, z.flow, z.a, (i : Int)⟩])) = (bT LL).set (i % 4) (a, LL[i % 4].2.length + 1, c) := by
      simp [bT, List.map_set]
     refine ih (i + 1) (LL.set (i % 4) ((a, LL[i % 4].2.length + 1, c), LL[i % 4].2 ++ [⟨z.op, z.flow, z.a, (i : Int)⟩])) H10 (by omega) (by omega) (by rw [List.length_set]; exact h4) (fun q hq2 => ?_) ?_
     ·rcases List.mem_or_eq_of_mem_set hq2 with hq2 | rfl
      ·have := hq q hq2; omega
      ·simp; omega
     ·rw [eh, e2]
      exact h10.to
    by_cases hg : 0 < cS L[i].a 5
    ·refine aa (mJ hg) ?_
     with_reducible repeat refine gg ?_
     refine Cy (s := s) (l := L) (v := vi L[i].a) h6 hl (by omega) rfl ?_
     refine Cw h6 (by omega) (by omega) fun H7 h7 => ?_
     have m9 := dM (v := L[i].a) (n := 9) (by omega)
     refine aa (aC (by omega) (by omega)) ?_
     refine aK h7 ah rfl rfl fun H8 h8 => ?_
     exact tail ⟨3, y.flow, 1 + cS L[i].a 9, y.b⟩ H8 h8.to
    ·refine aa (gT hg) ?_
     with_reducible repeat refine gg ?_
     exact tail ⟨3, y.flow, y.a, y.b⟩ H6 h6.to
  refine loop most 0 [((none, 0, 0), []), ((none, 0, 0), []), ((none, 0, 0), []), ((none, 0, 0), [])] H1 rfl (Nat.zero_le _) rfl (fun q hq => by
   simp only [List.mem_cons, List.not_mem_nil, or_false] at hq
   rcases hq with rfl | rfl | rfl | rfl <;> simp) ?_
  have z := cY 4 Cl.cells (cY 4 Cl.cells (cY 4 Cl.cells (cY 4 Cl.cells h1)))
  show ae (ts 1 iK (vs b 4 1) (List.replicate 4 ((none, 0, 0) : CI)) * ((ts 4 Cl.cells (.slice none 0 0) [] * (ts 4 Cl.cells (.slice none 0 0) [] * (ts 4 Cl.cells (.slice none 0 0) [] * (ts 4 Cl.cells (.slice none 0 0) [] * emp)))) * (P * R))) H1
  exact z.to
 obtain ⟨⟨b, LL⟩, H', e, h'⟩ := law emp H (by rw [cX]; exact h)
 rw [e]
 rw [cX, ae.pu] at h'
 exact hk b LL H' h'.1.1 h'.1.2 h'.2
instance {c : Bool} {e1 : Option Value} {k : Value → OV} : Gd ((uY (yv undef) c e1 (some undef)).bind k) (k undef) := ⟨fun h => by cases c <;> exact h⟩
theorem nf {P : SP} {H : AH} {b w n : Nat} {kk : IntKind} {ro : Bool} {cs : List Value} {v : Value} {Q : Value → AH → Prop} {k : Value → OV} (h : ae P H) [i : Hs P b (.cells ro cs)] (hw : w < n) (hv : cs[w]? = some v) (hk : wp (k v) Q) : wp (ld [.a n 1 (.int kk (w : Int))] (vp b) H k) Q :=
 am h (o := w) (fun k => by rw [akB hw]; show k (oM b (0 + w * 1)) = _; rw [Nat.zero_add, Nat.mul_one]) hv hk
theorem Oy (cs : List Value) (w : Nat) (v : Value) (h : w < cs.length) : splice cs w [v] = cs.set w v := by
 unfold splice
 rw [List.set_eq_take_append_cons_drop, if_pos h]
 simp
theorem Sa {P P' : SP} {H : AH} {b w n : Nat} {kk : IntKind} {cs : List Value} {v : Value} {Q : Value → AH → Prop} {k : AH → OV} (h : ae P H) [i : Hs P b (.cells false cs)] (hw : w < n) (hn : cs.length = n) [c : s0 v [v]] (hv : [v].all Value.oneCell' = true) [u : Up P b (.cells false (cs.set w v)) P']
 (hk : ∀ H', ae P' H' → wp (k H') Q) : wp (st 1 [.a n 1 (.int kk (w : Int))] (vp b) v H k) Q := by
 haveI : uZ cs w [v] (cs.set w v) := ⟨by simp; omega, (Oy cs w v (by omega)).symm⟩
 exact aK h (o := w) (fun k => by rw [akB hw]; show k (oM b (0 + w * 1)) = _; rw [Nat.zero_add, Nat.mul_one]) rfl hv hk
abbrev Wk := Option (Nat × Nat × Tk)
def wkP (p x : Nat) (rp : List Nat) : Wk → SP
 | none => emp
 | some q => eT q.1 p rp q.2.2 * xT q.2.1 x q.2.2
def Wc (p x : Nat) (rp : List Nat) : List Wk → SP
 | [] => emp
 | q :: l => wkP p x rp q * Wc p x rp l
theorem EP (p x : Nat) (rp : List Nat) : ∀ {ws : List Wk} {i : Nat} (h : i < ws.length), ∃ R, Wc p x rp ws = wkP p x rp ws[i] * R ∧ ∀ q, Wc p x rp (ws.set i q) = wkP p x rp q * R := by
 intro ws
 induction ws with
 | nil => intro i h; simp at h
 | cons q ws ih =>
  intro i h
  cases i with
  | zero => exact ⟨Wc p x rp ws, rfl, fun q => rfl⟩
  | succ i =>
   obtain ⟨R, e1, e2⟩ := ih (i := i) (by simpa using h)
   refine ⟨wkP p x rp q * R, ?_, fun q' => ?_⟩
   ·show wkP p x rp q * Wc p x rp ws = _
    rw [e1, bA]; rfl
   ·show wkP p x rp q * Wc p x rp (ws.set i q') = _
    rw [e2, bA]
def WkR (σ : a7) (q : Wk) (ev xv : Value) : Prop := match q with
 | none => xv = .pointer none
 | some q => ev = vp q.1 ∧ xv = vp q.2.1 ∧ fY σ q.2.2
structure WsR (σ : a7) (ws : List Wk) (ev xv : List Value) (ats : List Nat) : Prop where
 l : ws.length = 4
 el : ev.length = 4
 xl : xv.length = 4
 al : ats.length = 4
 r : ∀ w (h : w < 4), WkR σ (ws[w]'(by omega)) (ev[w]'(by omega)) (xv[w]'(by omega))
theorem WkR.mono {σ σ' : a7} {q : Wk} {ev xv : Value} (h : WkR σ q ev xv) (hc : σ'.c = σ.c) (ho : σ'.obs.length = σ.obs.length) : WkR σ' q ev xv := by
 cases q with
 | none => exact h
 | some q => exact ⟨h.1, h.2.1, h.2.2.mono hc ho⟩
theorem WsR.mono {σ σ' : a7} {ws : List Wk} {ev xv : List Value} {ats : List Nat} (h : WsR σ ws ev xv ats) (hc : σ'.c = σ.c) (ho : σ'.obs.length = σ.obs.length) : WsR σ' ws ev xv ats :=
 ⟨h.l, h.el, h.xl, h.al, fun w hw => (h.r w hw).mono hc ho⟩
theorem WsR.set {σ : a7} {ws : List Wk} {ev xv : List Value} {ats : List Nat} (h : WsR σ ws ev xv ats) {w : Nat} (hw : w < 4) {q : Wk} {e2 x2 : Value} (a : Nat) (hq : WkR σ q e2 x2) : WsR σ (ws.set w q) (ev.set w e2) (xv.set w x2) (ats.set w a) := by
 refine ⟨by simp [h.l], by simp [h.el], by simp [h.xl], by simp [h.al], fun w' hw' => ?_⟩
 rw [List.getElem_set, List.getElem_set, List.getElem_set]
 by_cases e : w = w'
 ·rw [if_pos e, if_pos e, if_pos e]; exact hq
 ·rw [if_neg e, if_neg e, if_neg e]; exact h.r w' hw'
theorem pR {α : Type} {l : List α} {i : Nat} (h : i < l.length) : l.set i l[i] = l := List.set_getElem_self h
theorem Rh : ai .ptr .eql (.pointer none) (.pointer none) = some (vb true) := rfl
theorem aaV : ai .ptr .neq (.pointer none) (.pointer none) = some (vb false) := rfl
theorem afT (b : Nat) : ai .ptr .neq (vp b) (.pointer none) = some (vb true) := rfl
section
variable (p x pb eb xb ab : Nat) (rp : List Nat) (lb : Nat) (LL : List (CI × List Cl)) (pv : Value) (picks : List Int) (blows : Bool) (most : Nat) (c0 : f0) (HD : List Ob)
abbrev TuP (σ : a7) (ws : List Wk) (ev xv : List Value) (ats : List Nat) (R : SP) : SP :=
 blk pb (.cells false [vp p, vp x]) * (blk eb (.cells false ev) * (blk xb (.cells false xv) * (blk ab (.cells false (ats.map fun (n : Nat) => vi (n : Int))) * (bm p rp σ * (bj x σ * (Wc p x rp ws * (ts 1 iK (vs lb 4 1) (bT LL) * (dp LL * R))))))))
structure PaR (σ : a7) (K : Nat) : Prop where
 si : SI σ K
 hd : (σ.obs.map fun q => q.1) = HD
def TuQ (R : SP) (v' : Value) (H' : AH) : Prop := ∃ (b : Bool) (σ' : a7), v' = .tuple #[vb b, vb true] ∧ SI σ' 20000 ∧ ae (bm p rp σ' * (bj x σ' * R)) H'
theorem V2 (hL : LL.length = 4) {R : SP} {σ : a7} {ws : List Wk} {ev xv : List Value} {ats : List Nat} {H : AH} (S : SI σ 20000) (W : WsR σ ws ev xv ats)
 (h : ae (TuP p x pb eb xb ab rp lb LL σ ws ev xv ats R) H) (x10 x11 : Value) :
 wp (MX (vs lb 4 1) x10 x11 (vp xb) (vp ab) H) (TuQ p x rp R) := by
 have hhl : (bT LL).length = 4 := by simp [bT, hL]
 have fin : ∀ b, ∃ (b' : Bool) (σ' : a7), (.tuple #[vb b, vb true] : Value) = .tuple #[vb b', vb true] ∧ SI σ' 20000 ∧ ae (bm p rp σ' * (bj x σ' * R)) H := fun b => ⟨b, σ, rfl, S, h.to⟩
 refine ag (Uq ..) ?_
 refine ag (Us ..) ?_
 have loop : ∀ (d w : Nat), w + d = 4 → wp (Gz (vs lb 4 1) x10 x11 (vp xb) (vp ab) (vi (w : Int)) H) (TuQ p x rp R) := by
  intro d
  induction d with
  | zero =>
   intro w hw
   refine ag (DU ..) ?_
   refine aa (bu (by omega)) ?_
   with_reducible repeat refine gg ?_
   refine ag (Jq ..) ?_
   refine ag (Ur ..) ?_
   exact ap (fin true)
  | succ d ih =>
   intro w hw
   have hw4 : w < 4 := by omega
   have hwL : w < LL.length := by omega
   refine ag (DU ..) ?_
   refine aa (bI (by omega)) ?_
   with_reducible repeat refine gg ?_
   refine gu (s := vs lb 4 1) (l := bT LL) h ?_
   with_reducible repeat refine gg ?_
   refine aa (bI (by omega)) ?_
   with_reducible repeat refine gg ?_
   refine ag (Ut ..) ?_
   refine nf (v := xv[w]'(by rw [W.xl]; exact hw4)) h hw4 (List.getElem?_eq_getElem _) ?_
   have wr := W.r w hw4
   have next : wp (M5 (vs lb 4 1) x10 x11 (vp xb) (vp ab) (vi (w : Int)) H) (TuQ p x rp R) := by
    refine ag (Uu ..) ?_
    refine aa (aC (by omega) (by omega)) ?_
    exact ih (w + 1) (by omega)
   cases hq : ws[w]'(by rw [W.l]; exact hw4) with
   | some q =>
    rw [hq] at wr
    rw [show xv[w]'(by rw [W.xl]; exact hw4) = vp q.2.1 from wr.2.1]
    refine aa (afT _) ?_
    with_reducible repeat refine gg ?_
    exact ap (fin false)
   | none =>
    rw [hq] at wr
    rw [show xv[w]'(by rw [W.xl]; exact hw4) = .pointer none from wr]
    refine aa (aaV) ?_
    with_reducible repeat refine gg ?_
    refine nf (v := vi (ats[w]'(by rw [W.al]; exact hw4) : Nat)) h hw4 (by rw [List.getElem?_map, List.getElem?_eq_getElem (by rw [W.al]; exact hw4)]; rfl) ?_
    with_reducible repeat refine gg ?_
    refine iI (s := vs lb 4 1) (l := bT LL) (i := w) (v := KS (LL[w]'hwL).1) h (by omega) (by simp [bT]) ?_
    with_reducible repeat refine gg ?_
    haveI := DV (LL := LL) (i := w) hwL
    refine gu (s := KS (LL[w]'hwL).1) (l := (LL[w]'hwL).2) h ?_
    with_reducible repeat refine gg ?_
    by_cases hlt : ats[w]'(by rw [W.al]; exact hw4) < (LL[w]'hwL).2.length
    ·refine aa (bI (by omega)) ?_
     with_reducible repeat refine gg ?_
     exact ap (fin false)
    ·refine aa (bu (by omega)) ?_
     with_reducible repeat refine gg ?_
     exact next
 exact loop 4 0 rfl
end
theorem ac6 {x : Int} (h : -9223372036854775808 ≤ x ∧ x < 9223372036854775808) : -1100000000000000000 ≤ x.tdiv 9 ∧ x.tdiv 9 ≤ 1100000000000000000 := by
 by_cases h0 : 0 ≤ x
 ·rw [Int.tdiv_eq_ediv_of_nonneg h0]; omega
 ·have e : x.tdiv 9 = -((-x).tdiv 9) := by rw [Int.neg_tdiv, Int.neg_neg]
  rw [e, Int.tdiv_eq_ediv_of_nonneg (by omega)]
  omega
section
variable (p x pb eb xb ab : Nat) (rp : List Nat) (lb : Nat) (LL : List (CI × List Cl)) (pv : Value) (picks : List Int) (blows : Bool) (most : Nat) (HD : List Ob) (x10 x11 : Value) (Z : SP)
variable (hL : LL.length = 4) (hQ : ∀ q ∈ LL, q.2.length ≤ 1000) (hm : most ≤ 400) [hP : Rd Z pv 1 da picks] (hpk : ∀ v ∈ picks, -9223372036854775808 ≤ v ∧ v < 9223372036854775808) (hHD : ∀ q ∈ HD, 0 ≤ q.flow ∧ q.flow < 1000)
include hL hm hP hpk hHD
theorem OI : ∀ (d i K now : Nat) (σ : a7) (ws : List Wk) (ev xv : List Value) (ats : List Nat) (H : AH), i + d = most → SI σ K → K ≤ 16 + 12 * i → (σ.obs.map fun q => q.1) = HD → now ≤ i → WsR σ ws ev xv ats → (∀ a ∈ ats, a ≤ i) →
 ae (TuP p x pb eb xb ab rp lb LL σ ws ev xv ats Z) H →
 wp (y7 (vs lb 4 1) pv (vi (most : Int)) (vb blows) (vp pb) x10 x11 (vp eb) (vp xb) (vp ab) (vi (now : Int)) (vi (i : Int)) H) (TuQ p x rp Z) := by
 have hhl : (bT LL).length = 4 := by simp [bT, hL]
 intro d
 induction d with
 | zero =>
  intro i K now σ ws ev xv ats H hi S hK hhd hnow W ha h
  refine ag (Bq ..) ?_
  refine aa (bu (by omega)) ?_
  with_reducible repeat refine gg ?_
  refine ag (Gy ..) ?_
  exact V2 p x pb eb xb ab rp lb LL hL (S.mono (by omega)) W h x10 x11
 | succ d ih =>
  intro i K now σ ws ev xv ats H hi S hK hhd hnow W ha h
  refine ag (Bq ..) ?_
  refine aa (bI (by omega)) ?_
  with_reducible repeat refine gg ?_
  refine ag (MZ ..) ?_
  refine aa (iD (by omega)) ?_
  -- what is next, whatever was done
  have next : ∀ (K' now' : Nat) (σ' : a7) (ws' : List Wk) (ev' xv' : List Value) (ats' : List Nat) (H' : AH), SI σ' K' → K' ≤ 16 + 12 * (i + 1) → (σ'.obs.map fun q => q.1) = HD → now' ≤ i + 1 → WsR σ' ws' ev' xv' ats' → (∀ a ∈ ats', a ≤ i + 1) →
   ae (TuP p x pb eb xb ab rp lb LL σ' ws' ev' xv' ats' Z) H' →
   wp (tV (vs lb 4 1) pv (vi (most : Int)) (vb blows) (vp pb) x10 x11 (vp eb) (vp xb) (vp ab) (vi (now' : Int)) (vi (i : Int)) H') (TuQ p x rp Z) := by
   intro K' now' σ' ws' ev' xv' ats' H' S' hK' hhd' hnow' W' ha' h'
   refine ag (M1 ..) ?_
   refine aa (aC (by omega) (by omega)) ?_
   rw [show ((i : Nat) : Int) + 1 = ((i + 1 : Nat) : Int) from by omega]
   exact ih (i + 1) K' now' σ' ws' ev' xv' ats' H' (by omega) S' hK' hhd' hnow' W' ha' h'
  have skip : ∀ (H' : AH), ae (TuP p x pb eb xb ab rp lb LL σ ws ev xv ats Z) H' → wp (qE (vs lb 4 1) pv (vi (most : Int)) (vb blows) (vp pb) x10 x11 (vp eb) (vp xb) (vp ab) (vi (now : Int)) (vi (i : Int)) H') (TuQ p x rp Z) := by
   intro H' h'
   refine ag (tU ..) ?_
   exact next K now σ ws ev xv ats H' S (by omega) hhd (by omega) W (fun a h2 => by have := ha a h2; omega) h'
  -- a step of one that is under way
  have step : ∀ (w : Nat) (hw : w < 4) (e xk : Nat) (t : Tk) (K1 : Nat) (σ1 : a7) (ws1 : List Wk) (ev1 xv1 : List Value) (ats1 : List Nat) (H1 : AH), SI σ1 K1 → K1 ≤ 16 + 12 * i + 1 → (σ1.obs.map fun q => q.1) = HD → (W1 : WsR σ1 ws1 ev1 xv1 ats1) → (∀ a ∈ ats1, a ≤ i + 1) →
   ws1[w]'(by rw [W1.l]; exact hw) = some (e, xk, t) → ae (TuP p x pb eb xb ab rp lb LL σ1 ws1 ev1 xv1 ats1 Z) H1 →
   wp (y8 (vs lb 4 1) pv (vi (most : Int)) (vb blows) (vp pb) x10 x11 (vp eb) (vp xb) (vp ab) (vi (now : Int)) (vi (i : Int)) (vi (w : Int)) H1) (TuQ p x rp Z) := by
   intro w hw e xk t K1 σ1 ws1 ev1 xv1 ats1 H1 S1 hK1 hhd1 W1 ha1 hwk h1
   have hwl : w < ws1.length := by rw [W1.l]; exact hw
   have wr := W1.r w hw
   rw [hwk] at wr
   obtain ⟨we0, wx0, wt0⟩ := wr
   have we : ev1[w]'(by rw [W1.el]; exact hw) = vp e := we0
   have wx : xv1[w]'(by rw [W1.xl]; exact hw) = vp xk := wx0
   have wt : fY σ1 t := wt0
   obtain ⟨Rw, es1, es2⟩ := EP p x rp hwl
   rw [hwk] at es1
   have es1' : Wc p x rp ws1 = eT e p rp t * xT xk x t * Rw := es1
   have K2 := VR (now : Int) S1 wt
   refine ag (M4 ..) ?_
   refine nf (v := vp e) h1 hw (by rw [List.getElem?_eq_getElem (by rw [W1.el]; exact hw), we]) ?_
   have h2 : ae (eP e p rp σ1 t * (blk pb (.cells false [vp p, vp x]) * (blk eb (.cells false ev1) * (blk xb (.cells false xv1) * (blk ab (.cells false (ats1.map fun (n : Nat) => vi (n : Int))) * (xT xk x t * (bj x σ1 * (Rw * (ts 1 iK (vs lb 4 1) (bT LL) * (dp LL * Z)))))))))) H1 := by
    rw [WT, ar]
    unfold TuP at h1
    rw [es1'] at h1
    exact h1.to
   refine af h2 (WX e p rp σ1 t now (S1.ok (by omega)) wt) fun _ H2 h3 => ?_
   refine aa (v := .agg (nc (if (ak σ1 t now).2.2 = true then (ak σ1 t now).2.1.code else 0)).toArray) rfl ?_
   refine aa (v := vb (ak σ1 t now).2.2) rfl ?_
   refine aO h3 fun qb H3 h4 => ?_
   refine bX h4 rfl rfl fun H4 h5 => ?_
   refine nf (v := vp xk) h5 hw (by rw [List.getElem?_eq_getElem (by rw [W1.xl]; exact hw), wx]) ?_
   have h6 : ae (xP xk x σ1 t * (eQ e p rp (ak σ1 t now) * (blk qb (.cells false (nc (if (ak σ1 t now).2.2 = true then (ak σ1 t now).2.1.code else 0))) * (blk pb (.cells false [vp p, vp x]) * (blk eb (.cells false ev1) * (blk xb (.cells false xv1) * (blk ab (.cells false (ats1.map fun (n : Nat) => vi (n : Int))) * (Rw * (ts 1 iK (vs lb 4 1) (bT LL) * (dp LL * Z)))))))))) H4 := by
    rw [ak5, ar]; exact h5.to
   refine af h6 (Wd xk x σ1 t now (S1.ok (by omega)) wt) fun _ H5 h7 => ?_
   refine aa (ai4 _) ?_
   rw [ak6, akG] at h7
   refine nY ?_
   refine aL h7 ?_
   with_reducible repeat refine gg ?_
   refine nf (v := vp xk) h7 hw (by rw [List.getElem?_eq_getElem (by rw [W1.xl]; exact hw), wx]) ?_
   with_reducible repeat refine gg ?_
   refine af h7 (ac7 x xk (ak σ1 t now)) fun _ H6 h8 => ?_
   refine bg h8 h7 (by rfl) ?_
   refine zn ?_
   refine af h8 (Ji _) fun _ H7 h9 => ?_
   refine nY ?_
   refine aa wB ?_
   rw [Bool.not_true]
   refine aa (GQ _ _) ?_
   refine ajY (p := p) (x := x) (pb := pb) (rp := rp) (σ := (ak σ1 t now).1) h9 fun H8 hA => ?_
   with_reducible repeat refine gg ?_
   refine aa (aC (by omega) (by omega)) ?_
   rw [show ((now : Nat) : Int) + 1 = ((now + 1 : Nat) : Int) from by omega]
   have SI2 : SI (ak σ1 t now).1 (K1 + 3) := K2.si
   have hd2 : ((ak σ1 t now).1.obs.map fun q => q.1) = HD := K2.hd.trans hhd1
   have hel : w < ev1.length := by rw [W1.el]; exact hw
   have hxl : w < xv1.length := by rw [W1.xl]; exact hw
   have hal : w < ats1.length := by rw [W1.al]; exact hw
   cases hd : (ak σ1 t now).2.2
   ·rw [akH hd, ak7 hd] at hA
    with_reducible repeat refine gg ?_
    have W2 := (W1.mono K2.c K2.obs).set hw (q := some (e, xk, (ak σ1 t now).2.1)) (e2 := ev1[w]) (x2 := xv1[w]) ats1[w] ⟨we, wx, K2.ok hd⟩
    rw [pR hel, pR hxl, pR hal] at W2
    refine next (K1 + 3) (now + 1) _ _ ev1 xv1 ats1 H8 SI2 (by omega) hd2 (by omega) W2 ha1 ?_
    have e3 := es2 (some (e, xk, (ak σ1 t now).2.1))
    have e3' : Wc p x rp (ws1.set w (some (e, xk, (ak σ1 t now).2.1))) = eT e p rp (ak σ1 t now).2.1 * xT xk x (ak σ1 t now).2.1 * Rw := e3
    unfold TuP
    rw [e3']
    exact hA.to
   ·with_reducible repeat refine gg ?_
    refine Sa (v := .pointer none) (w := w) hA hw W1.xl rfl fun H9 hB => ?_
    have W2 := (W1.mono K2.c K2.obs).set hw (q := none) (e2 := ev1[w]) (x2 := .pointer none) ats1[w] rfl
    rw [pR hel, pR hal] at W2
    refine next (K1 + 3) (now + 1) _ _ ev1 _ ats1 H9 SI2 (by omega) hd2 (by omega) W2 ha1 ?_
    have e3 := es2 none
    have e3' : Wc p x rp (ws1.set w none) = emp * Rw := e3
    unfold TuP
    rw [e3', jg]
    exact hB.to
  -- one is picked
  have pick : ∀ (w : Nat) (hw : w < 4) (H' : AH), ae (TuP p x pb eb xb ab rp lb LL σ ws ev xv ats Z) H' →
   wp (tW (vs lb 4 1) pv (vi (most : Int)) (vb blows) (vp pb) x10 x11 (vp eb) (vp xb) (vp ab) (vi (now : Int)) (vi (i : Int)) (vi (w : Int)) H') (TuQ p x rp Z) := by
   intro w hw H' h'
   have hwL : w < LL.length := by omega
   have hwl : w < ws.length := by rw [W.l]; exact hw
   have hel : w < ev.length := by rw [W.el]; exact hw
   have hxl : w < xv.length := by rw [W.xl]; exact hw
   have hal : w < ats.length := by rw [W.al]; exact hw
   have wr := W.r w hw
   refine ag (M3 ..) ?_
   refine nf (v := xv[w]) h' hw (List.getElem?_eq_getElem _) ?_
   cases hq : ws[w] with
   | some q =>
    rw [hq] at wr
    rw [show xv[w] = vp q.2.1 from wr.2.1]
    refine aa (nT _) ?_
    with_reducible repeat refine gg ?_
    refine ag (Br ..) ?_
    refine nf (v := vp q.2.1) h' hw (by rw [List.getElem?_eq_getElem hxl, show xv[w] = vp q.2.1 from wr.2.1]) ?_
    refine aa (nT _) ?_
    with_reducible repeat refine gg ?_
    exact step w hw q.1 q.2.1 q.2.2 K σ ws ev xv ats H' S (by omega) hhd W (fun a h2 => by have := ha a h2; omega) hq h'
   | none =>
    rw [hq] at wr
    rw [show xv[w] = .pointer none from wr]
    refine aa (Rh) ?_
    with_reducible repeat refine gg ?_
    refine gu (s := vs lb 4 1) (l := bT LL) h' ?_
    with_reducible repeat refine gg ?_
    refine aa (ol (by omega)) ?_
    with_reducible repeat refine gg ?_
    have hav : (ats.map fun (n : Nat) => vi (n : Int))[w]? = some (vi (ats[w] : Nat)) := by rw [List.getElem?_map, List.getElem?_eq_getElem hal]; rfl
    refine nf (v := vi (ats[w] : Nat)) h' hw hav ?_
    with_reducible repeat refine gg ?_
    refine iI (s := vs lb 4 1) (l := bT LL) (i := w) (v := KS (LL[w]'hwL).1) h' (by omega) (by simp [bT]) ?_
    with_reducible repeat refine gg ?_
    haveI := DV (LL := LL) (i := w) hwL
    refine gu (s := KS (LL[w]'hwL).1) (l := (LL[w]'hwL).2) h' ?_
    with_reducible repeat refine gg ?_
    by_cases hge : (LL[w]'hwL).2.length ≤ ats[w]
    ·refine aa (wU (by omega)) ?_
     with_reducible repeat refine gg ?_
     exact skip H' h'
    ·refine aa (ol (by omega)) ?_
     with_reducible repeat refine gg ?_
     have hat : ats[w] < (LL[w]'hwL).2.length := by omega
     refine ag (Br ..) ?_
     refine nf (v := .pointer none) h' hw (by rw [List.getElem?_eq_getElem hxl, show xv[w] = .pointer none from wr]) ?_
     refine aa (Rh) ?_
     with_reducible repeat refine gg ?_
     refine iI (s := vs lb 4 1) (l := bT LL) (i := w) (v := KS (LL[w]'hwL).1) h' (by omega) (by simp [bT]) ?_
     refine nf (v := vi (ats[w] : Nat)) h' hw hav ?_
     refine sT (s := KS (LL[w]'hwL).1) (l := (LL[w]'hwL).2) h' hat ?_
     refine aO h' fun cb H1 h1 => ?_
     refine bX h1 rfl rfl fun H2 h2 => ?_
     refine aL h2 ?_
     refine nf (v := vi (ats[w] : Nat)) h2 hw hav ?_
     have hat400 : ats[w] ≤ i := ha _ (List.getElem_mem hal)
     refine af h2 (Nq p x rp σ w ats[w] (by have := S.N; omega)) fun _ H3 h3 => ?_
     refine am h3 ah rfl ?_
     refine aL h3 ?_
     obtain ⟨c, hc⟩ : ∃ c : Cl, c = (LL[w]'hwL).2[ats[w]]'hat := ⟨_, rfl⟩
     rw [← hc] at h3 ⊢
     have hb : dh (σ.begin w ats[w]).c = true := S.c
     refine af h3 (WW p rp (σ.begin w ats[w]) hb w c) fun e H4 h4 => ?_
     refine aI ah ?_
     refine aE h4 rfl ?_
     refine aA h3 h4 (by rfl) ?_
     refine aL h4 ?_
     refine bg h3 h4 rfl ?_
     refine af h4 (J0 x (σ.begin w ats[w]) w c 0) fun xk H5 h5 => ?_
     refine Sa (v := vp e) (w := w) h5 hw W.el rfl fun H6 h6 => ?_
     refine Sa (v := vp xk) (w := w) h6 hw W.xl rfl fun H7 h7 => ?_
     refine nf (v := vi (ats[w] : Nat)) h7 hw hav ?_
     refine aa (aC (by omega) (by omega)) ?_
     rw [show ((ats[w] : Nat) : Int) + 1 = ((ats[w] + 1 : Nat) : Int) from by omega]
     refine Sa (v := vi ((ats[w] + 1 : Nat) : Int)) (w := w) h7 hw (by rw [List.length_map]; exact W.al) rfl fun H8 h8 => ?_
     refine nf (v := vp e) h8 hw (by rw [List.getElem?_set_self hel]) ?_
     refine aa (nT _) ?_
     with_reducible repeat refine gg ?_
     have W2 := (W.mono (σ' := σ.begin w ats[w]) rfl rfl).set hw (q := some (e, xk, Tk.new (σ.begin w ats[w]).c w c)) (e2 := vp e) (x2 := vp xk) (ats[w] + 1) ⟨rfl, rfl, fY.new hb w c⟩
     obtain ⟨Rw, es1, es2⟩ := EP p x rp hwl
     rw [hq] at es1
     have es1' : Wc p x rp ws = emp * Rw := es1
     have e3 := es2 (some (e, xk, Tk.new (σ.begin w ats[w]).c w c))
     have e3' : Wc p x rp (ws.set w (some (e, xk, Tk.new (σ.begin w ats[w]).c w c))) = eT e p rp (Tk.new (σ.begin w ats[w]).c w c) * xT xk x (Tk.new (σ.begin w ats[w]).c w c) * Rw := e3
     refine step w hw e xk (Tk.new (σ.begin w ats[w]).c w c) (K + 1) (σ.begin w ats[w]) _ _ _ (ats.set w (ats[w] + 1)) H8 (S.begin _ _) (by omega) hhd W2 (fun a h2 => ?_) (by rw [List.getElem_set_self]) ?_
     ·rcases List.mem_or_eq_of_mem_set h2 with h2 | rfl
      ·have := ha a h2; omega
      ·omega
     ·unfold TuP
      rw [e3']
      have em : ((ats.set w (ats[w] + 1)).map fun (n : Nat) => vi (n : Int)) = (ats.map fun (n : Nat) => vi (n : Int)).set w (vi ((ats[w] + 1 : Nat) : Int)) := by rw [List.map_set]
      rw [em]
      rw [es1', jg] at h8
      exact h8.to
  refine ag (M2 ..) ?_
  refine dH (s := pv) (l := picks) h ?_
  rw [show (i : Int).tmod 4 = ((i % 4 : Nat) : Int) from by rw [Int.tmod_eq_emod_of_nonneg (by omega)]; omega]
  by_cases hpl : i < picks.length
  ·refine aa (bI (by omega)) ?_
   with_reducible repeat refine gg ?_
   refine iI (s := pv) (l := picks) (v := vi picks[i]) h hpl rfl ?_
   refine Cw h (by omega) (by omega) fun H1 h1 => ?_
   have m9 := dM (v := picks[i]) (n := 9) (by omega)
   have pk := hpk picks[i] (List.getElem_mem hpl)
   have other : wp ((ai .other .rem (vi (cS picks[i] 9)) (vi 4)).bind fun v123 => tW (vs lb 4 1) pv (vi (most : Int)) (vb blows) (vp pb) x10 x11 (vp eb) (vp xb) (vp ab) (vi (now : Int)) (vi (i : Int)) v123 H1) (TuQ p x rp Z) := by
    refine aa (iD (by omega)) ?_
    obtain ⟨w, hw, ew⟩ : ∃ w : Nat, w < 4 ∧ (cS picks[i] 9).tmod 4 = (w : Int) := by
     rw [Int.tmod_eq_emod_of_nonneg m9.1]
     exact ⟨(cS picks[i] 9 % 4).toNat, by omega, by omega⟩
    rw [ew]
    exact pick w hw H1 h1
   by_cases h8 : cS picks[i] 9 = 8
   ·refine aa (bp h8) ?_
    with_reducible repeat refine gg ?_
    cases hbl : blows
    ·rw [hbl] at other
     with_reducible repeat refine gg ?_
     exact other
    ·with_reducible repeat refine gg ?_
     refine aL h1 ?_
     refine iI (s := pv) (l := picks) (v := vi picks[i]) h1 hpl rfl ?_
     have q9 := ac6 pk
     refine aa (sy (by omega) (by omega) (by omega)) ?_
     refine aa (aC (by omega) (by omega)) ?_
     refine af h1 (UO p x rp σ K S (by omega) (fun q hq => hHD q.1 (by rw [← hhd]; exact List.mem_map_of_mem hq)) _ (by omega)) fun σ2 H2 h2 => ?_
     have h2' : ae (pu (After σ σ2 (K + 8)) * (bm p rp σ2 * (bj x σ2 * (blk pb (.cells false [vp p, vp x]) * (blk eb (.cells false ev) * (blk xb (.cells false xv) * (blk ab (.cells false (ats.map fun (n : Nat) => vi (n : Int))) * (Wc p x rp ws * (ts 1 iK (vs lb 4 1) (bT LL) * (dp LL * Z)))))))))) H2 := h2.to
     rw [ae.pu] at h2'
     obtain ⟨A, h3⟩ := h2'
     with_reducible repeat refine gg ?_
     rw [Bool.not_true]
     with_reducible repeat refine gg ?_
     refine ag (tU ..) ?_
     have := next (K + 8) now σ2 ws ev xv ats H2 A.si (by omega) (A.hd.trans hhd) (by omega) (W.mono A.c A.obs) (fun a h2 => by have := ha a h2; omega) h3.to
     rw [hbl] at this
     exact this
   ·refine aa (aS h8) ?_
    with_reducible repeat refine gg ?_
    exact other
  ·refine aa (bu (by omega)) ?_
   with_reducible repeat refine gg ?_
   exact pick (i % 4) (by omega) H h
end
def CT (f : Value → Value → Bool) : List Value → List Value → Bool
 | [], [] => true
 | x :: xs, y :: ys => f x y && CT f xs ys
 | _, _ => false
def eqV : Nat → Value → Value → Bool
 | _, .bool a, .bool b => a == b
 | _, .int k a, .int k' b => decide (k = k') && decide (a = b)
 | _, .string a, .string b => decide (a = b)
 | _, .pointer a, .pointer b => decide (a = b)
 | _, .slice a n e, .slice a' n' e' => decide (a = a') && decide (n = n') && decide (e = e')
 | _, .map a, .map b => decide (a = b)
 | _, .nilFunc, .nilFunc => true
 | _, .nilIface, .nilIface => true
 | n + 1, .agg xs, .agg ys => CT (eqV n) xs.toList ys.toList
 | n + 1, .tuple xs, .tuple ys => CT (eqV n) xs.toList ys.toList
 | n + 1, .func f xs zs, .func f' ys ws => decide (f = f') && CT (eqV n) xs.toList ys.toList && CT (eqV n) zs.toList ws.toList
 | _, _, _ => false
theorem zU {f : Value → Value → Bool} (hf : ∀ x y, f x y = true → x = y) : ∀ xs ys, CT f xs ys = true → xs = ys := by
 intro xs
 induction xs with
 | nil => intro ys h; cases ys with | nil => rfl | cons y ys => simp [CT] at h
 | cons x xs ih =>
  intro ys h
  cases ys with
  | nil => simp [CT] at h
  | cons y ys =>
   simp only [CT, Bool.and_eq_true] at h
   rw [hf _ _ h.1, ih _ h.2]
theorem Du : ∀ (n : Nat) (x y : Value), eqV n x y = true → x = y := by
 intro n
 induction n with
 | zero =>
  intro x y h
  cases x <;> cases y <;> simp_all [eqV]
 | succ n ih =>
  have hl := zU ih
  intro x y h
  cases x <;> cases y <;> simp_all [eqV]
  ·exact ⟨Array.toList_inj.1 (hl _ _ h.1.2), Array.toList_inj.1 (hl _ _ h.2)⟩
  ·exact Array.toList_inj.1 (hl _ _ h)
  ·exact Array.toList_inj.1 (hl _ _ h)
def eqO : Option Value → Option Value → Bool
 | none, none => true
 | some x, some y => eqV 4 x y
 | _, _ => false
theorem SR {x y : Option Value} (h : eqO x y = true) : x = y := by
 cases x <;> cases y <;> simp_all [eqO]
 exact Du _ _ _ h
section
variable (g d : Nat)
def yD (b : Nat) : Nat := if b < g then b else b + d
def xt (a : Addr) : Addr := { a with block := yD g d a.block }
def bw : Value → Value
 | .pointer a => .pointer (a.map (xt g d))
 | .slice a n e => .slice (a.map (xt g d)) n e
 | .map r => .map (r.map (yD g d))
 | .func fn f c => .func fn (f.map bw) (c.map bw)
 | .iface t v => .iface t (bw v)
 | .agg cs => .agg (cs.map bw)
 | .tuple cs => .tuple (cs.map bw)
 | v => v
end
abbrev fN (g d : Nat) (l : List Value) : List Value := l.map (bw g d)
section
variable {g d : Nat}
theorem RU {a b : Nat} (h : yD g d a = yD g d b) : a = b := by unfold yD at h; split at h <;> split at h <;> omega
@[simp] theorem RV (b : Bool) : (bw g d) (.bool b) = .bool b := by rw [bw] <;> simp
@[simp] theorem wu (k : IntKind) (n : Int) : (bw g d) (.int k n) = .int k n := by rw [bw] <;> simp
@[simp] theorem akZ (k : FloatKind) (n : Nat) : (bw g d) (.float k n) = .float k n := by rw [bw] <;> simp
@[simp] theorem ajS (k : FloatKind) (n m : Nat) : (bw g d) (.complex k n m) = .complex k n m := by rw [bw] <;> simp
@[simp] theorem EC (b : ByteArray) : (bw g d) (.string b) = .string b := by rw [bw] <;> simp
@[simp] theorem alC (r : Option Nat) : (bw g d) (.chan r) = .chan r := by rw [bw] <;> simp
@[simp] theorem ajT : (bw g d) .nilFunc = .nilFunc := by rw [bw] <;> simp
@[simp] theorem ahM : (bw g d) .nilIface = .nilIface := by rw [bw] <;> simp
@[simp] theorem Ow (a : Option Addr) : (bw g d) (.pointer a) = .pointer (a.map (xt g d)) := by rw [bw]
@[simp] theorem fm (a : Option Addr) (n e : Nat) : (bw g d) (.slice a n e) = .slice (a.map (xt g d)) n e := by rw [bw]
@[simp] theorem Hy (r : Option Nat) : (bw g d) (.map r) = .map (r.map (yD g d)) := by rw [bw]
@[simp] theorem ak0 (t : TypeId) (v : Value) : (bw g d) (.iface t v) = .iface t ((bw g d) v) := by rw [bw]
@[simp] theorem alD (fn : Fn) (f c : Array Value) : (bw g d) (.func fn f c) = .func fn (f.map (bw g d)) (c.map (bw g d)) := by rw [bw]
@[simp] theorem Oo (cs : Array Value) : (bw g d) (.agg cs) = .agg (cs.map (bw g d)) := by rw [bw]
@[simp] theorem acV (cs : Array Value) : (bw g d) (.tuple cs) = .tuple (cs.map (bw g d)) := by rw [bw]
@[simp] theorem pS : (bw g d) undef = undef := by simp [undef]
theorem acP {v : Value} (h : cE v = true) : (bw g d) v = v := by
 unfold cE at h
 split at h <;> first | (simp; done) | cases h
theorem uO {l : List Value} (h : l.all cE = true) : fN g d l = l := by
 induction l with
 | nil => rfl
 | cons x l ih => simp only [List.all_cons, Bool.and_eq_true] at h; simp only [fN, List.map_cons, acP h.1]; rw [show List.map (bw g d) l = l from ih h.2]
theorem Km {v : Value} (h : u5 v = true) : (bw g d) v = v := by
 unfold u5 at h
 split at h
 ·rename_i cs
  rw [Oo]; congr 1; exact Array.toList_inj.1 (by rw [Array.toList_map]; exact uO h)
 ·rename_i cs
  rw [acV]; congr 1; exact Array.toList_inj.1 (by rw [Array.toList_map]; exact uO h)
 ·exact acP h
theorem Cc (v : Value) : ((bw g d) v).cells = v.cells.map (bw g d) := by
 cases v <;> simp [Value.cells]
theorem VJ (v : Value) : ((bw g d) v).cells.toList = fN g d v.cells.toList := by rw [Cc, Array.toList_map]
theorem ajU (v : Value) : Value.oneCell' ((bw g d) v) = Value.oneCell' v := by
 cases v <;> simp [Value.oneCell']
theorem RW (l : List Value) : (fN g d l).all Value.oneCell' = l.all Value.oneCell' := by
 simp only [fN, List.all_map]; congr 1; funext v; exact ajU v
theorem Hz (v : Value) : sr ((bw g d) v) = (sr v).map fun a => (yD g d a.1, a.2) := by
 cases v with
 | pointer a =>
  cases a with
  | none => simp [sr]
  | some a =>
   obtain ⟨b, o, sp⟩ := a
   cases sp <;> simp [sr, xt]
 | _ => simp [sr]
theorem acU (c a b : Value) : aQ ((bw g d) c) ((bw g d) a) ((bw g d) b) = (aQ c a b).map (bw g d) := by
 cases c with
 | bool t => cases t <;> simp [aQ]
 | _ => simp [aQ]
theorem af8 (v : Value) : ss ((bw g d) v) = (ss v).map (bw g d) := by
 cases v with
 | pointer a => cases a <;> simp [ss]
 | func fn f c => cases fn <;> simp [ss]
 | _ => simp [ss]
theorem af3 (off : Nat) (v : Value) : C3 off ((bw g d) v) = (C3 off v).map (bw g d) := by
 unfold C3
 rw [Hz]
 cases sr v <;> simp [xt]
theorem acT (n : Option Nat) (off : Nat) (v : Value) : jU n off ((bw g d) v) = (jU n off v).map (bw g d) := by
 cases v with
 | agg cs => cases n <;> simp [jU]
 | _ => simp [jU]
theorem af4 (e : Nat) (v i : Value) : mY e ((bw g d) v) ((bw g d) i) = (mY e v i).map (bw g d) := by
 cases v with
 | slice a n k =>
  cases a with
  | none => simp [mY]
  | some a =>
   obtain ⟨b, o, sp⟩ := a
   cases sp with
   | none =>
    cases i with
    | int k i => simp only [fm, wu, Option.map_some, xt, mY]; split <;> simp [xt]
    | _ => simp [mY, xt]
   | some sp => simp [mY, xt]
 | _ => simp [mY]
theorem acS (len e : Nat) (v i : Value) : gX len e ((bw g d) v) ((bw g d) i) = (gX len e v i).map (bw g d) := by
 cases v with
 | pointer a =>
  cases a with
  | none => simp [gX]
  | some a =>
   obtain ⟨b, o, sp⟩ := a
   cases sp with
   | none =>
    cases i with
    | int k i => simp only [Ow, wu, Option.map_some, xt, gX]; split <;> simp [xt]
    | _ => simp [gX, xt]
   | some sp => simp [gX, xt]
 | _ => simp [gX]
theorem Ou (len : Nat) (n : Option Nat) (e : Nat) (v i : Value) : iz len n e ((bw g d) v) ((bw g d) i) = (iz len n e v i).map (bw g d) := by
 cases v with
 | agg cs =>
  cases i with
  | int k i =>
   simp only [Oo, wu, iz]
   split
   ·cases n <;> simp
   ·rfl
  | _ => simp [iz]
 | _ => simp [iz]
theorem Ot (v i : Value) : iy ((bw g d) v) ((bw g d) i) = (iy v i).map (bw g d) := by
 cases v with
 | string b =>
  cases i with
  | int k i =>
   simp only [EC, wu, iy]
   split
   ·rw [Option.map_map]; congr 1; funext x; simp
   ·rfl
  | _ => simp [iy]
 | _ => simp [iy]
theorem af5 (v : Value) : oI ((bw g d) v) = (oI v).map (bw g d) := by cases v <;> simp [oI]
theorem af6 (l : List Value) : gL (fN g d l) = (gL l).map (bw g d) := by
 match l with
 | [] => rfl
 | [x] => simp [fN, gL]
 | [x, y] => cases x <;> cases y <;> simp [fN, gL]
 | x :: y :: z :: l => simp [fN, gL]
theorem af7 (l : List Value) : iJ (fN g d l) = (iJ l).map (bw g d) := by
 match l with
 | [] => rfl
 | [x] => simp [fN, iJ]
 | [x, y] => cases x <;> cases y <;> simp [fN, iJ]
 | x :: y :: z :: l => simp [fN, iJ]
theorem Cd : ∀ xs ys : List Value, bn (fN g d xs) (fN g d ys) = bn xs ys := by
 intro xs
 induction xs with
 | nil => intro ys; cases ys <;> simp [fN, bn]
 | cons x xs ih =>
  intro ys
  cases ys with
  | nil => cases x <;> simp [fN, bn]
  | cons y ys =>
   have := ih ys
   simp only [fN] at this
   cases x <;> cases y <;> simp [fN, bn, this]
theorem ajV (cl : TCls) (x y : Value) : nP cl ((bw g d) x) ((bw g d) y) = nP cl x y := by
 cases cl with
 | flat n =>
  cases x with
  | agg a =>
   cases y with
   | agg b =>
    simp only [Oo, nP, Array.size_map, Array.toList_map]
    rw [show bn (List.map (bw g d) a.toList) (List.map (bw g d) b.toList) = bn a.toList b.toList from Cd _ _]
   | _ => simp [nP]
  | _ => cases y <;> simp [nP]
 | bool => cases x <;> cases y <;> simp [nP]
 | ptr => cases x <;> cases y <;> simp [nP] <;> (rename_i a b; cases a <;> cases b <;> simp [nP])
 | slice => cases x <;> cases y <;> simp [nP] <;> (rename_i a _ _ b _ _; cases a <;> cases b <;> simp [nP])
 | map => cases x <;> cases y <;> simp [nP] <;> (rename_i a b; cases a <;> cases b <;> simp [nP])
 | func => cases x <;> cases y <;> simp [nP]
 | other => cases x <;> cases y <;> simp [nP]
theorem afW {op : BinOp} {k : IntKind} {a b : Int} : (kY op k a b).map (bw g d) = kY op k a b := by
 cases op <;> simp [kY] <;> (split <;> simp)
theorem UN {op : BinOp} {k : IntKind} {a b : Int} : (kR op k a b).map (bw g d) = kR op k a b := by
 unfold kR
 split
 ·rfl
 ·cases op <;> simp
theorem afY {op : BinOp} {a b : ByteArray} : (abE op a b).map (bw g d) = abE op a b := by
 cases op <;> simp [abE]
theorem acR (cl : TCls) (op : BinOp) (x y : Value) : D3 cl op ((bw g d) x) ((bw g d) y) = (D3 cl op x y).map (bw g d) := by
 cases op <;> simp only [D3, ajV, Option.map_map, Option.map_none] <;> (congr 1; funext b; simp)
theorem af2 (cl : TCls) (op : BinOp) (x y : Value) : ai cl op ((bw g d) x) ((bw g d) y) = (ai cl op x y).map (bw g d) := by
 have key := acR (g := g) (d := d) cl op x y
 cases x with
 | int k a =>
  cases y with
  | int k' b => cases op <;> simp only [wu, ai, UN] <;> (split <;> simp [afW])
  | _ => simpa [ai] using key
 | string a =>
  cases y with
  | string b => simp [ai, afY]
  | _ => simpa [ai] using key
 | _ => simpa [ai] using key
theorem ajW (op : UnOp) (x : Value) : ot op ((bw g d) x) = (ot op x).map (bw g d) := by cases op <;> cases x <;> simp [ot]
theorem acQ (k : Option IntKind) (x : Value) : bJ k ((bw g d) x) = (bJ k x).map (bw g d) := by cases k <;> cases x <;> simp [bJ]
theorem Kn (v : Value) (i : Nat) : aj ((bw g d) v) i = (aj v i).map (bw g d) := by cases v <;> simp [aj]
theorem Cg (v : Value) : lI ((bw g d) v) = lI v := by cases v <;> simp [lI]
end
inductive Tr (α : Type) where
 | lf
 | nd (v : Option α) (l r : Tr α)
section
variable {α : Type}
def Tr.get : Tr α → Nat → Option α
 | .lf, _ => none
 | .nd v l r, i => match i with
  | 0 => v
  | i + 1 => match Nat.beq (i % 2) 0 with
   | true => l.get (i / 2)
   | false => r.get (i / 2)
def Tr.set (x : α) : Nat → Tr α → Nat → Option (Tr α)
 | 0, _, _ => none
 | k + 1, t, i => match i with
  | 0 => match t with
   | .lf => some (.nd (some x) .lf .lf)
   | .nd _ l r => some (.nd (some x) l r)
  | i + 1 => match Nat.beq (i % 2) 0 with
   | true => match t with
    | .lf => (Tr.set x k .lf (i / 2)).map fun l' => .nd none l' .lf
    | .nd v l r => (Tr.set x k l (i / 2)).map fun l' => .nd v l' r
   | false => match t with
    | .lf => (Tr.set x k .lf (i / 2)).map fun r' => .nd none .lf r'
    | .nd v l r => (Tr.set x k r (i / 2)).map fun r' => .nd v l r'
theorem Tr.get_set {x : α} : ∀ (k : Nat) {t t' : Tr α} {i : Nat}, Tr.set x k t i = some t' → ∀ j, t'.get j = if j = i then some x else t.get j := by
 intro k
 induction k with
 | zero => intro t t' i h; cases h
 | succ k ih =>
  intro t t' i h j
  cases i with
  | zero =>
   cases t with
   | lf => simp only [Tr.set] at h; cases h; cases j with
    | zero => rfl
    | succ j => simp only [Tr.get]; split <;> simp [Tr.get]
   | nd v l r => simp only [Tr.set] at h; cases h; cases j with
    | zero => rfl
    | succ j => simp [Tr.get]
  | succ i =>
   simp only [Tr.set] at h
   have beq : ∀ a : Nat, Nat.beq a 0 = (a == 0) := fun a => by cases a <;> simp [Nat.beq]
   have lf : ∀ j, (Tr.lf : Tr α).get j = none := fun j => by cases j <;> rfl
   cases hb : Nat.beq (i % 2) 0 with
   | true =>
    have hi : i % 2 = 0 := by rw [beq] at hb; simpa using hb
    rw [hb] at h
    simp only at h
    have key : ∃ v l r l', Tr.set x k l (i / 2) = some l' ∧ t' = .nd v l' r ∧ ∀ j, t.get j = (Tr.nd v l r).get j := by
     cases t with
     | lf => obtain ⟨l', h1, e⟩ := Option.map_eq_some_iff.1 h; exact ⟨none, .lf, .lf, l', h1, e.symm, fun j => by rw [lf]; cases j with | zero => rfl | succ j => simp only [Tr.get]; split <;> rfl⟩
     | nd v l r => obtain ⟨l', h1, e⟩ := Option.map_eq_some_iff.1 h; exact ⟨v, l, r, l', h1, e.symm, fun j => rfl⟩
    obtain ⟨v, l, r, l', h1, rfl, hg⟩ := key
    rw [hg]
    cases j with
    | zero => rfl
    | succ j =>
     simp only [Tr.get]
     cases hj : Nat.beq (j % 2) 0 with
     | true =>
      have hj' : j % 2 = 0 := by rw [beq] at hj; simpa using hj
      simp only
      rw [ih h1]
      by_cases e : j / 2 = i / 2
      ·rw [if_pos e, if_pos (by omega)]
      ·rw [if_neg e, if_neg (by omega)]
     | false =>
      have hj' : j % 2 ≠ 0 := by rw [beq] at hj; simpa using hj
      simp only
      rw [if_neg (by omega)]
   | false =>
    have hi : i % 2 ≠ 0 := by rw [beq] at hb; simpa using hb
    rw [hb] at h
    simp only at h
    have key : ∃ v l r r', Tr.set x k r (i / 2) = some r' ∧ t' = .nd v l r' ∧ ∀ j, t.get j = (Tr.nd v l r).get j := by
     cases t with
     | lf => obtain ⟨l', h1, e⟩ := Option.map_eq_some_iff.1 h; exact ⟨none, .lf, .lf, l', h1, e.symm, fun j => by rw [lf]; cases j with | zero => rfl | succ j => simp only [Tr.get]; split <;> rfl⟩
     | nd v l r => obtain ⟨l', h1, e⟩ := Option.map_eq_some_iff.1 h; exact ⟨v, l, r, l', h1, e.symm, fun j => rfl⟩
    obtain ⟨v, l, r, l', h1, rfl, hg⟩ := key
    rw [hg]
    cases j with
    | zero => rfl
    | succ j =>
     simp only [Tr.get]
     cases hj : Nat.beq (j % 2) 0 with
     | false =>
      have hj' : j % 2 ≠ 0 := by rw [beq] at hj; simpa using hj
      simp only
      rw [ih h1]
      by_cases e : j / 2 = i / 2
      ·rw [if_pos e, if_pos (by omega)]
      ·rw [if_neg e, if_neg (by omega)]
     | true =>
      have hj' : j % 2 = 0 := by rw [beq] at hj; simpa using hj
      simp only
      rw [if_neg (by omega)]
end
structure EH where
 n : Nat
 t : Tr AObj
def EH.get (E : EH) (b : Nat) : Option AObj := E.t.get b
def EH.set (E : EH) (b : Nat) (o : AObj) : Option EH := (Tr.set o 24 E.t b).map fun t => ⟨E.n, t⟩
def EH.push (E : EH) (o : AObj) : Option EH := (Tr.set o 24 E.t E.n).map fun t => ⟨E.n + 1, t⟩
section
variable (g d : Nat)
def Kl (e : MapEntry) : MapEntry := { e with key := bw g d e.key, val := bw g d e.val }
def KR : AObj → AObj
 | .cells ro cs => .cells ro (fN g d cs)
 | .map es c => .map (es.map (Kl g d)) c
 | .dead => .dead
structure HR (F : List AObj) (E : EH) (H : AH) : Prop where
 len : F.length = d
 le : g ≤ E.n
 size : H.size = E.n + d
 get : ∀ b, H.get (yD g d b) = (E.get b).map (KR g d)
 out : ∀ b, E.n ≤ b → E.get b = none
 fr : ∀ b, g ≤ b → b < g + d → H.get b = F[b - g]?
end
section
variable {g d : Nat} {F : List AObj} {E E' : EH} {H : AH}
theorem HR.lt (h : HR g d F E H) {b : Nat} {o : AObj} (hb : E.get b = some o) : b < E.n := by
 rcases Nat.lt_or_ge b E.n with h1 | h1
 ·exact h1
 ·rw [h.out b h1] at hb; cases hb
theorem HR.new (h : HR g d F E H) : H.size = yD g d E.n := by
 unfold yD; rw [if_neg (by have := h.le; omega)]; exact h.size
theorem HR.shlt (h : HR g d F E H) {b : Nat} (hb : b < E.n) : yD g d b < H.size := by
 rw [h.size]; unfold yD; split <;> omega
theorem HR.set (h : HR g d F E H) {b : Nat} {o : AObj} (hb : b < E.n) (hs : E.set b o = some E') : HR g d F E' (H.set (yD g d b) (KR g d o)) := by
 obtain ⟨t, ht, rfl⟩ := Option.map_eq_some_iff.1 hs
 have hg := Tr.get_set 24 ht
 refine ⟨h.len, h.le, by rw [AH.size_set]; exact h.size, fun j => ?_, fun j hj => ?_, fun j h1 h2 => ?_⟩
 ·show _ = (t.get j).map _
  rw [hg j, AH.get_set]
  by_cases e : j = b
  ·subst e; rw [if_pos rfl, if_pos rfl, if_pos (h.shlt hb)]; rfl
  ·rw [if_neg (fun x => e (RU x)), if_neg e]; exact h.get j
 ·show t.get j = none
  rw [hg j, if_neg (by have : E.n ≤ j := hj; omega)]; exact h.out j hj
 ·rw [AH.get_set_ne (by unfold yD; split <;> omega)]; exact h.fr j h1 h2
theorem HR.push (h : HR g d F E H) {o : AObj} (hs : E.push o = some E') : HR g d F E' (H.push (KR g d o)) := by
 obtain ⟨t, ht, rfl⟩ := Option.map_eq_some_iff.1 hs
 have hg := Tr.get_set 24 ht
 have hle := h.le
 have hsz := h.size
 refine ⟨h.len, by show g ≤ E.n + 1; omega, by rw [AH.size_push, hsz]; show _ = E.n + 1 + d; omega, fun j => ?_, fun j hj => ?_, fun j h1 h2 => ?_⟩
 ·show _ = (t.get j).map _
  rw [hg j, AH.get_push, h.new]
  by_cases e : j = E.n
  ·subst e; rw [if_pos rfl, if_pos rfl]; rfl
  ·rw [if_neg (fun x => e (RU x)), if_neg e]; exact h.get j
 ·show t.get j = none
  have : E.n + 1 ≤ j := hj
  rw [hg j, if_neg (by omega)]; exact h.out j (by omega)
 ·rw [AH.get_push_old (by omega)]; exact h.fr j h1 h2
end
section
variable {g d : Nat}
theorem EB (cs : List Value) (o : Nat) (xs : List Value) : splice (fN g d cs) o (fN g d xs) = fN g d (splice cs o xs) := by
 simp [splice, fN, List.map_take, List.map_drop]
theorem Cf (places : Nat → Option (Nat × Nat)) : ∀ (parts : List (Nat × Value)) (zero : List Value), cC places (fN g d zero) (parts.map fun p => (p.1, (bw g d) p.2)) = (cC places zero parts).map (fN g d) := by
 intro parts
 induction parts with
 | nil => intro zero; rfl
 | cons p parts ih =>
  intro zero
  obtain ⟨i, v⟩ := p
  simp only [List.map_cons, cC]
  cases places i with
  | none => rfl
  | some q =>
   simp only [Option.bind_some]
   rw [Cc, Array.size_map, Array.toList_map, show (fN g d zero).length = zero.length from List.length_map _]
   split
   ·rw [show List.map (bw g d) v.cells.toList = fN g d v.cells.toList from rfl, EB]; exact ih _
   ·rfl
theorem VK (e : Nat) (x : Value) (lo hi : Option Value) : d5 e ((bw g d) x) (lo.map (bw g d)) (hi.map (bw g d)) = (d5 e x lo hi).map (bw g d) := by
 cases x with
 | slice a n e' =>
  have key : ∀ L R : Option Int, (L.bind fun l => R.bind fun h =>
   if 0 ≤ l ∧ l ≤ h ∧ h ≤ n then
    match a.map (xt g d) with
    | none => if n = 0 ∧ e' = 0 then some (.slice none 0 0) else none
    | some ⟨b, o, none⟩ => if e' = e ∧ 0 < e then some (.slice (some ⟨b, o + l.toNat * e, none⟩) (h.toNat - l.toNat) e) else none
    | _ => none
   else none : Option Value) = (L.bind fun l => R.bind fun h =>
   if 0 ≤ l ∧ l ≤ h ∧ h ≤ n then
    match a with
    | none => if n = 0 ∧ e' = 0 then some (.slice none 0 0) else none
    | some ⟨b, o, none⟩ => if e' = e ∧ 0 < e then some (.slice (some ⟨b, o + l.toNat * e, none⟩) (h.toNat - l.toNat) e) else none
    | _ => none
   else none : Option Value).map (bw g d) := by
   intro L R
   cases L with
   | none => rfl
   | some l =>
    cases R with
    | none => rfl
    | some r =>
     simp only [Option.bind_some]
     split
     ·cases a with
      | none => simp only [Option.map_none]; split <;> simp
      | some a =>
       obtain ⟨b, o, sp⟩ := a
       cases sp with
       | none => simp only [Option.map_some, xt]; split <;> simp [xt]
       | some sp => simp [xt]
     ·rfl
  cases lo with
  | none =>
   cases hi with
   | none => simp only [fm, d5, Option.map_none]; exact key (some 0) (some n)
   | some h => simp only [fm, d5, Option.map_some, Cg]; exact key (some 0) (lI h)
  | some l =>
   cases hi with
   | none => simp only [fm, d5, Option.map_some, Cg]; exact key (lI l) (some n)
   | some h => simp only [fm, d5, Option.map_some, Cg]; exact key (lI l) (lI h)
 | _ => simp [d5]
theorem Ov {x hi mx v : Value} (h : iA x hi mx = some v) : iA ((bw g d) x) ((bw g d) hi) ((bw g d) mx) = some ((bw g d) v) := by
 unfold iA at h
 split at h
 ·cases h; simp [iA]
 ·cases h; simp [iA, xt]
 ·cases h
theorem acN (v : Value) : pn ((bw g d) v) = pn v := by cases v <;> simp [pn]
theorem Ce (cl : KCls) (k : Value) : gU cl ((bw g d) k) = gU cl k := by
 cases cl <;> cases k <;> simp [gU]
 rename_i n cs
 congr 2
 funext v; exact acN v
theorem acO (cl : KCls) (a b : Value) : jA cl ((bw g d) a) ((bw g d) b) = jA cl a b := by
 cases cl with
 | flat n =>
  cases a <;> cases b <;> simp [jA]
  rename_i x y
  rw [show bn (List.map (bw g d) x.toList) (List.map (bw g d) y.toList) = bn x.toList y.toList from Cd _ _]
 | int => cases a <;> cases b <;> simp [jA]
 | string => cases a <;> cases b <;> simp [jA]
theorem sP (cl : KCls) (k : Value) : ∀ (es : List MapEntry) (i : Nat), aY cl ((bw g d) k) (es.map (Kl g d)) i = (aY cl k es i).map fun r => r.map fun p => (p.1, (bw g d) p.2) := by
 intro es
 induction es with
 | nil => intro i; rfl
 | cons e es ih =>
  intro i
  simp only [List.map_cons, aY, Kl, acO]
  cases jA cl k e.key with
  | none => rfl
  | some b =>
   simp only [Option.bind_some]
   cases b with
   | true => simp
   | false => simp only [Bool.false_eq_true, if_false]; exact ih _
theorem Oq (v : Value) (args : List Value) : bM ((bw g d) v) (fN g d args) = (bM v args).map fun r => (r.1, fN g d r.2) := by
 cases v with
 | func fn f c => cases fn <;> simp [bM, fN]
 | _ => simp [bM]
end
def oR (E : EH) (b : Nat) : Option (List Value) :=
 match E.get b with
 | some (.cells _ cs) => some cs
 | _ => none
def WQ (v : Value) (E : EH) : Option Value := (sr v).bind fun a => (oR E a.1).bind fun cs => cs[a.2]?
def WR (n : Nat) (v : Value) (E : EH) : Option Value :=
 (sr v).bind fun a => (oR E a.1).bind fun cs => if a.2 + n ≤ cs.length then some (.agg ((cs.drop a.2).take n).toArray) else none
def eSt (n : Nat) (v x : Value) (E : EH) : Option EH :=
 (sr v).bind fun a => match E.get a.1 with
  | some (.cells false cs) => if x.cells.size = n ∧ a.2 + n ≤ cs.length ∧ x.cells.toList.all Value.oneCell' = true then E.set a.1 (.cells false (splice cs a.2 x.cells.toList)) else none
  | _ => none
def aiC (cs : List Value) (E : EH) : Option (Value × EH) := (E.push (.cells false cs)).map fun E' => (.pointer (some ⟨E.n, 0, none⟩), E')
def Dt (n e : Nat) (cs : List Value) (E : EH) : Option (Value × EH) := (E.push (.cells false cs)).map fun E' => (.slice (some ⟨E.n, 0, none⟩) n e, E')
def Ds (v : Value) (E : EH) : Option Value :=
 match v with
 | .map none => some (.int .i64 0)
 | .map (some b) => match E.get b with
  | some (.map es _) => some (.int .i64 es.length)
  | _ => none
 | _ => none
def SM (e : Nat) (x : Value) (E : EH) : Option (Nat × List Value) :=
 match x with
 | .slice none n _ => if n = 0 then some (0, []) else none
 | .slice (some ⟨b, o, none⟩) m _ => if m = 0 then some (0, []) else (oR E b).bind fun cs => if o + m * e ≤ cs.length then some (m, (cs.drop o).take (m * e)) else none
 | _ => none
def aiA (e bytes : Nat) (s x : Value) (E : EH) : Option (Value × EH) :=
 (SM e x E).bind fun r =>
  if r.2.all Value.oneCell' = true ∧ 0 < e then
   match s with
   | .slice none n k => if n = 0 ∧ k = 0 then (if r.1 = 0 then some (.slice none 0 0, E) else if r.1 * bytes ≤ cp ∧ r.1 ≤ cp then Dt r.1 e r.2 E else none) else none
   | .slice (some ⟨b, o, none⟩) n e' =>
    if r.1 = 0 then some (s, E)
    else if e' = 0 then (if n = 0 ∧ r.1 * bytes ≤ cp ∧ r.1 ≤ cp then Dt r.1 e r.2 E else none)
    else match E.get b with
     | some (.cells false cs) =>
      if e' = e ∧ o + n * e ≤ cs.length ∧ (n + r.1) * bytes ≤ cp ∧ n + r.1 ≤ cp then (E.set b .dead).bind fun E1 => Dt (n + r.1) e ((cs.drop o).take (n * e) ++ r.2) E1 else none
     | _ => none
   | _ => none
  else none
def WS (zero : List Value) (e bytes : Nat) (len cap : Value) (E : EH) : Option (Value × EH) :=
 match len, cap with
 | .int _ l, .int _ c => if 0 ≤ l ∧ l = c ∧ l.toNat * bytes ≤ cp ∧ l.toNat ≤ cp ∧ 0 < e ∧ zero.length = e then
  Dt l.toNat e (List.replicate l.toNat zero).flatten E else none
 | _, _ => none
def u6 (v : Value) (E : EH) : Option (List MapEntry × Nat) :=
 match v with
 | .map none => some ([], 0)
 | .map (some b) => match E.get b with
  | some (.map es c) => some (es, c)
  | _ => none
 | _ => none
def yK (fl : KCls) (zero : Value) (m k : Value) (ok : Bool) (E : EH) : Option Value :=
 if gU fl k = true then (u6 m E).bind fun es => (aY fl k es.1 0).map fun r => match r with
  | some (_, v) => if ok then .tuple #[v, .bool true] else v
  | none => if ok then .tuple #[zero, .bool false] else zero
 else none
def E8 (fl : KCls) (m k x : Value) (E : EH) : Option EH :=
 if gU fl k = true then match m with
 | .map (some b) => match E.get b with
  | some (.map es c) => (aY fl k es 0).bind fun r => match r with
   | some (i, _) => E.set b (.map (es.modify i fun e => { e with key := k, val := x }) c)
   | none => E.set b (.map (es ++ [{ key := k, val := x, born := c }]) (c + 1))
  | _ => none
 | _ => none
 else none
def E0 (fl : KCls) (m k : Value) (E : EH) : Option EH :=
 if gU fl k = true then match m with
 | .map (some b) => match E.get b with
  | some (.map es c) => (aY fl k es 0).bind fun r => match r with
   | some (i, _) => E.set b (.map (es.eraseIdx i) c)
   | none => E.set b (.map es c)
  | _ => none
 | _ => none
 else none
def dv (g d : Nat) (F : List AObj) (x : Option (Value × EH)) (y : Option (Value × AH)) : Prop := ∀ v E', x = some (v, E') → ∃ H', y = some (bw g d v, H') ∧ HR g d F E' H'
def ad9 (g d : Nat) (F : List AObj) (x : Option EH) (y : Option AH) : Prop := ∀ E', x = some E' → ∃ H', y = some H' ∧ HR g d F E' H'
section
variable {g d : Nat} {F : List AObj} {E E' : EH} {H : AH}
theorem HR.cells (h : HR g d F E H) (b : Nat) : dr H (yD g d b) = (oR E b).map (fN g d) := by
 unfold dr oR
 rw [h.get b]
 cases E.get b with
 | none => rfl
 | some o => cases o <;> rfl
theorem HR.ld1 (h : HR g d F E H) (v : Value) : aq ((bw g d) v) H = (WQ v E).map (bw g d) := by
 unfold aq WQ
 rw [Hz]
 cases sr v with
 | none => rfl
 | some a =>
  simp only [Option.map_some, Option.bind_some, h.cells]
  cases oR E a.1 <;> simp [fN]
theorem HR.ldN (h : HR g d F E H) (n : Nat) (v : Value) : aD n ((bw g d) v) H = (WR n v E).map (bw g d) := by
 unfold aD WR
 rw [Hz]
 cases sr v with
 | none => rfl
 | some a =>
  simp only [Option.map_some, Option.bind_some, h.cells]
  cases oR E a.1 with
  | none => rfl
  | some cs =>
   simp only [Option.map_some, Option.bind_some, fN, List.length_map]
   split
   ·simp [List.map_take, List.map_drop]
   ·rfl
theorem HR.st (h : HR g d F E H) (n : Nat) (v x : Value) : ad9 g d F (eSt n v x E) (dn n ((bw g d) v) ((bw g d) x) H) := by
 intro E' he
 unfold eSt at he
 unfold dn
 rw [Hz]
 obtain ⟨a, ha, he⟩ := Option.bind_eq_some_iff.1 he
 rw [ha]
 simp only [Option.map_some, Option.bind_some, h.get]
 split at he
 ·rename_i cs hcs
  split at he
  ·rename_i hc
   rw [hcs]
   simp only [Option.map_some, KR]
   rw [Cc, Array.size_map, Array.toList_map, show (fN g d cs).length = cs.length from List.length_map _, show (List.map (bw g d) x.cells.toList).all Value.oneCell' = x.cells.toList.all Value.oneCell' from RW _, if_pos hc,
    show splice (fN g d cs) a.2 (List.map (bw g d) x.cells.toList) = fN g d (splice cs a.2 x.cells.toList) from EB _ _ _]
   exact ⟨_, rfl, h.set (h.lt hcs) he⟩
  ·cases he
 ·cases he
theorem HR.new' (h : HR g d F E H) (cs : List Value) : dv g d F (aiC cs E) (some (afX (fN g d cs) H)) := by
 intro v E' he
 obtain ⟨E1, h1, e⟩ := Option.map_eq_some_iff.1 he
 cases e
 exact ⟨H.push (KR g d (.cells false cs)), by simp [afX, h.new, xt, KR], h.push h1⟩
theorem HR.rowP (h : HR g d F E H) (n e : Nat) (cs : List Value) : dv g d F (Dt n e cs E) (some (.slice (some ⟨H.size, 0, none⟩) n e, H.push (.cells false (fN g d cs)))) := by
 intro v E' he
 obtain ⟨E1, h1, e⟩ := Option.map_eq_some_iff.1 he
 cases e
 exact ⟨H.push (KR g d (.cells false cs)), by simp [h.new, xt, KR], h.push h1⟩
theorem HR.lenM (h : HR g d F E H) (v : Value) : lJ ((bw g d) v) H = (Ds v E).map (bw g d) := by
 cases v with
 | map r =>
  cases r with
  | none => simp [lJ, Ds]
  | some b =>
   simp only [Hy, Option.map_some, lJ, Ds, h.get]
   cases E.get b with
   | none => rfl
   | some o => cases o <;> simp [KR]
 | _ => simp [lJ, Ds]
theorem HR.row (h : HR g d F E H) (e : Nat) (x : Value) : j0 e ((bw g d) x) H = (SM e x E).map fun r => (r.1, fN g d r.2) := by
 cases x with
 | slice a n k =>
  cases a with
  | none => simp only [fm, Option.map_none, j0, SM]; split <;> rfl
  | some a =>
   obtain ⟨b, o, sp⟩ := a
   cases sp with
   | some sp => simp [j0, SM, xt]
   | none =>
    simp only [fm, Option.map_some, xt, j0, SM, h.cells]
    split
    ·rfl
    ·cases oR E b with
     | none => rfl
     | some cs =>
      simp only [Option.map_some, Option.bind_some, fN, List.length_map]
      split
      ·simp [List.map_take, List.map_drop]
      ·rfl
 | _ => simp [j0, SM]
theorem HR.mapOf (h : HR g d F E H) (v : Value) : jc ((bw g d) v) H = (u6 v E).map fun r => (r.1.map (Kl g d), r.2) := by
 cases v with
 | map r =>
  cases r with
  | none => simp [jc, u6]
  | some b =>
   simp only [Hy, Option.map_some, jc, u6, h.get]
   cases E.get b with
   | none => rfl
   | some o => cases o <;> simp [KR]
 | _ => simp [jc, u6]
theorem HR.lookup (h : HR g d F E H) (fl : KCls) {zero : Value} (hz : (bw g d) zero = zero) (m k : Value) (ok : Bool) : ci fl zero ((bw g d) m) ((bw g d) k) ok H = (yK fl zero m k ok E).map (bw g d) := by
 unfold ci yK
 rw [Ce]
 split
 ·rw [h.mapOf]
  cases u6 m E with
  | none => rfl
  | some es =>
   simp only [Option.map_some, Option.bind_some, sP]
   cases aY fl k es.1 0 with
   | none => rfl
   | some r =>
    cases r with
    | none => cases ok <;> simp [hz]
    | some p => cases ok <;> simp
 ·rfl
theorem HR.update (h : HR g d F E H) (fl : KCls) (m k x : Value) : ad9 g d F (E8 fl m k x E) (dD fl ((bw g d) m) ((bw g d) k) ((bw g d) x) H) := by
 intro E' he
 unfold E8 at he
 split at he
 ·rename_i hk
  split at he
  ·rename_i b
   split at he
   ·rename_i es c hb
    obtain ⟨r, hr, he⟩ := Option.bind_eq_some_iff.1 he
    have hg : H.get (yD g d b) = some (.map (es.map (Kl g d)) c) := by rw [h.get, hb]; rfl
    have hf := sP (g := g) (d := d) fl k es 0
    rw [hr] at hf
    simp only [Hy, Option.map_some, dD, Ce, hk, if_true, hg]
    cases r with
    | some p =>
     have hf : aY fl ((bw g d) k) (es.map (Kl g d)) 0 = some (some (p.1, (bw g d) p.2)) := hf
     rw [hf]
     refine ⟨_, rfl, ?_⟩
     have := h.set (h.lt hb) he
     simp only [KR] at this
     show HR g d F E' (H.set (yD g d b) (.map ((es.map (Kl g d)).modify p.1 fun e => { e with key := (bw g d) k, val := (bw g d) x }) c))
     rw [show (es.map (Kl g d)).modify p.1 (fun e => { e with key := (bw g d) k, val := (bw g d) x }) = (es.modify p.1 fun e => { e with key := k, val := x }).map (Kl g d) from ?_]
     ·exact this
     ·apply List.ext_getElem?
      intro i
      simp only [List.getElem?_modify, List.getElem?_map]
      cases es[i]? with
      | none => rfl
      | some e => simp only [Option.map_some, Option.map_map]; split <;> rfl
    | none =>
     have hf : aY fl ((bw g d) k) (es.map (Kl g d)) 0 = some none := hf
     rw [hf]
     refine ⟨_, rfl, ?_⟩
     have := h.set (h.lt hb) he
     simp only [KR, List.map_append, List.map_cons, List.map_nil, Kl] at this
     exact this
   ·cases he
  ·cases he
 ·cases he
theorem HR.delete (h : HR g d F E H) (fl : KCls) (m k : Value) : ad9 g d F (E0 fl m k E) (lH fl ((bw g d) m) ((bw g d) k) H) := by
 intro E' he
 unfold E0 at he
 split at he
 ·rename_i hk
  split at he
  ·rename_i b
   split at he
   ·rename_i es c hb
    obtain ⟨r, hr, he⟩ := Option.bind_eq_some_iff.1 he
    have hg : H.get (yD g d b) = some (.map (es.map (Kl g d)) c) := by rw [h.get, hb]; rfl
    have hf := sP (g := g) (d := d) fl k es 0
    rw [hr] at hf
    simp only [Hy, Option.map_some, lH, Ce, hk, if_true, hg]
    cases r with
    | some p =>
     have hf : aY fl ((bw g d) k) (es.map (Kl g d)) 0 = some (some (p.1, (bw g d) p.2)) := hf
     rw [hf]
     refine ⟨_, rfl, ?_⟩
     have := h.set (h.lt hb) he
     simp only [KR] at this
     show HR g d F E' (H.set (yD g d b) (.map ((es.map (Kl g d)).eraseIdx p.1) c))
     rw [show (es.map (Kl g d)).eraseIdx p.1 = (es.eraseIdx p.1).map (Kl g d) from by simp [List.eraseIdx_eq_take_drop_succ, List.map_take, List.map_drop]]
     exact this
    | none =>
     have hf : aY fl ((bw g d) k) (es.map (Kl g d)) 0 = some none := hf
     rw [hf]
     exact ⟨_, rfl, h.set (h.lt hb) he⟩
   ·cases he
  ·cases he
 ·cases he
theorem HR.make (h : HR g d F E H) {zero : List Value} (hz : fN g d zero = zero) (e by' : Nat) (len cap : Value) : dv g d F (WS zero e by' len cap E) (kQ zero e by' ((bw g d) len) ((bw g d) cap) H) := by
 intro v E' he
 unfold WS at he
 split at he
 ·split at he
  ·rename_i k1 l k2 c hc
   obtain ⟨H', h1, h2⟩ := h.rowP _ _ _ v E' he
   refine ⟨H', ?_, h2⟩
   simp only [wu, kQ]
   rw [if_pos hc, ← h1]
   congr 4
   rw [fN, List.map_flatten, List.map_replicate, show List.map (bw g d) zero = zero from hz]
  ·cases he
 ·cases he
theorem HR.app (h : HR g d F E H) (e by' : Nat) (x y : Value) : dv g d F (aiA e by' x y E) (dq e by' ((bw g d) x) ((bw g d) y) H) := by
 intro v E' he
 unfold aiA at he
 unfold dq
 rw [h.row]
 obtain ⟨r, hr, he⟩ := Option.bind_eq_some_iff.1 he
 rw [hr]
 simp only [Option.map_some, Option.bind_some]
 rw [show (fN g d r.2).all Value.oneCell' = r.2.all Value.oneCell' from RW _]
 split at he
 ·rename_i hc
  rw [if_pos hc]
  split at he
  ·rename_i n k
   simp only [fm, Option.map_none]
   split at he
   ·rename_i h0
    rw [if_pos h0]
    split at he
    ·rename_i h1
     rw [if_pos h1]; cases he; exact ⟨H, by simp, h⟩
    ·rename_i h1
     rw [if_neg h1]
     split at he
     ·rename_i h2
      rw [if_pos h2]
      exact h.rowP _ _ _ v E' he
     ·cases he
   ·cases he
  ·rename_i _ b o n e' _
   simp only [fm, Option.map_some, xt]
   split at he
   ·rename_i h1
    rw [if_pos h1]; cases he; exact ⟨H, by simp [xt], h⟩
   ·rename_i h1
    rw [if_neg h1]
    split at he
    ·rename_i h2
     rw [if_pos h2]
     split at he
     ·rename_i h3
      rw [if_pos h3]
      exact h.rowP _ _ _ v E' he
     ·cases he
    ·rename_i h2
     rw [if_neg h2]
     split at he
     ·rename_i cs hb
      have hg : H.get (yD g d b) = some (.cells false (fN g d cs)) := by rw [h.get, hb]; rfl
      rw [hg]
      simp only
      rw [show (fN g d cs).length = cs.length from List.length_map _]
      split at he
      ·rename_i h3
       rw [if_pos h3]
       obtain ⟨E1, h4, he⟩ := Option.bind_eq_some_iff.1 he
       have hs := h.set (h.lt hb) h4
       obtain ⟨H', h5, h6⟩ := hs.rowP _ _ _ v E' he
       refine ⟨H', ?_, h6⟩
       rw [← h5, AH.size_set]
       simp [KR, fN, List.map_take, List.map_drop]
      ·cases he
     ·cases he
  ·cases he
 ·cases he
end
abbrev TF := Nat → List Value → EH → Option (Value × EH)
def Ck (P : Program) (b : Builtin) (argTypes : Array TypeId) (args : List Value) (E : EH) : Option (Value × EH) :=
 match b, args with
 | .len, [x] => match (argTypes[0]?).bind fun t => P.underlying t with
  | some (.slice _) => match x with | .slice _ _ _ => (oI x).map (·, E) | _ => none
  | some .string => match x with | .string _ => (oI x).map (·, E) | _ => none
  | some (.map _ _) => (Ds x E).map (·, E)
  | _ => none
 | .max, args => (gL args).map (·, E)
 | .min, args => (iJ args).map (·, E)
 | .append, [s, x] => (argTypes[0]?).bind fun t => (bY P t).bind fun el => (b8 P el).bind fun e => (eA P el).bind fun by' => (bC P el).bind fun z =>
  if z.cells.size = e ∧ (argTypes[1]?).bind (fun u => bY P u) = some el then aiA e by' s x E else none
 | .delete, [m, k] => (argTypes[0]?).bind fun t => (b4 P t).bind fun kt => (ch P kt.1).bind fun fl => (E0 fl m k E).map fun E' => (.tuple #[], E')
 | _, _ => none
def tRd (P : Program) (ev : Operand → Value) (op : Op) (E : EH) : Option Value :=
 match op with
 | .load t a => (ed P t).bind fun g => match g with
  | some n => WR n (ev a) E
  | none => WQ (ev a) E
 | .lookup t m k ok => (b4 P t).bind fun kt => (ch P kt.1).bind fun fl => (bC P kt.2).bind fun z => yK fl z (ev m) (ev k) ok E
 | .call c => match c.args.toList.map ev with
  | [x] => match (c.argTypes[0]?).bind fun t => P.underlying t with
   | some (.slice _) => match x with | .slice _ _ _ => oI x | _ => none
   | some .string => match x with | .string _ => oI x | _ => none
   | some (.map _ _) => Ds x E
   | _ => none
  | _ => none
 | _ => none
def uS (P : Program) (call : TF) (ev : Operand → Value) (o : Oper) (E : EH) : Option (Value × EH) :=
 match o.op with
 | .move x => some (ev x, E)
 | .assign x => some (ev x, E)
 | .pick c a b => (aQ (ev c) (ev a) (ev b)).map (·, E)
 | .alloc t => (bC P t).bind fun z => aiC z.cells.toList E
 | .box _ x => aiC (ev x).cells.toList E
 | .build t parts => match P.underlying t with
  | some (.struct fs) => (bC P t).bind fun z => (iB P fs.toList).bind fun ps => (cC (ps[·]?) z.cells.toList (parts.toList.map fun p => (p.1, ev p.2))).map fun cs => (.agg cs.toArray, E)
  | some (.array _ el) => (bC P t).bind fun z => (b8 P el).bind fun e => (cC (fun i => some (i * e, e)) z.cells.toList (parts.toList.map fun p => (p.1, ev p.2))).map fun cs => (.agg cs.toArray, E)
  | _ => none
 | .buildSlice t len parts => (bY P t).bind fun el => (b8 P el).bind fun e => (bC P el).bind fun z =>
  if 0 < e ∧ z.cells.size = e ∧ len * e ≤ 2 ^ 24 then
   (cC (fun i => some (i * e, e)) (List.replicate len z.cells.toList).flatten (parts.toList.map fun p => (p.1, ev p.2))).bind fun cs => Dt len e cs E
  else none
 | .load t a => (ed P t).bind fun g => match g with
  | some n => (WR n (ev a) E).map (·, E)
  | none => (WQ (ev a) E).map (·, E)
 | .store t a x => (b8 P t).bind fun n => (eSt n (ev a) (ev x) E).map fun E' => (undef, E')
 | .nilCheck x => (ss (ev x)).map (·, E)
 | .binOp op t x y _ => (ai (wI P t) op (ev x) (ev y)).map (·, E)
 | .unOp op _ x => (ot op (ev x)).map (·, E)
 | .convert src dst x => match P.underlying src with
  | some _ => (bJ (pp P dst) (ev x)).map (·, E)
  | none => none
 | .makeFunc fn first captured => some (.func fn (first.map ev) (captured.map ev), E)
 | .makeMap _ none => (E.push (.map [] 0)).map fun E' => (.map (some E.n), E')
 | .makeSlice t l c => (bY P t).bind fun el => (b8 P el).bind fun e => (eA P el).bind fun by' => (bC P el).bind fun z => WS z.cells.toList e by' (ev l) (ev c) E
 | .slice t x lo hi none => (bY P t).bind fun el => (b8 P el).bind fun e => (d5 e (ev x) (lo.map ev) (hi.map ev)).map (·, E)
 | .slice t x none (some hi) (some mx) => (bY P t).bind fun el => (b8 P el).bind fun _ => (iA (ev x) (ev hi) (ev mx)).map (·, E)
 | .fieldAddr s x f => (ji P s f).bind fun f => (b8 P f.type).bind fun n => if n = 0 then none else (C3 f.offset (ev x)).map (·, E)
 | .field s x f => (ji P s f).bind fun f => (ed P f.type).bind fun n => (jU n f.offset (ev x)).map (·, E)
 | .indexAddr t x i => match P.underlying t with
  | some (.slice el) => (b8 P el).bind fun e => (mY e (ev x) (ev i)).map (·, E)
  | some (.array len el) => (b8 P el).bind fun e => (gX len e (ev x) (ev i)).map (·, E)
  | _ => none
 | .index t x i => match P.underlying t with
  | some (.array len el) => (b8 P el).bind fun e => (ed P el).bind fun n => (iz len n e (ev x) (ev i)).map (·, E)
  | some .string => (iy (ev x) (ev i)).map (·, E)
  | _ => none
 | .lookup t m k ok => (b4 P t).bind fun kt => (ch P kt.1).bind fun fl => (bC P kt.2).bind fun z => (yK fl z (ev m) (ev k) ok E).map (·, E)
 | .mapUpdate t m k x => (b4 P t).bind fun kt => (ch P kt.1).bind fun fl => (E8 fl (ev m) (ev k) (ev x) E).map fun E' => (undef, E')
 | .extract t i => (aj (ev t) i).map (·, E)
 | .call c => match c.callee with
  | .builtin b => Ck P b c.argTypes (c.args.toList.map ev) E
  | .value f => (bM (ev f) (c.args.toList.map ev)).bind fun fa => call fa.1 fa.2 E
  | _ => none
 | _ => none
section
variable {P : Program} {g d : Nat} {F : List AObj} {E E' : EH} {H : AH}
theorem jf {t : TypeId} {z : Value} (h : bC P t = some z) : (bw g d) z = z ∧ fN g d z.cells.toList = z.cells.toList := by
 obtain ⟨i, _, _, h1, h2⟩ := cu h
 exact ⟨Km h2, uO h1⟩
theorem dv.val (h : HR g d F E H) {x y : Option Value} (e : y = x.map (bw g d)) : dv g d F (x.map (·, E)) (y.map (·, H)) := by
 intro v E' hx
 obtain ⟨z, hz, e1⟩ := Option.map_eq_some_iff.1 hx
 cases e1
 rw [e, hz]
 exact ⟨H, rfl, h⟩
theorem dv.bind {α : Type} {o : Option α} {f : α → Option (Value × EH)} {f' : α → Option (Value × AH)} (h : ∀ a, o = some a → dv g d F (f a) (f' a)) : dv g d F (o.bind f) (o.bind f') := by
 intro v E' hx
 obtain ⟨a, ha, hx⟩ := Option.bind_eq_some_iff.1 hx
 rw [ha]
 exact h a ha v E' hx
theorem dv.no {y : Option (Value × AH)} : dv g d F none y := fun v E' h => by cases h
theorem dv.ite {c : Prop} [Decidable c] {x : Option (Value × EH)} {y : Option (Value × AH)} (h : c → dv g d F x y) : dv g d F (if c then x else none) (if c then y else none) := by
 intro v E' hx
 split at hx
 ·rename_i hc; rw [if_pos hc]; exact h hc v E' hx
 ·cases hx
theorem dv.heap {x : Option EH} {y : Option AH} (v : Value) (hv : (bw g d) v = v) (h : ad9 g d F x y) : dv g d F (x.map fun E' => (v, E')) (y.map fun H' => (v, H')) := by
 intro v' E' hx
 obtain ⟨E1, h1, e⟩ := Option.map_eq_some_iff.1 hx
 cases e
 obtain ⟨H', h2, h3⟩ := h E' h1
 exact ⟨H', by rw [h2, hv]; rfl, h3⟩
theorem Lx {ev ev' : Operand → Value} {l : List Operand} (h : ∀ x ∈ l, ev' x = (bw g d) (ev x)) : l.map ev' = fN g d (l.map ev) := by
 rw [fN, List.map_map]
 exact List.map_congr_left h
theorem Ia (h : HR g d F E H) (b : Builtin) (ats : Array TypeId) (args : List Value) : dv g d F (Ck P b ats args E) (cg P b ats (fN g d args) H) := by
 intro v E' hx
 unfold Ck at hx
 split at hx
 ·rename_i x
  simp only [fN, List.map_cons, List.map_nil, cg]
  split at hx
  ·rename_i hu
   rw [hu]
   simp only
   split at hx
   ·simp only [fm]
    exact dv.val h (by rw [← fm, af5]) v E' hx
   ·cases hx
  ·rename_i hu
   rw [hu]
   simp only
   split at hx
   ·simp only [EC]
    exact dv.val h (by simp [oI]) v E' hx
   ·cases hx
  ·rename_i hu
   rw [hu]
   exact dv.val h (h.lenM _) v E' hx
  ·cases hx
 ·exact dv.val h (af6 _) v E' hx
 ·exact dv.val h (af7 _) v E' hx
 ·simp only [fN, List.map_cons, List.map_nil, cg]
  exact dv.bind (fun t _ => dv.bind fun el _ => dv.bind fun e _ => dv.bind fun by' _ => dv.bind fun z _ => dv.ite fun _ => h.app _ _ _ _) v E' hx
 ·simp only [fN, List.map_cons, List.map_nil, cg]
  exact dv.bind (fun t _ => dv.bind fun kt _ => dv.bind fun fl _ => dv.heap _ (by simp) (h.delete _ _ _)) v E' hx
 ·cases hx
theorem ahL (h : HR g d F E H) {ev ev' : Operand → Value} {op : Op} (hev : ∀ x, x ∈ op.operands.toList → ev' x = (bw g d) (ev x)) : zw P ev' op H = (tRd P ev op E).map (bw g d) := by
 cases op with
 | load t a =>
  simp only [zw, tRd]
  rw [hev a (by simp [Op.operands])]
  cases ed P t with
  | none => rfl
  | some n => cases n with
   | none => exact h.ld1 _
   | some n => exact h.ldN _ _
 | lookup t m k ok =>
  simp only [zw, tRd]
  rw [hev m (by simp [Op.operands]), hev k (by simp [Op.operands])]
  cases b4 P t with
  | none => rfl
  | some kt =>
   simp only [Option.bind_some]
   cases ch P kt.1 with
   | none => rfl
   | some fl =>
    simp only [Option.bind_some]
    cases hz : bC P kt.2 with
    | none => rfl
    | some z => exact h.lookup fl (jf hz).1 _ _ _
 | call c =>
  have ha : c.args.toList.map ev' = fN g d (c.args.toList.map ev) := Lx fun x hx => hev x (by simp only [Op.operands, Call.operands, Array.toList_append, List.mem_append]; exact .inr hx)
  simp only [zw, tRd]
  rw [ha]
  generalize c.args.toList.map ev = l
  match l with
  | [] => rfl
  | [x] =>
   simp only [fN, List.map_cons, List.map_nil]
   generalize (c.argTypes[0]?).bind (fun t => P.underlying t) = u
   cases u with
   | none => rfl
   | some u => cases u <;> first | rfl | exact h.lenM _ | (cases x <;> simp [oI])
  | x :: y :: l => rfl
 | _ => rfl
def p8 (g d : Nat) (F : List AObj) (c : TF) (c' : bh) : Prop := ∀ (E : EH) (H : AH) f args, HR g d F E H → dv g d F (c f args E) (c' f (fN g d args) H)
theorem ai6 (h : HR g d F E H) {c : TF} {c' : bh} (hc : p8 g d F c c') {ev ev' : Operand → Value} {o : Oper} (hev : ∀ x, x ∈ o.op.operands.toList → ev' x = (bw g d) (ev x)) :
 dv g d F (uS P c ev o E) (dE P c' ev' o H) := by
 obtain ⟨dst, op, type, pos, after, guard⟩ := o
 simp only at hev
 have fill : ∀ (parts : Array (Nat × Operand)), (∀ x, x ∈ (parts.toList.map (·.2)) → ev' x = (bw g d) (ev x)) → (parts.toList.map fun p => (p.1, ev' p.2)) = (parts.toList.map fun p => (p.1, ev p.2)).map fun p => (p.1, (bw g d) p.2) := by
  intro parts hp
  rw [List.map_map]
  refine List.map_congr_left fun p hpm => ?_
  simp only [Function.comp]
  rw [hp p.2 (List.mem_map_of_mem hpm)]
 have arr : ∀ (l : Array Operand), (∀ x ∈ l.toList, ev' x = (bw g d) (ev x)) → l.map ev' = (l.map ev).map (bw g d) := by
  intro l hl
  apply Array.toList_inj.1
  rw [Array.toList_map, Array.toList_map, Array.toList_map]
  exact Lx hl
 cases op
 case move x => intro v E' hx; simp only [uS] at hx; cases hx; exact ⟨H, by simp only [dE]; rw [hev x (by simp [Op.operands])], h⟩
 case assign x => intro v E' hx; simp only [uS] at hx; cases hx; exact ⟨H, by simp only [dE]; rw [hev x (by simp [Op.operands])], h⟩
 case pick k a b =>
  simp only [uS, dE]
  rw [hev k (by simp [Op.operands]), hev a (by simp [Op.operands]), hev b (by simp [Op.operands])]
  exact dv.val h (acU _ _ _)
 case alloc t =>
  intro v E' hx
  simp only [uS] at hx
  simp only [dE]
  obtain ⟨z, hz, hx⟩ := Option.bind_eq_some_iff.1 hx
  rw [hz]
  have := h.new' _ v E' hx
  rw [(jf hz).2] at this
  exact this
 case box t x =>
  simp only [uS, dE]
  rw [hev x (by simp [Op.operands]), VJ]
  exact h.new' _
 case build t parts =>
  have hp := fill parts fun x hx => hev x (by simpa [Op.operands] using hx)
  intro v E' hx
  simp only [uS] at hx
  simp only [dE]
  rw [hp]
  split at hx
  ·rename_i fs hu
   rw [hu]
   simp only
   obtain ⟨z, hz, hx⟩ := Option.bind_eq_some_iff.1 hx
   obtain ⟨ps, hps, hx⟩ := Option.bind_eq_some_iff.1 hx
   obtain ⟨cs, hcs, e⟩ := Option.map_eq_some_iff.1 hx
   cases e
   have hf := Cf (g := g) (d := d) (ps[·]?) (parts.toList.map fun p => (p.1, ev p.2)) z.cells.toList
   rw [(jf hz).2, hcs] at hf
   rw [hz, hps]
   simp only [Option.bind_some]
   rw [hf]
   exact ⟨H, by simp, h⟩
  ·rename_i el hu
   rw [hu]
   simp only
   obtain ⟨z, hz, hx⟩ := Option.bind_eq_some_iff.1 hx
   obtain ⟨e, he, hx⟩ := Option.bind_eq_some_iff.1 hx
   obtain ⟨cs, hcs, e⟩ := Option.map_eq_some_iff.1 hx
   cases e
   have hf := Cf (g := g) (d := d) (fun i => some (i * e, e)) (parts.toList.map fun p => (p.1, ev p.2)) z.cells.toList
   rw [(jf hz).2, hcs] at hf
   rw [hz, he]
   simp only [Option.bind_some]
   rw [hf]
   exact ⟨H, by simp, h⟩
  ·cases hx
 case buildSlice t len parts =>
  have hp := fill parts fun x hx => hev x (by simpa [Op.operands] using hx)
  simp only [uS, dE]
  rw [hp]
  refine dv.bind fun el _ => dv.bind fun e _ => dv.bind fun z hz => dv.ite fun _ => ?_
  intro v E' hx
  obtain ⟨cs, hcs, hx⟩ := Option.bind_eq_some_iff.1 hx
  have hf := Cf (g := g) (d := d) (fun i => some (i * e, e)) (parts.toList.map fun p => (p.1, ev p.2)) (List.replicate len z.cells.toList).flatten
  rw [hcs, show fN g d (List.replicate len z.cells.toList).flatten = (List.replicate len z.cells.toList).flatten from by
   rw [fN, List.map_flatten, List.map_replicate, show List.map (bw g d) z.cells.toList = z.cells.toList from (jf hz).2]] at hf
  rw [hf]
  exact h.rowP _ _ _ v E' hx
 case load t a =>
  simp only [uS, dE]
  rw [hev a (by simp [Op.operands])]
  refine dv.bind fun n _ => ?_
  cases n with
  | none => exact dv.val h (h.ld1 _)
  | some n => exact dv.val h (h.ldN _ _)
 case store t a x =>
  simp only [uS, dE]
  rw [hev a (by simp [Op.operands]), hev x (by simp [Op.operands])]
  exact dv.bind fun n _ => dv.heap _ pS (h.st _ _ _)
 case nilCheck x =>
  simp only [uS, dE]
  rw [hev x (by simp [Op.operands])]
  exact dv.val h (af8 _)
 case binOp op t x y z =>
  simp only [uS, dE]
  rw [hev x (by simp [Op.operands]), hev y (by simp [Op.operands])]
  exact dv.val h (af2 _ _ _ _)
 case unOp op t x =>
  simp only [uS, dE]
  rw [hev x (by simp [Op.operands])]
  exact dv.val h (ajW _ _)
 case convert src dst x =>
  simp only [uS, dE]
  rw [hev x (by simp [Op.operands])]
  split
  ·rename_i hu; rw [hu]; exact dv.val h (acQ _ _)
  ·exact dv.no
 case makeFunc fn first captured =>
  simp only [uS, dE]
  rw [arr first fun x hx => hev x (by simp only [Op.operands, Array.toList_append, List.mem_append]; exact .inl hx), arr captured fun x hx => hev x (by simp only [Op.operands, Array.toList_append, List.mem_append]; exact .inr hx)]
  intro v E' hx; cases hx; exact ⟨H, by simp, h⟩
 case makeMap t r =>
  cases r with
  | none =>
   intro v E' hx
   simp only [uS] at hx
   simp only [dE]
   obtain ⟨E1, h1, e⟩ := Option.map_eq_some_iff.1 hx
   cases e
   exact ⟨H.push (KR g d (.map [] 0)), by simp [h.new, KR], h.push h1⟩
  | some r => exact dv.no
 case makeSlice t l k =>
  simp only [uS, dE]
  rw [hev l (by simp [Op.operands]), hev k (by simp [Op.operands])]
  exact dv.bind fun el _ => dv.bind fun e _ => dv.bind fun by' _ => dv.bind fun z hz => h.make (jf hz).2 _ _ _ _
 case slice t x lo hi mx =>
  have hx := hev x (by simp [Op.operands])
  have ho : ∀ (q : Option Operand), (∀ y ∈ q.toArray.toList, ev' y = (bw g d) (ev y)) → q.map ev' = (q.map ev).map (bw g d) := by
   intro q hq
   cases q with
   | none => rfl
   | some y => simp [hq y (by simp)]
  have hlo : lo.map ev' = (lo.map ev).map (bw g d) := ho lo fun y hy => hev y (by simp only [Op.operands, Array.toList_append, List.mem_append]; exact .inl (.inl (.inr hy)))
  have hhi : hi.map ev' = (hi.map ev).map (bw g d) := ho hi fun y hy => hev y (by simp only [Op.operands, Array.toList_append, List.mem_append]; exact .inl (.inr hy))
  have hmx : mx.map ev' = (mx.map ev).map (bw g d) := ho mx fun y hy => hev y (by simp only [Op.operands, Array.toList_append, List.mem_append]; exact .inr hy)
  cases mx with
  | none =>
   simp only [uS, dE]
   rw [hx, hlo, hhi]
   exact dv.bind fun el _ => dv.bind fun e _ => dv.val h (VK _ _ _ _)
  | some mx =>
   cases lo with
   | some lo => cases hi <;> exact dv.no
   | none =>
    cases hi with
    | none => exact dv.no
    | some hi =>
     simp only [Option.map_some, Option.some.injEq] at hhi hmx
     simp only [uS, dE]
     rw [hx, hhi, hmx]
     refine dv.bind fun el _ => dv.bind fun e _ => ?_
     intro v E' hv
     obtain ⟨z, hz, e⟩ := Option.map_eq_some_iff.1 hv
     cases e
     rw [Ov hz]
     exact ⟨H, rfl, h⟩
 case fieldAddr st x f =>
  simp only [uS, dE]
  rw [hev x (by simp [Op.operands])]
  refine dv.bind fun f _ => dv.bind fun n _ => ?_
  split
  ·exact dv.no
  ·exact dv.val h (af3 _ _)
 case field st x f =>
  simp only [uS, dE]
  rw [hev x (by simp [Op.operands])]
  exact dv.bind fun f _ => dv.bind fun n _ => dv.val h (acT _ _ _)
 case indexAddr t x i =>
  simp only [uS, dE]
  rw [hev x (by simp [Op.operands]), hev i (by simp [Op.operands])]
  split
  ·rename_i hu; rw [hu]; exact dv.bind fun e _ => dv.val h (af4 _ _ _)
  ·rename_i hu; rw [hu]; exact dv.bind fun e _ => dv.val h (acS _ _ _ _)
  ·exact dv.no
 case index t x i =>
  simp only [uS, dE]
  rw [hev x (by simp [Op.operands]), hev i (by simp [Op.operands])]
  split
  ·rename_i hu; rw [hu]; exact dv.bind fun e _ => dv.bind fun n _ => dv.val h (Ou _ _ _ _ _)
  ·rename_i hu; rw [hu]; exact dv.val h (Ot _ _)
  ·exact dv.no
 case lookup t m k ok =>
  simp only [uS, dE]
  rw [hev m (by simp [Op.operands]), hev k (by simp [Op.operands])]
  exact dv.bind fun kt _ => dv.bind fun fl _ => dv.bind fun z hz => dv.val h (h.lookup fl (jf hz).1 _ _ _)
 case mapUpdate t m k x =>
  simp only [uS, dE]
  rw [hev m (by simp [Op.operands]), hev k (by simp [Op.operands]), hev x (by simp [Op.operands])]
  exact dv.bind fun kt _ => dv.bind fun fl _ => dv.heap _ pS (h.update _ _ _ _)
 case extract t i =>
  simp only [uS, dE]
  rw [hev t (by simp [Op.operands])]
  exact dv.val h (Kn _ _)
 case call k =>
  obtain ⟨callee, args, ats⟩ := k
  have ha : args.toList.map ev' = fN g d (args.toList.map ev) := Lx fun x hx => hev x (by simp only [Op.operands, Call.operands, Array.toList_append, List.mem_append]; exact .inr hx)
  cases callee with
  | builtin b =>
   simp only [uS, dE]
   rw [ha]
   exact Ia h _ _ _
  | value f =>
   simp only [uS, dE]
   rw [ha, hev f (by simp [Op.operands, Call.operands])]
   intro v E' hx
   obtain ⟨q, hq, hx⟩ := Option.bind_eq_some_iff.1 hx
   rw [Oq, hq]
   exact hc E H _ _ h v E' hx
  | invoke r m => exact dv.no
 all_goals exact dv.no
end
end Go.Proofs.YtodpbobjmkhcfaaGreatDoor.Gst
